/- A fault that is nil has no text, and nothing within it; one that says nothing has the number 0. No condition but what the listed variable holds, which the card ties. -/
import Derived.Test.YtcgagmojgjbfpaaDoorJd
import Derived.Test.YtcgagmojgjbfpaaDoorCards
import Derived.Test.YtcgagmojgjbfpaaDoorTie
import Derived.SevenTiedAt
import Derived.Test.YtcgagmojgjbfpaaDoorDe
namespace Go.Proofs.YtcgagmojgjbfpaaDoor
open Go Go.ChangeShapes Go.WideShapes Go.ChangeAt Go.RowKit
set_option maxRecDepth 100000 in
theorem faultNobody_lifted (os : Os) (started : os.Started) (H : Type) (enc : TypeId × Value → H) :
    ReturnsInHanded {} Tryd.checked os 5 .any (fun w args => (Rows.faultNobodySpec.pre enc Tryd.prog Tryd.f5 Rows.faultNobodyRow.domain false w args ∧ laidMetH Tryd.prog Rows.faultNobodyRow.laid w) ∧ sizedMet enc Tryd.prog Tryd.f5 (OpenSpec.ofChange Rows.faultNobodySpec) false w args) (Rows.faultNobodySpec.post enc Tryd.prog Tryd.f5 false true false false) := by
  refine returnsInHanded_of_change_and (C := Tryd.checked) (X := fun w _ => laidMetH Tryd.prog Rows.faultNobodyRow.laid w) (fun _ _ _ hh h => h.of_heap hh) j_own started (by kernel_rfl) Tryd.func5
    (ChangeSpec.witness_at (enc := enc) (C := Tryd.checked) (os := os) (X := fun w _ => laidMetH Tryd.prog Rows.faultNobodyRow.laid w) false (laidWorld os) #[.int .i64 0] 8 rfl (by kernel_rfl) (by kernel_rfl) (by kernel_rfl) (by kernel_rfl) (by kernel_rfl) (laidWorld_met os _)) ?_
  intro W base args ds gs before hval0 hW hcnd _ hL _
  have hE : EtOk W := et_of_laid hL
  have hval : ∀ (j : Nat) t v, Tryd.f5.params[j]? = some t → args[j]? = some v → Value.okWide Tryd.prog W .any base t v := hval0
  have hW' := hW
  obtain ⟨p, q, hA0, hV, rfl, hfz, hnd⟩ := hW
  have hA : DataW.TrodAll enc Tryd.prog W 0 (fun _ => true) true Tryd.f5.params.toList args.toList ds p := hA0
  rw [Tryd.params5] at hA hval
  obtain ⟨v0, vs0, d0, ds0, p0, q0, hargs, rfl, rfl, h0, r0⟩ := trodAll_cons hA
  obtain ⟨rfl, rfl, rfl⟩ := trodAll_nil r0
  obtain rfl : args = #[v0] := by cases args; simp_all
  obtain ⟨rfl, rfl⟩ := trodVars_none hV
  have hk0 := h0
  have lt0 : ∀ x ∈ p0, x.block < W.heap.size := by obtain ⟨m, hm⟩ := hk0; exact DataW.trod_lt m _ _ _ hm
  obtain ⟨x0, rfl, hd0, hp0, w0⟩ := open_int Tryd.underlying3 (hval 0 3 v0 rfl rfl) h0
  have k0 : -9223372036854775808 ≤ x0 ∧ x0 ≤ 9223372036854775807 := by have := wf_range w0; simp [IntKind.signed, IntKind.bits] at this; omega
  clear hA0 hval0
  refine (FaultNobody_calls (n := x0) hE).mono fun e W' ⟨he, hS⟩ => ?_
  subst he
  exact ⟨_, rfl, _, _, _, [], _, [], hW', trodAll_mk1 (shut_bool Tryd.underlying4 _), (trodAll_cons_mk (Below.trod j_laid (by kernel_rfl) (of_decide_eq_true (by kernel_rfl)) hk0 hS.below lt0) trodAll_mk0), rfl, hS.below.frame _, fun h => by cases h⟩
theorem faultNobody_named : Tryd.pinned.checked.prog.funcNamed Rows.faultNobodyRow.func = some 5 := by kernel_rfl
theorem faultNobody_closed : joinedFacts Tryd.pinned.checked.prog 5 Tryd.f5 Rows.faultNobodySpec Rows.faultNobodyRow = true := joined_of (by kernel_rfl) j_laid j_maps (by kernel_rfl) (by kernel_rfl) (by kernel_rfl) j_stops (by kernel_rfl) j_knobs (by kernel_rfl) (by kernel_rfl) (by kernel_rfl) (by kernel_rfl) (by kernel_rfl) (by kernel_rfl) (by kernel_rfl) (by kernel_rfl) (by kernel_rfl) (by kernel_rfl) (by kernel_rfl) (by kernel_rfl) (by kernel_rfl) (by kernel_rfl) (by kernel_rfl) j_heard j_enter j_lifted.symm j_make (by kernel_rfl) (by kernel_rfl) (by kernel_rfl) (by kernel_rfl)
theorem faultNobody_said : Rows.FaultNobodySaid :=
  OpenClaim.holds_of_wide 5 Tryd.f5 rfl rfl rfl rfl rfl rfl rfl ⟨rfl, rfl, rfl, rfl, rfl⟩ rfl rfl rfl rfl rfl faultNobody_named Tryd.func5 faultNobody_closed
    (of_decide_eq_true (by kernel_rfl)) (by unfold Func.isWrapper; rw [if_neg (of_decide_eq_false (by kernel_rfl))]; exact ⟨rfl, rfl⟩)
    (fun os started H enc _ => faultNobody_lifted os started H enc)
theorem faultNobody_proved : Rows.FaultNobodyCardSaid :=
  Claim7.holds_tied_plain_at .later [] [.handle] true (true, "5d57dd9daa0d2f45124048d8211a23443d8eff06df87f613d32eb801b5e11e89") true
    faultNobody_said (fun _ h => by cases h) (by kernel_rfl) (fun _ h => by cases h) faultNobody_row_tie rfl ⟨rfl, rfl⟩ (by kernel_rfl) rfl
    (fun f fn hf hfn => by
      obtain rfl : f = 5 := Option.some.inj ((show Tryd.prog.funcNamed "jobber/jobberlaw04.FaultNobody" = some 5 by kernel_rfl).symm.trans hf) |>.symm
      obtain rfl : fn = Tryd.f5 := (Option.some.inj (Tryd.func5.symm.trans hfn)).symm
      exact ⟨by kernel_rfl, fun j t ht => by
        rw [Tryd.params5] at ht
        rcases (show j = 0 ∨ 1 ≤ j by omega) with rfl | hj
        · obtain rfl : t = 3 := by simpa using ht.symm
          exact (show Tryd.prog.wantsStandIn 3 = false by kernel_rfl)
        · rw [Array.getElem?_eq_none (by simpa using hj)] at ht; cases ht⟩)
    (by kernel_rfl)
end Go.Proofs.YtcgagmojgjbfpaaDoor
