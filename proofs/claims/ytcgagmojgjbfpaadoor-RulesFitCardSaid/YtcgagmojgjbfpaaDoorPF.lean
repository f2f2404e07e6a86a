/- Whether any order may be, by any rule set, and if not why, and who found it, is the document's. No condition but what the listed variable holds, which the card ties. -/
import Derived.Test.YtcgagmojgjbfpaaDoorJd
import Derived.Test.YtcgagmojgjbfpaaDoorCards
import Derived.Test.YtcgagmojgjbfpaaDoorTie
import Derived.SevenTiedAt
import Derived.Test.YtcgagmojgjbfpaaDoorLF
namespace Go.Proofs.YtcgagmojgjbfpaaDoor
open Go Go.ChangeShapes Go.WideShapes Go.ChangeAt Go.RowKit
set_option maxRecDepth 100000 in
theorem rulesFit_lifted (os : Os) (started : os.Started) (H : Type) (enc : TypeId × Value → H) :
    ReturnsInHanded {} Tryd.checked os 7 .any (fun w args => (Rows.rulesFitSpec.pre enc Tryd.prog Tryd.f7 Rows.rulesFitRow.domain false w args ∧ laidMetH Tryd.prog Rows.rulesFitRow.laid w) ∧ sizedMet enc Tryd.prog Tryd.f7 (OpenSpec.ofChange Rows.rulesFitSpec) false w args) (Rows.rulesFitSpec.post enc Tryd.prog Tryd.f7 false true false false) := by
  refine returnsInHanded_of_change_and (C := Tryd.checked) (X := fun w _ => laidMetH Tryd.prog Rows.rulesFitRow.laid w) (fun _ _ _ hh h => h.of_heap hh) j_own started (by kernel_rfl) Tryd.func7
    (ChangeSpec.witness_at (enc := enc) (C := Tryd.checked) (os := os) (X := fun w _ => laidMetH Tryd.prog Rows.rulesFitRow.laid w) false (laidWorld os) #[.agg #[.int .i64 0, .slice none 0 0, .int .i64 0, .int .i64 0, .slice none 0 0, .int .i64 0, .int .i64 0, .int .i64 0, .int .i64 0], .int .i64 0, .int .i64 0, .int .i64 0, .int .i64 0, .int .i64 0] 8 rfl (by kernel_rfl) (by kernel_rfl) (by kernel_rfl) (by kernel_rfl) (by kernel_rfl) (laidWorld_met os _)) ?_
  intro W base args ds gs before hval0 hW hcnd _ hL _
  have hE : EtOk W := et_of_laid hL
  have hval : ∀ (j : Nat) t v, Tryd.f7.params[j]? = some t → args[j]? = some v → Value.okWide Tryd.prog W .any base t v := hval0
  have hW' := hW
  obtain ⟨p, q, hA0, hV, rfl, hfz, hnd⟩ := hW
  have hA : DataW.TrodAll enc Tryd.prog W 0 (fun _ => true) true Tryd.f7.params.toList args.toList ds p := hA0
  rw [Tryd.params7] at hA hval
  obtain ⟨v0, vs0, d0, ds0, p0, q0, hargs, rfl, rfl, h0, r0⟩ := trodAll_cons hA
  obtain ⟨v1, vs1, d1, ds1, p1, q1, rfl, rfl, rfl, h1, r1⟩ := trodAll_cons r0
  obtain ⟨v2, vs2, d2, ds2, p2, q2, rfl, rfl, rfl, h2, r2⟩ := trodAll_cons r1
  obtain ⟨v3, vs3, d3, ds3, p3, q3, rfl, rfl, rfl, h3, r3⟩ := trodAll_cons r2
  obtain ⟨v4, vs4, d4, ds4, p4, q4, rfl, rfl, rfl, h4, r4⟩ := trodAll_cons r3
  obtain ⟨v5, vs5, d5, ds5, p5, q5, rfl, rfl, rfl, h5, r5⟩ := trodAll_cons r4
  obtain ⟨rfl, rfl, rfl⟩ := trodAll_nil r5
  obtain rfl : args = #[v0, v1, v2, v3, v4, v5] := by cases args; simp_all
  obtain ⟨rfl, rfl⟩ := trodVars_none hV
  have hk0 := h0
  have lt0 : ∀ x ∈ p0, x.block < W.heap.size := by obtain ⟨m, hm⟩ := hk0; exact DataW.trod_lt m _ _ _ hm
  obtain ⟨cs0, rfl, _⟩ := okWide_struct Tryd.underlying42 (hval 0 42 v0 rfl rfl)
  obtain ⟨x0, e0, k0⟩ : ∃ s : RuV, cs0.toList = RuV.cells s ∧ (RuV.Ok W) s := by
    obtain ⟨fuel, hf⟩ := h0
    exact opn_RuV fuel _ _ hf
  obtain rfl : cs0 = (RuV.cells x0).toArray := by rw [← e0]
  have hk1 := h1
  have lt1 : ∀ x ∈ p1, x.block < W.heap.size := by obtain ⟨m, hm⟩ := hk1; exact DataW.trod_lt m _ _ _ hm
  obtain ⟨x1, rfl, hd1, hp1, w1⟩ := open_int Tryd.underlying2 (hval 1 2 v1 rfl rfl) h1
  have k1 : -9223372036854775808 ≤ x1 ∧ x1 ≤ 9223372036854775807 := by have := wf_range w1; simp [IntKind.signed, IntKind.bits] at this; omega
  have hk2 := h2
  have lt2 : ∀ x ∈ p2, x.block < W.heap.size := by obtain ⟨m, hm⟩ := hk2; exact DataW.trod_lt m _ _ _ hm
  obtain ⟨x2, rfl, hd2, hp2, w2⟩ := open_int Tryd.underlying3 (hval 2 3 v2 rfl rfl) h2
  have k2 : -9223372036854775808 ≤ x2 ∧ x2 ≤ 9223372036854775807 := by have := wf_range w2; simp [IntKind.signed, IntKind.bits] at this; omega
  have hk3 := h3
  have lt3 : ∀ x ∈ p3, x.block < W.heap.size := by obtain ⟨m, hm⟩ := hk3; exact DataW.trod_lt m _ _ _ hm
  obtain ⟨x3, rfl, hd3, hp3, w3⟩ := open_int Tryd.underlying3 (hval 3 3 v3 rfl rfl) h3
  have k3 : -9223372036854775808 ≤ x3 ∧ x3 ≤ 9223372036854775807 := by have := wf_range w3; simp [IntKind.signed, IntKind.bits] at this; omega
  have hk4 := h4
  have lt4 : ∀ x ∈ p4, x.block < W.heap.size := by obtain ⟨m, hm⟩ := hk4; exact DataW.trod_lt m _ _ _ hm
  obtain ⟨x4, rfl, hd4, hp4, w4⟩ := open_int Tryd.underlying2 (hval 4 2 v4 rfl rfl) h4
  have k4 : -9223372036854775808 ≤ x4 ∧ x4 ≤ 9223372036854775807 := by have := wf_range w4; simp [IntKind.signed, IntKind.bits] at this; omega
  have hk5 := h5
  have lt5 : ∀ x ∈ p5, x.block < W.heap.size := by obtain ⟨m, hm⟩ := hk5; exact DataW.trod_lt m _ _ _ hm
  obtain ⟨x5, rfl, hd5, hp5, w5⟩ := open_int Tryd.underlying2 (hval 5 2 v5 rfl rfl) h5
  have k5 : -9223372036854775808 ≤ x5 ∧ x5 ≤ 9223372036854775807 := by have := wf_range w5; simp [IntKind.signed, IntKind.bits] at this; omega
  clear hA0 hval0
  refine (RulesFit_calls (x := x0) (last := x1) (side := x2) (kind := x3) (price := x4) (qty := x5) hE k0 k1 k4 k5).mono fun e W' ⟨he, hS⟩ => ?_
  subst he
  exact ⟨_, rfl, _, _, _, [], _, [], hW', trodAll_mk1 (shut_bool Tryd.underlying4 _), (trodAll_cons_mk (Below.trod j_laid (by kernel_rfl) (of_decide_eq_true (by kernel_rfl)) hk0 hS.below lt0) (trodAll_cons_mk (Below.trod j_laid (by kernel_rfl) (of_decide_eq_true (by kernel_rfl)) hk1 hS.below lt1) (trodAll_cons_mk (Below.trod j_laid (by kernel_rfl) (of_decide_eq_true (by kernel_rfl)) hk2 hS.below lt2) (trodAll_cons_mk (Below.trod j_laid (by kernel_rfl) (of_decide_eq_true (by kernel_rfl)) hk3 hS.below lt3) (trodAll_cons_mk (Below.trod j_laid (by kernel_rfl) (of_decide_eq_true (by kernel_rfl)) hk4 hS.below lt4) (trodAll_cons_mk (Below.trod j_laid (by kernel_rfl) (of_decide_eq_true (by kernel_rfl)) hk5 hS.below lt5) trodAll_mk0)))))), rfl, hS.below.frame _, fun h => by cases h⟩
theorem rulesFit_named : Tryd.pinned.checked.prog.funcNamed Rows.rulesFitRow.func = some 7 := by kernel_rfl
theorem rulesFit_closed : joinedFacts Tryd.pinned.checked.prog 7 Tryd.f7 Rows.rulesFitSpec Rows.rulesFitRow = true := joined_of (by kernel_rfl) j_laid j_maps (by kernel_rfl) (by kernel_rfl) (by kernel_rfl) j_stops (by kernel_rfl) j_knobs (by kernel_rfl) (by kernel_rfl) (by kernel_rfl) (by kernel_rfl) (by kernel_rfl) (by kernel_rfl) (by kernel_rfl) (by kernel_rfl) (by kernel_rfl) (by kernel_rfl) (by kernel_rfl) (by kernel_rfl) (by kernel_rfl) (by kernel_rfl) (by kernel_rfl) j_heard j_enter j_lifted.symm j_make (by kernel_rfl) (by kernel_rfl) (by kernel_rfl) (by kernel_rfl)
theorem rulesFit_said : Rows.RulesFitSaid :=
  OpenClaim.holds_of_wide 7 Tryd.f7 rfl rfl rfl rfl rfl rfl rfl ⟨rfl, rfl, rfl, rfl, rfl⟩ rfl rfl rfl rfl rfl rulesFit_named Tryd.func7 rulesFit_closed
    (of_decide_eq_true (by kernel_rfl)) (by unfold Func.isWrapper; rw [if_neg (of_decide_eq_false (by kernel_rfl))]; exact ⟨rfl, rfl⟩)
    (fun os started H enc _ => rulesFit_lifted os started H enc)
theorem rulesFit_proved : Rows.RulesFitCardSaid :=
  Claim7.holds_tied_plain_at .later [] [.handle] true (true, "5d57dd9daa0d2f45124048d8211a23443d8eff06df87f613d32eb801b5e11e89") true
    rulesFit_said (fun _ h => by cases h) (by kernel_rfl) (fun _ h => by cases h) rulesFit_row_tie rfl ⟨rfl, rfl⟩ (by kernel_rfl) rfl
    (fun f fn hf hfn => by
      obtain rfl : f = 7 := Option.some.inj ((show Tryd.prog.funcNamed "jobber/jobberlaw09.RulesFit" = some 7 by kernel_rfl).symm.trans hf) |>.symm
      obtain rfl : fn = Tryd.f7 := (Option.some.inj (Tryd.func7.symm.trans hfn)).symm
      exact ⟨by kernel_rfl, fun j t ht => by
        rw [Tryd.params7] at ht
        rcases (show j = 0 ∨ j = 1 ∨ j = 2 ∨ j = 3 ∨ j = 4 ∨ j = 5 ∨ 6 ≤ j by omega) with rfl | rfl | rfl | rfl | rfl | rfl | hj
        · obtain rfl : t = 42 := by simpa using ht.symm
          exact (show Tryd.prog.wantsStandIn 42 = false by kernel_rfl)
        · obtain rfl : t = 2 := by simpa using ht.symm
          exact (show Tryd.prog.wantsStandIn 2 = false by kernel_rfl)
        · obtain rfl : t = 3 := by simpa using ht.symm
          exact (show Tryd.prog.wantsStandIn 3 = false by kernel_rfl)
        · obtain rfl : t = 3 := by simpa using ht.symm
          exact (show Tryd.prog.wantsStandIn 3 = false by kernel_rfl)
        · obtain rfl : t = 2 := by simpa using ht.symm
          exact (show Tryd.prog.wantsStandIn 2 = false by kernel_rfl)
        · obtain rfl : t = 2 := by simpa using ht.symm
          exact (show Tryd.prog.wantsStandIn 2 = false by kernel_rfl)
        · rw [Array.getElem?_eq_none (by simpa using hj)] at ht; cases ht⟩)
    (by kernel_rfl)
end Go.Proofs.YtcgagmojgjbfpaaDoor
