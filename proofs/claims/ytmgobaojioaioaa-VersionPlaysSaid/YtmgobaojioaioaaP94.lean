/- Whatever is done, at whatever entry, the board is the document's, and it stays sound. No condition. -/
import Derived.Test.YtmgobaojioaioaaJn
import Derived.Test.YtmgobaojioaioaaL94
namespace Go.Proofs.Ytmgobaojioaioaa
open Go Go.ChangeShapes Go.WideShapes Go.ChangeAt Go.RowKit
set_option maxRecDepth 100000 in
theorem versionPlays_lifted (os : Os) (started : os.Started) (H : Type) (enc : TypeId × Value → H) :
    ReturnsInHanded {} Try.checked os 14 .any (Rows.versionPlaysSpec.pre6 enc Try.prog Try.f14 Rows.versionPlaysRow.domain false) (Rows.versionPlaysSpec.post enc Try.prog Try.f14 false true false false) := by
  refine returnsInHanded_of_change (C := Try.checked) j_own started (by kernel_rfl) Try.func14
    (ChangeSpec.witness6 (enc := enc) (C := Try.checked) false ⟨#[], #[.int .i64 0, .slice none 0 0], []⟩ 8 (by kernel_rfl) (by kernel_rfl) (by kernel_rfl) (by kernel_rfl)) ?_
  intro W base args ds gs before hval0 hW hcnd _
  have hval : ∀ (j : Nat) t v, Try.f14.params[j]? = some t → args[j]? = some v → Value.okWide Try.prog W .any base t v := hval0
  have hW' := hW
  obtain ⟨p, q, hA0, hV, rfl, hfz, hnd⟩ := hW
  have hA : DataW.TrodAll enc Try.prog W 0 (fun _ => true) true Try.f14.params.toList args.toList ds p := hA0
  rw [Try.params14] at hA hval
  obtain ⟨v0, vs0, d0, ds0, p0, q0, hargs, rfl, rfl, h0, r0⟩ := trodAll_cons hA
  obtain ⟨v1, vs1, d1, ds1, p1, q1, rfl, rfl, rfl, h1, r1⟩ := trodAll_cons r0
  obtain ⟨rfl, rfl, rfl⟩ := trodAll_nil r1
  obtain rfl : args = #[v0, v1] := by cases args; simp_all
  obtain ⟨rfl, rfl⟩ := trodVars_none hV
  have hk0 := h0
  have lt0 : ∀ x ∈ p0, x.block < W.heap.size := by obtain ⟨m, hm⟩ := hk0; exact DataW.trod_lt m _ _ _ hm
  obtain ⟨x0, rfl, hd0, hp0, w0⟩ := open_int Try.underlying3 (hval 0 3 v0 rfl rfl) h0
  have k0 : -9223372036854775808 ≤ x0 ∧ x0 ≤ 9223372036854775807 := by have := wf_range w0; simp [IntKind.signed, IntKind.bits] at this; omega
  have hk1 := h1
  have lt1 : ∀ x ∈ p1, x.block < W.heap.size := by obtain ⟨m, hm⟩ := hk1; exact DataW.trod_lt m _ _ _ hm
  obtain ⟨a1, n1, c1, rfl⟩ := okWide_slice Try.underlying22 (hval 1 22 v1 rfl rfl)
  obtain ⟨x1, e1, k1⟩ : ∃ s : Sl CmdV, [Value.slice a1 n1 c1] = Sl.cells s ∧ (Sl.Ok 22 CmdV.cells (CmdV.Ok W) W) s := by
    obtain ⟨fuel, hf⟩ := h1
    exact (opn_slice (β := CmdV) (size := 22) Try.underlying22 (by kernel_rfl) (by decide) opn_CmdV) fuel _ _ hf
  simp only [Sl.cells, List.cons.injEq, Value.slice.injEq, and_true] at e1
  obtain ⟨rfl, rfl, rfl⟩ := e1
  clear hA0 hval0
  refine (VersionPlays_calls (m := x0) (l := x1.l) k1.rd (by have := k1.le; omega) k1.el).mono fun e W' ⟨he, hS⟩ => ?_
  subst he
  exact ⟨_, rfl, _, _, _, [], _, [], hW', trodAll_mk1 (shut_bool Try.underlying4 _), (trodAll_cons_mk (Below.trod j_laid (by kernel_rfl) (of_decide_eq_true (by kernel_rfl)) hk0 hS.below lt0) (trodAll_cons_mk (Below.trod j_laid (by kernel_rfl) (of_decide_eq_true (by kernel_rfl)) hk1 hS.below lt1) trodAll_mk0)), rfl, hS.below.frame _, fun h => by cases h⟩
theorem versionPlays_named : Try.pinned.checked.prog.funcNamed Rows.versionPlaysRow.func = some 14 := by kernel_rfl
theorem versionPlays_closed : joinedFacts Try.pinned.checked.prog 14 Try.f14 Rows.versionPlaysSpec Rows.versionPlaysRow = true := joined_of (by kernel_rfl) j_laid j_maps (by kernel_rfl) (by kernel_rfl) (by kernel_rfl) j_stops (by kernel_rfl) j_knobs (by kernel_rfl) (by kernel_rfl) (by kernel_rfl) (by kernel_rfl) (by kernel_rfl) (by kernel_rfl) (by kernel_rfl) (by kernel_rfl) (by kernel_rfl) (by kernel_rfl) (by kernel_rfl) (by kernel_rfl) (by kernel_rfl) (by kernel_rfl) (by kernel_rfl) j_heard j_enter j_lifted.symm j_make (by kernel_rfl) (by kernel_rfl) (by kernel_rfl) (by kernel_rfl)
theorem versionPlays_proved : Rows.VersionPlaysSaid :=
  OpenClaim.holds_of_wide 14 Try.f14 rfl rfl rfl rfl rfl rfl rfl ⟨rfl, rfl, rfl, rfl, rfl⟩ rfl rfl rfl rfl rfl versionPlays_named Try.func14 versionPlays_closed
    (of_decide_eq_true (by kernel_rfl)) (by unfold Func.isWrapper; rw [if_neg (of_decide_eq_false (by kernel_rfl))]; exact ⟨rfl, rfl⟩)
    (fun os started H enc _ => versionPlays_lifted os started H enc)
end Go.Proofs.Ytmgobaojioaioaa
