/- Any bytes are read, by any calls, as the document says. No condition. -/
import Derived.Test.YtcikoealneldkaaJn
import Derived.Test.YtcikoealneldkaaL6
namespace Go.Proofs.Ytcikoealneldkaa
open Go Go.ChangeShapes Go.WideShapes Go.ChangeAt Go.RowKit
set_option maxRecDepth 100000 in
theorem codecReads_lifted (os : Os) (started : os.Started) (H : Type) (enc : TypeId × Value → H) :
    ReturnsInHanded {} Try.checked os 6 .any (Rows.codecReadsSpec.pre6 enc Try.prog Try.f6 Rows.codecReadsRow.domain false) (Rows.codecReadsSpec.post enc Try.prog Try.f6 false true false false) := by
  refine returnsInHanded_of_change (C := Try.checked) j_own started (by kernel_rfl) Try.func6
    (ChangeSpec.witness6 (enc := enc) (C := Try.checked) false ⟨#[], #[.slice none 0 0, .slice none 0 0], []⟩ 8 (by kernel_rfl) (by kernel_rfl) (by kernel_rfl) (by kernel_rfl)) ?_
  intro W base args ds gs before hval0 hW hcnd _
  have hval : ∀ (j : Nat) t v, Try.f6.params[j]? = some t → args[j]? = some v → Value.okWide Try.prog W .any base t v := hval0
  have hW' := hW
  obtain ⟨p, q, hA0, hV, rfl, hfz, hnd⟩ := hW
  have hA : DataW.TrodAll enc Try.prog W 0 (fun _ => true) true Try.f6.params.toList args.toList ds p := hA0
  rw [Try.params6] at hA hval
  obtain ⟨v0, vs0, d0, ds0, p0, q0, hargs, rfl, rfl, h0, r0⟩ := trodAll_cons hA
  obtain ⟨v1, vs1, d1, ds1, p1, q1, rfl, rfl, rfl, h1, r1⟩ := trodAll_cons r0
  obtain ⟨rfl, rfl, rfl⟩ := trodAll_nil r1
  obtain rfl : args = #[v0, v1] := by cases args; simp_all
  obtain ⟨rfl, rfl⟩ := trodVars_none hV
  have hk0 := h0
  have lt0 : ∀ x ∈ p0, x.block < W.heap.size := by obtain ⟨m, hm⟩ := hk0; exact DataW.trod_lt m _ _ _ hm
  obtain ⟨a0, n0, c0, rfl⟩ := okWide_slice Try.underlying48 (hval 0 48 v0 rfl rfl)
  obtain ⟨x0, e0, k0⟩ : ∃ s : Sl UInt8, [Value.slice a0 n0 c0] = Sl.cells s ∧ (Sl.Ok 1 (fun b : UInt8 => [bv b]) (fun _ => True) W) s := by
    obtain ⟨fuel, hf⟩ := h0
    exact (opn_slice (β := UInt8) Try.underlying48 (by kernel_rfl) (by decide) (opn_byte Try.underlying5)) fuel _ _ hf
  simp only [Sl.cells, List.cons.injEq, Value.slice.injEq, and_true] at e0
  obtain ⟨rfl, rfl, rfl⟩ := e0
  have hk1 := h1
  have lt1 : ∀ x ∈ p1, x.block < W.heap.size := by obtain ⟨m, hm⟩ := hk1; exact DataW.trod_lt m _ _ _ hm
  obtain ⟨a1, n1, c1, rfl⟩ := okWide_slice Try.underlying46 (hval 1 46 v1 rfl rfl)
  obtain ⟨x1, e1, k1⟩ : ∃ s : Sl Item, [Value.slice a1 n1 c1] = Sl.cells s ∧ (Sl.Ok 6 Item.cells (Item.Ok W) W) s := by
    obtain ⟨fuel, hf⟩ := h1
    exact (opn_slice (β := Item) Try.underlying46 (by kernel_rfl) (by decide) opn_Item) fuel _ _ hf
  simp only [Sl.cells, List.cons.injEq, Value.slice.injEq, and_true] at e1
  obtain ⟨rfl, rfl, rfl⟩ := e1
  clear hA0 hval0
  refine (CodecReads_calls (bs := x0.l) (l := x1.l) k0.rd k0.le k1.rd (by have := k1.le; unfold maxLen; omega) k1.el).mono fun e W' ⟨he, hS⟩ => ?_
  subst he
  exact ⟨_, rfl, _, _, _, [], _, [], hW', trodAll_mk1 (shut_bool Try.underlying4 _), (trodAll_cons_mk (Below.trod j_laid (by kernel_rfl) (of_decide_eq_true (by kernel_rfl)) hk0 hS.below lt0) (trodAll_cons_mk (Below.trod j_laid (by kernel_rfl) (of_decide_eq_true (by kernel_rfl)) hk1 hS.below lt1) trodAll_mk0)), rfl, hS.below.frame _, fun h => by cases h⟩
theorem codecReads_named : Try.pinned.checked.prog.funcNamed Rows.codecReadsRow.func = some 6 := by kernel_rfl
theorem codecReads_closed : joinedFacts Try.pinned.checked.prog 6 Try.f6 Rows.codecReadsSpec Rows.codecReadsRow = true := joined_of (by kernel_rfl) j_laid j_maps (by kernel_rfl) (by kernel_rfl) (by kernel_rfl) j_stops (by kernel_rfl) j_knobs (by kernel_rfl) (by kernel_rfl) (by kernel_rfl) (by kernel_rfl) (by kernel_rfl) (by kernel_rfl) (by kernel_rfl) (by kernel_rfl) (by kernel_rfl) (by kernel_rfl) (by kernel_rfl) (by kernel_rfl) (by kernel_rfl) (by kernel_rfl) (by kernel_rfl) j_heard j_enter j_lifted.symm j_make (by kernel_rfl) (by kernel_rfl) (by kernel_rfl) (by kernel_rfl)
theorem codecReads_proved : Rows.CodecReadsSaid :=
  OpenClaim.holds_of_wide 6 Try.f6 rfl rfl rfl rfl rfl rfl rfl ⟨rfl, rfl, rfl, rfl, rfl⟩ rfl rfl rfl rfl rfl codecReads_named Try.func6 codecReads_closed
    (of_decide_eq_true (by kernel_rfl)) (by unfold Func.isWrapper; rw [if_neg (of_decide_eq_false (by kernel_rfl))]; exact ⟨rfl, rfl⟩)
    (fun os started H enc _ => codecReads_lifted os started H enc)
end Go.Proofs.Ytcikoealneldkaa
