/- Any command has the document's bytes, or is refused; what is written is read as it was. No condition. -/
import Derived.Test.YtmgobaojioaioaaJn
import Derived.Test.YtmgobaojioaioaaL71
namespace Go.Proofs.Ytmgobaojioaioaa
open Go Go.ChangeShapes Go.WideShapes Go.ChangeAt Go.RowKit
set_option maxRecDepth 100000 in
theorem commandWrites_lifted (os : Os) (started : os.Started) (H : Type) (enc : TypeId × Value → H) :
    ReturnsInHanded {} Try.checked os 7 .any (Rows.commandWritesSpec.pre6 enc Try.prog Try.f7 Rows.commandWritesRow.domain false) (Rows.commandWritesSpec.post enc Try.prog Try.f7 false true false false) := by
  refine returnsInHanded_of_change (C := Try.checked) j_own started (by kernel_rfl) Try.func7
    (ChangeSpec.witness6 (enc := enc) (C := Try.checked) false ⟨#[], #[.agg #[.int .i64 0, .int .u64 0, .int .u64 0, .int .i64 0, .int .u64 0, .int .i64 0, .int .i64 0, .int .i64 0, .int .i64 0, .int .i64 0, .int .i64 0, .int .i64 0, .int .u64 0, .int .i64 0, .slice none 0 0, .int .i64 0, .int .i64 0, .slice none 0 0, .int .i64 0, .int .i64 0, .int .i64 0, .int .i64 0]], []⟩ 8 (by kernel_rfl) (by kernel_rfl) (by kernel_rfl) (by kernel_rfl)) ?_
  intro W base args ds gs before hval0 hW hcnd _
  have hval : ∀ (j : Nat) t v, Try.f7.params[j]? = some t → args[j]? = some v → Value.okWide Try.prog W .any base t v := hval0
  have hW' := hW
  obtain ⟨p, q, hA0, hV, rfl, hfz, hnd⟩ := hW
  have hA : DataW.TrodAll enc Try.prog W 0 (fun _ => true) true Try.f7.params.toList args.toList ds p := hA0
  rw [Try.params7] at hA hval
  obtain ⟨v0, vs0, d0, ds0, p0, q0, hargs, rfl, rfl, h0, r0⟩ := trodAll_cons hA
  obtain ⟨rfl, rfl, rfl⟩ := trodAll_nil r0
  obtain rfl : args = #[v0] := by cases args; simp_all
  obtain ⟨rfl, rfl⟩ := trodVars_none hV
  have hk0 := h0
  have lt0 : ∀ x ∈ p0, x.block < W.heap.size := by obtain ⟨m, hm⟩ := hk0; exact DataW.trod_lt m _ _ _ hm
  obtain ⟨cs0, rfl, _⟩ := okWide_struct Try.underlying49 (hval 0 49 v0 rfl rfl)
  obtain ⟨x0, e0, k0⟩ : ∃ s : CmdV, cs0.toList = CmdV.cells s ∧ (CmdV.Ok W) s := by
    obtain ⟨fuel, hf⟩ := h0
    exact opn_CmdV fuel _ _ hf
  obtain rfl : cs0 = (CmdV.cells x0).toArray := by rw [← e0]
  clear hA0 hval0
  refine (CommandWrites_calls (x := x0) k0).mono fun e W' ⟨he, hS⟩ => ?_
  subst he
  exact ⟨_, rfl, _, _, _, [], _, [], hW', trodAll_mk1 (shut_bool Try.underlying4 _), (trodAll_cons_mk (Below.trod j_laid (by kernel_rfl) (of_decide_eq_true (by kernel_rfl)) hk0 hS.below lt0) trodAll_mk0), rfl, hS.below.frame _, fun h => by cases h⟩
theorem commandWrites_named : Try.pinned.checked.prog.funcNamed Rows.commandWritesRow.func = some 7 := by kernel_rfl
theorem commandWrites_closed : joinedFacts Try.pinned.checked.prog 7 Try.f7 Rows.commandWritesSpec Rows.commandWritesRow = true := joined_of (by kernel_rfl) j_laid j_maps (by kernel_rfl) (by kernel_rfl) (by kernel_rfl) j_stops (by kernel_rfl) j_knobs (by kernel_rfl) (by kernel_rfl) (by kernel_rfl) (by kernel_rfl) (by kernel_rfl) (by kernel_rfl) (by kernel_rfl) (by kernel_rfl) (by kernel_rfl) (by kernel_rfl) (by kernel_rfl) (by kernel_rfl) (by kernel_rfl) (by kernel_rfl) (by kernel_rfl) j_heard j_enter j_lifted.symm j_make (by kernel_rfl) (by kernel_rfl) (by kernel_rfl) (by kernel_rfl)
theorem commandWrites_proved : Rows.CommandWritesSaid :=
  OpenClaim.holds_of_wide 7 Try.f7 rfl rfl rfl rfl rfl rfl rfl ⟨rfl, rfl, rfl, rfl, rfl⟩ rfl rfl rfl rfl rfl commandWrites_named Try.func7 commandWrites_closed
    (of_decide_eq_true (by kernel_rfl)) (by unfold Func.isWrapper; rw [if_neg (of_decide_eq_false (by kernel_rfl))]; exact ⟨rfl, rfl⟩)
    (fun os started H enc _ => commandWrites_lifted os started H enc)
end Go.Proofs.Ytmgobaojioaioaa
