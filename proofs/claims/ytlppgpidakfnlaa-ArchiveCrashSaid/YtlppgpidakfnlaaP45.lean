/- Wherever the power goes: what is opened behind the crash has what was saved last with OK, or what was being saved then, whole. No condition. -/
import Derived.Test.YtlppgpidakfnlaaJn
import Derived.Test.YtlppgpidakfnlaaL45
namespace Go.Proofs.Ytlppgpidakfnlaa
open Go Go.ChangeShapes Go.WideShapes Go.ChangeAt Go.RowKit
set_option maxRecDepth 100000 in
theorem archiveCrash_lifted (os : Os) (started : os.Started) (H : Type) (enc : TypeId × Value → H) :
    ReturnsInHanded {} Try.checked os 10 .any (Rows.archiveCrashSpec.pre6 enc Try.prog Try.f10 Rows.archiveCrashRow.domain false) (Rows.archiveCrashSpec.post enc Try.prog Try.f10 false true false false) := by
  refine returnsInHanded_of_change (C := Try.checked) j_own started (by kernel_rfl) Try.func10
    (ChangeSpec.witness6 (enc := enc) (C := Try.checked) false ⟨#[], #[.slice none 0 0, .agg #[.int .u8 0, .slice none 0 0]], []⟩ 8 (by kernel_rfl) (by kernel_rfl) (by kernel_rfl) (by kernel_rfl)) ?_
  intro W base args ds gs before hval0 hW hcnd _
  have hval : ∀ (j : Nat) t v, Try.f10.params[j]? = some t → args[j]? = some v → Value.okWide Try.prog W .any base t v := hval0
  have hW' := hW
  obtain ⟨p, q, hA0, hV, rfl, hfz, hnd⟩ := hW
  have hA : DataW.TrodAll enc Try.prog W 0 (fun _ => true) true Try.f10.params.toList args.toList ds p := hA0
  rw [Try.params10] at hA hval
  obtain ⟨v0, vs0, d0, ds0, p0, q0, hargs, rfl, rfl, h0, r0⟩ := trodAll_cons hA
  obtain ⟨v1, vs1, d1, ds1, p1, q1, rfl, rfl, rfl, h1, r1⟩ := trodAll_cons r0
  obtain ⟨rfl, rfl, rfl⟩ := trodAll_nil r1
  obtain rfl : args = #[v0, v1] := by cases args; simp_all
  obtain ⟨rfl, rfl⟩ := trodVars_none hV
  have hk0 := h0
  have lt0 : ∀ x ∈ p0, x.block < W.heap.size := by obtain ⟨m, hm⟩ := hk0; exact DataW.trod_lt m _ _ _ hm
  obtain ⟨a0, n0, c0, rfl⟩ := okWide_slice Try.underlying56 (hval 0 56 v0 rfl rfl)
  obtain ⟨x0, e0, k0⟩ : ∃ s : Sl AOp, [Value.slice a0 n0 c0] = Sl.cells s ∧ (Sl.Ok 6 AOp.cells (AOp.Ok W) W) s := by
    obtain ⟨fuel, hf⟩ := h0
    exact (opn_slice (β := AOp) (size := 6) Try.underlying56 (by kernel_rfl) (by decide) opn_AOp) fuel _ _ hf
  simp only [Sl.cells, List.cons.injEq, Value.slice.injEq, and_true] at e0
  obtain ⟨rfl, rfl, rfl⟩ := e0
  have hk1 := h1
  have lt1 : ∀ x ∈ p1, x.block < W.heap.size := by obtain ⟨m, hm⟩ := hk1; exact DataW.trod_lt m _ _ _ hm
  obtain ⟨cs1, rfl, _⟩ := okWide_struct Try.underlying80 (hval 1 80 v1 rfl rfl)
  obtain ⟨x1, e1, k1⟩ : ∃ s : BlowV, cs1.toList = BlowV.cells s ∧ (BlowV.Ok W) s := by
    obtain ⟨fuel, hf⟩ := h1
    exact opn_BlowV fuel _ _ hf
  obtain rfl : cs1 = (BlowV.cells x1).toArray := by rw [← e1]
  clear hA0 hval0
  refine (ArchiveCrash_calls (l := x0.l) (y := x1) k0.rd k0.el (by have := k0.le; unfold maxLen; omega) k1).mono fun e W' ⟨he, hS⟩ => ?_
  subst he
  exact ⟨_, rfl, _, _, _, [], _, [], hW', trodAll_mk1 (shut_bool Try.underlying4 _), (trodAll_cons_mk (Below.trod j_laid (by kernel_rfl) (of_decide_eq_true (by kernel_rfl)) hk0 hS.below lt0) (trodAll_cons_mk (Below.trod j_laid (by kernel_rfl) (of_decide_eq_true (by kernel_rfl)) hk1 hS.below lt1) trodAll_mk0)), rfl, hS.below.frame _, fun h => by cases h⟩
theorem archiveCrash_named : Try.pinned.checked.prog.funcNamed Rows.archiveCrashRow.func = some 10 := by kernel_rfl
theorem archiveCrash_closed : joinedFacts Try.pinned.checked.prog 10 Try.f10 Rows.archiveCrashSpec Rows.archiveCrashRow = true := joined_of (by kernel_rfl) j_laid j_maps (by kernel_rfl) (by kernel_rfl) (by kernel_rfl) j_stops (by kernel_rfl) j_knobs (by kernel_rfl) (by kernel_rfl) (by kernel_rfl) (by kernel_rfl) (by kernel_rfl) (by kernel_rfl) (by kernel_rfl) (by kernel_rfl) (by kernel_rfl) (by kernel_rfl) (by kernel_rfl) (by kernel_rfl) (by kernel_rfl) (by kernel_rfl) (by kernel_rfl) j_heard j_enter j_lifted.symm j_make (by kernel_rfl) (by kernel_rfl) (by kernel_rfl) (by kernel_rfl)
theorem archiveCrash_proved : Rows.ArchiveCrashSaid :=
  OpenClaim.holds_of_wide 10 Try.f10 rfl rfl rfl rfl rfl rfl rfl ⟨rfl, rfl, rfl, rfl, rfl⟩ rfl rfl rfl rfl rfl archiveCrash_named Try.func10 archiveCrash_closed
    (of_decide_eq_true (by kernel_rfl)) (by unfold Func.isWrapper; rw [if_neg (of_decide_eq_false (by kernel_rfl))]; exact ⟨rfl, rfl⟩)
    (fun os started H enc _ => archiveCrash_lifted os started H enc)
end Go.Proofs.Ytlppgpidakfnlaa
