/- Wherever the power goes: what is opened behind the crash tells what was saved last with OK, or what was being saved then. No condition. -/
import Derived.Test.YtlppgpidakfnlaaJn
import Derived.Test.YtlppgpidakfnlaaL53
namespace Go.Proofs.Ytlppgpidakfnlaa
open Go Go.ChangeShapes Go.WideShapes Go.ChangeAt Go.RowKit
set_option maxRecDepth 100000 in
theorem ballotCrash_lifted (os : Os) (started : os.Started) (H : Type) (enc : TypeId × Value → H) :
    ReturnsInHanded {} Try.checked os 14 .any (Rows.ballotCrashSpec.pre6 enc Try.prog Try.f14 Rows.ballotCrashRow.domain false) (Rows.ballotCrashSpec.post enc Try.prog Try.f14 false true false false) := by
  refine returnsInHanded_of_change (C := Try.checked) j_own started (by kernel_rfl) Try.func14
    (ChangeSpec.witness6 (enc := enc) (C := Try.checked) false ⟨#[], #[.int .i64 0, .slice none 0 0, .agg #[.int .u8 0, .slice none 0 0]], []⟩ 8 (by kernel_rfl) (by kernel_rfl) (by kernel_rfl) (by kernel_rfl)) ?_
  intro W base args ds gs before hval0 hW hcnd _
  have hval : ∀ (j : Nat) t v, Try.f14.params[j]? = some t → args[j]? = some v → Value.okWide Try.prog W .any base t v := hval0
  have hW' := hW
  obtain ⟨p, q, hA0, hV, rfl, hfz, hnd⟩ := hW
  have hA : DataW.TrodAll enc Try.prog W 0 (fun _ => true) true Try.f14.params.toList args.toList ds p := hA0
  rw [Try.params14] at hA hval
  obtain ⟨v0, vs0, d0, ds0, p0, q0, hargs, rfl, rfl, h0, r0⟩ := trodAll_cons hA
  obtain ⟨v1, vs1, d1, ds1, p1, q1, rfl, rfl, rfl, h1, r1⟩ := trodAll_cons r0
  obtain ⟨v2, vs2, d2, ds2, p2, q2, rfl, rfl, rfl, h2, r2⟩ := trodAll_cons r1
  obtain ⟨rfl, rfl, rfl⟩ := trodAll_nil r2
  obtain rfl : args = #[v0, v1, v2] := by cases args; simp_all
  obtain ⟨rfl, rfl⟩ := trodVars_none hV
  have hk0 := h0
  have lt0 : ∀ x ∈ p0, x.block < W.heap.size := by obtain ⟨m, hm⟩ := hk0; exact DataW.trod_lt m _ _ _ hm
  obtain ⟨x0, rfl, hd0, hp0, w0⟩ := open_int Try.underlying3 (hval 0 3 v0 rfl rfl) h0
  have k0 : -9223372036854775808 ≤ x0 ∧ x0 ≤ 9223372036854775807 := by have := wf_range w0; simp [IntKind.signed, IntKind.bits] at this; omega
  have hk1 := h1
  have lt1 : ∀ x ∈ p1, x.block < W.heap.size := by obtain ⟨m, hm⟩ := hk1; exact DataW.trod_lt m _ _ _ hm
  obtain ⟨a1, n1, c1, rfl⟩ := okWide_slice Try.underlying83 (hval 1 83 v1 rfl rfl)
  obtain ⟨x1, e1, k1⟩ : ∃ s : Sl BOp, [Value.slice a1 n1 c1] = Sl.cells s ∧ (Sl.Ok 5 BOp.cells (BOp.Ok W) W) s := by
    obtain ⟨fuel, hf⟩ := h1
    exact (opn_slice (β := BOp) (size := 5) Try.underlying83 (by kernel_rfl) (by decide) opn_BOp) fuel _ _ hf
  simp only [Sl.cells, List.cons.injEq, Value.slice.injEq, and_true] at e1
  obtain ⟨rfl, rfl, rfl⟩ := e1
  have hk2 := h2
  have lt2 : ∀ x ∈ p2, x.block < W.heap.size := by obtain ⟨m, hm⟩ := hk2; exact DataW.trod_lt m _ _ _ hm
  obtain ⟨cs2, rfl, _⟩ := okWide_struct Try.underlying80 (hval 2 80 v2 rfl rfl)
  obtain ⟨x2, e2, k2⟩ : ∃ s : BlowB, cs2.toList = BlowB.cells s ∧ (BlowB.Ok W) s := by
    obtain ⟨fuel, hf⟩ := h2
    exact opn_BlowB fuel _ _ hf
  obtain rfl : cs2 = (BlowB.cells x2).toArray := by rw [← e2]
  clear hA0 hval0
  refine (BallotCrash_calls (e0 := x0) (l := x1.l) (y := x2) k0 k1.rd k1.el (by have := k1.le; unfold maxLen; omega) k2).mono fun e W' ⟨he, hS⟩ => ?_
  subst he
  exact ⟨_, rfl, _, _, _, [], _, [], hW', trodAll_mk1 (shut_bool Try.underlying4 _), (trodAll_cons_mk (Below.trod j_laid (by kernel_rfl) (of_decide_eq_true (by kernel_rfl)) hk0 hS.below lt0) (trodAll_cons_mk (Below.trod j_laid (by kernel_rfl) (of_decide_eq_true (by kernel_rfl)) hk1 hS.below lt1) (trodAll_cons_mk (Below.trod j_laid (by kernel_rfl) (of_decide_eq_true (by kernel_rfl)) hk2 hS.below lt2) trodAll_mk0))), rfl, hS.below.frame _, fun h => by cases h⟩
theorem ballotCrash_named : Try.pinned.checked.prog.funcNamed Rows.ballotCrashRow.func = some 14 := by kernel_rfl
theorem ballotCrash_closed : joinedFacts Try.pinned.checked.prog 14 Try.f14 Rows.ballotCrashSpec Rows.ballotCrashRow = true := joined_of (by kernel_rfl) j_laid j_maps (by kernel_rfl) (by kernel_rfl) (by kernel_rfl) j_stops (by kernel_rfl) j_knobs (by kernel_rfl) (by kernel_rfl) (by kernel_rfl) (by kernel_rfl) (by kernel_rfl) (by kernel_rfl) (by kernel_rfl) (by kernel_rfl) (by kernel_rfl) (by kernel_rfl) (by kernel_rfl) (by kernel_rfl) (by kernel_rfl) (by kernel_rfl) (by kernel_rfl) j_heard j_enter j_lifted.symm j_make (by kernel_rfl) (by kernel_rfl) (by kernel_rfl) (by kernel_rfl)
theorem ballotCrash_proved : Rows.BallotCrashSaid :=
  OpenClaim.holds_of_wide 14 Try.f14 rfl rfl rfl rfl rfl rfl rfl ⟨rfl, rfl, rfl, rfl, rfl⟩ rfl rfl rfl rfl rfl ballotCrash_named Try.func14 ballotCrash_closed
    (of_decide_eq_true (by kernel_rfl)) (by unfold Func.isWrapper; rw [if_neg (of_decide_eq_false (by kernel_rfl))]; exact ⟨rfl, rfl⟩)
    (fun os started H enc _ => ballotCrash_lifted os started H enc)
end Go.Proofs.Ytlppgpidakfnlaa
