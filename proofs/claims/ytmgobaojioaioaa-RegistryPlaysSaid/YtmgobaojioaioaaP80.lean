/- Whatever is put, dropped and cloned, each call tells what the document says, and those rule sets are there, as they were put. No condition. -/
import Derived.Test.YtmgobaojioaioaaJn
import Derived.Test.YtmgobaojioaioaaL80
namespace Go.Proofs.Ytmgobaojioaioaa
open Go Go.ChangeShapes Go.WideShapes Go.ChangeAt Go.RowKit
set_option maxRecDepth 100000 in
theorem registryPlays_lifted (os : Os) (started : os.Started) (H : Type) (enc : TypeId × Value → H) :
    ReturnsInHanded {} Try.checked os 10 .any (Rows.registryPlaysSpec.pre6 enc Try.prog Try.f10 Rows.registryPlaysRow.domain false) (Rows.registryPlaysSpec.post enc Try.prog Try.f10 false true false false) := by
  refine returnsInHanded_of_change (C := Try.checked) j_own started (by kernel_rfl) Try.func10
    (ChangeSpec.witness6 (enc := enc) (C := Try.checked) false ⟨#[], #[.agg #[.int .i64 0, .slice none 0 0, .int .i64 0, .int .i64 0, .slice none 0 0, .int .i64 0, .int .i64 0, .int .i64 0, .int .i64 0], .slice none 0 0, .int .i64 0], []⟩ 8 (by kernel_rfl) (by kernel_rfl) (by kernel_rfl) (by kernel_rfl)) ?_
  intro W base args ds gs before hval0 hW hcnd _
  have hval : ∀ (j : Nat) t v, Try.f10.params[j]? = some t → args[j]? = some v → Value.okWide Try.prog W .any base t v := hval0
  have hW' := hW
  obtain ⟨p, q, hA0, hV, rfl, hfz, hnd⟩ := hW
  have hA : DataW.TrodAll enc Try.prog W 0 (fun _ => true) true Try.f10.params.toList args.toList ds p := hA0
  rw [Try.params10] at hA hval
  obtain ⟨v0, vs0, d0, ds0, p0, q0, hargs, rfl, rfl, h0, r0⟩ := trodAll_cons hA
  obtain ⟨v1, vs1, d1, ds1, p1, q1, rfl, rfl, rfl, h1, r1⟩ := trodAll_cons r0
  obtain ⟨v2, vs2, d2, ds2, p2, q2, rfl, rfl, rfl, h2, r2⟩ := trodAll_cons r1
  obtain ⟨rfl, rfl, rfl⟩ := trodAll_nil r2
  obtain rfl : args = #[v0, v1, v2] := by cases args; simp_all
  obtain ⟨rfl, rfl⟩ := trodVars_none hV
  have hk0 := h0
  have lt0 : ∀ x ∈ p0, x.block < W.heap.size := by obtain ⟨m, hm⟩ := hk0; exact DataW.trod_lt m _ _ _ hm
  obtain ⟨cs0, rfl, _⟩ := okWide_struct Try.underlying47 (hval 0 47 v0 rfl rfl)
  obtain ⟨x0, e0, k0⟩ : ∃ s : RuV, cs0.toList = RuV.cells s ∧ (RuV.Ok W) s := by
    obtain ⟨fuel, hf⟩ := h0
    exact opn_RuV fuel _ _ hf
  obtain rfl : cs0 = (RuV.cells x0).toArray := by rw [← e0]
  have hk1 := h1
  have lt1 : ∀ x ∈ p1, x.block < W.heap.size := by obtain ⟨m, hm⟩ := hk1; exact DataW.trod_lt m _ _ _ hm
  obtain ⟨a1, n1, c1, rfl⟩ := okWide_slice Try.underlying103 (hval 1 103 v1 rfl rfl)
  obtain ⟨x1, e1, k1⟩ : ∃ s : Sl OpG, [Value.slice a1 n1 c1] = Sl.cells s ∧ (Sl.Ok 11 OpG.cells (OpG.Ok W) W) s := by
    obtain ⟨fuel, hf⟩ := h1
    exact (opn_slice (β := OpG) (size := 11) Try.underlying103 (by kernel_rfl) (by decide) opn_OpG) fuel _ _ hf
  simp only [Sl.cells, List.cons.injEq, Value.slice.injEq, and_true] at e1
  obtain ⟨rfl, rfl, rfl⟩ := e1
  have hk2 := h2
  have lt2 : ∀ x ∈ p2, x.block < W.heap.size := by obtain ⟨m, hm⟩ := hk2; exact DataW.trod_lt m _ _ _ hm
  obtain ⟨x2, rfl, hd2, hp2, w2⟩ := open_int Try.underlying3 (hval 2 3 v2 rfl rfl) h2
  have k2 : -9223372036854775808 ≤ x2 ∧ x2 ≤ 9223372036854775807 := by have := wf_range w2; simp [IntKind.signed, IntKind.bits] at this; omega
  clear hA0 hval0
  refine (RegistryPlays_calls (x := x0) k0 (l := x1.l) k1.rd (by have := k1.le; omega) k1.el).mono fun e W' ⟨he, hS⟩ => ?_
  subst he
  exact ⟨_, rfl, _, _, _, [], _, [], hW', trodAll_mk1 (shut_bool Try.underlying4 _), (trodAll_cons_mk (Below.trod j_laid (by kernel_rfl) (of_decide_eq_true (by kernel_rfl)) hk0 hS.below lt0) (trodAll_cons_mk (Below.trod j_laid (by kernel_rfl) (of_decide_eq_true (by kernel_rfl)) hk1 hS.below lt1) (trodAll_cons_mk (Below.trod j_laid (by kernel_rfl) (of_decide_eq_true (by kernel_rfl)) hk2 hS.below lt2) trodAll_mk0))), rfl, hS.below.frame _, fun h => by cases h⟩
theorem registryPlays_named : Try.pinned.checked.prog.funcNamed Rows.registryPlaysRow.func = some 10 := by kernel_rfl
theorem registryPlays_closed : joinedFacts Try.pinned.checked.prog 10 Try.f10 Rows.registryPlaysSpec Rows.registryPlaysRow = true := joined_of (by kernel_rfl) j_laid j_maps (by kernel_rfl) (by kernel_rfl) (by kernel_rfl) j_stops (by kernel_rfl) j_knobs (by kernel_rfl) (by kernel_rfl) (by kernel_rfl) (by kernel_rfl) (by kernel_rfl) (by kernel_rfl) (by kernel_rfl) (by kernel_rfl) (by kernel_rfl) (by kernel_rfl) (by kernel_rfl) (by kernel_rfl) (by kernel_rfl) (by kernel_rfl) (by kernel_rfl) j_heard j_enter j_lifted.symm j_make (by kernel_rfl) (by kernel_rfl) (by kernel_rfl) (by kernel_rfl)
theorem registryPlays_proved : Rows.RegistryPlaysSaid :=
  OpenClaim.holds_of_wide 10 Try.f10 rfl rfl rfl rfl rfl rfl rfl ⟨rfl, rfl, rfl, rfl, rfl⟩ rfl rfl rfl rfl rfl registryPlays_named Try.func10 registryPlays_closed
    (of_decide_eq_true (by kernel_rfl)) (by unfold Func.isWrapper; rw [if_neg (of_decide_eq_false (by kernel_rfl))]; exact ⟨rfl, rfl⟩)
    (fun os started H enc _ => registryPlays_lifted os started H enc)
end Go.Proofs.Ytmgobaojioaioaa
