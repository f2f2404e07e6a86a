/- Tables of sessions: what each call of them does. -/
import Derived.Test.YtcikoealneldkaaSb
namespace Go.Proofs.Ytcikoealneldkaa
open Go Go.RowKit Go.Lib
variable {W : World}
theorem look_1 {T : Tb} {c r : Int} (h : r = 0 ∨ lastT T c < r) : lookA T c r = false ∧ lookO T c r = false ∧ lookL T c r = [] := by
  have hA : lookA T c r = false := by unfold lookA; rcases h with h | h <;> simp [h]
  refine ⟨hA, ?_, by unfold lookL; rw [hA]; rfl⟩
  unfold lookO; rcases h with h | h <;> simp [h]
theorem look_2 {T : Tb} {c r : Int} (h0 : r ≠ 0) (h : r < lastT T c) : lookA T c r = false ∧ lookO T c r = true ∧ lookL T c r = [] := by
  have hA : lookA T c r = false := by unfold lookA; simp [h]
  refine ⟨hA, ?_, by unfold lookL; rw [hA]; rfl⟩
  unfold lookO
  simp [h, h0]
  omega
theorem look_3 {T : Tb} {c r : Int} (h0 : r ≠ 0) (h : r = lastT T c) : lookA T c r = true ∧ lookO T c r = false ∧ lookL T c r = (T c).2 := by
  have hA : lookA T c r = true := by unfold lookA; rw [← h]; simp [h0]
  refine ⟨hA, ?_, by unfold lookL; rw [if_pos hA]⟩
  unfold lookO; rw [← h]; simp
theorem done_1 {T : Tb} {c r : Int} {l : List Ev} (h : c < 1 ∨ 8 < c ∨ r = 0) : doneE T c r l = 2 := by unfold doneE; rw [if_pos h]
theorem done_2 {T : Tb} {c r : Int} {l : List Ev} (h0 : ¬ (c < 1 ∨ 8 < c ∨ r = 0)) (h : r ≤ lastT T c) : doneE T c r l = 55 := by unfold doneE; rw [if_neg h0, if_pos h]
theorem done_3 {T : Tb} {c r : Int} {l : List Ev} (h0 : ¬ (c < 1 ∨ 8 < c ∨ r = 0)) (h1 : ¬ r ≤ lastT T c) (h : 256 < l.length) : doneE T c r l = 21 := by unfold doneE; rw [if_neg h0, if_neg h1, if_pos h]
theorem done_4 {T : Tb} {c r : Int} {l : List Ev} (h0 : ¬ (c < 1 ∨ 8 < c ∨ r = 0)) (h1 : ¬ r ≤ lastT T c) (h : ¬ 256 < l.length) : doneE T c r l = 0 := by unfold doneE; rw [if_neg h0, if_neg h1, if_neg h]
theorem done_no {T : Tb} {c r v : Int} {l : List Ev} (h : doneE T c r l = v) (hv : v ≠ 0) : doneT T c r l = T := by unfold doneT; rw [h, if_neg hv]
theorem done_yes {T : Tb} {c r : Int} {l : List Ev} (h : doneE T c r l = 0) : doneT T c r l = updT T c (r, l) := by unfold doneT; rw [if_pos h]
theorem sget2 {E : List SE} {T : Tb} (h : SGood E T) (hT : TGood T) (c : Int) : ∃ a n cc, (Value.tuple #[(mfind (E.map SE.kv) c).getD (.agg #[.int .u64 0, .slice none 0 0]), .bool (mfind (E.map SE.kv) c).isSome]) = .tuple #[.agg #[.int .u64 (lastT T c), .slice a n cc], .bool (decide (0 < lastT T c))] ∧
    (0 < lastT T c → ∃ en ∈ E, a = en.A ∧ n = en.l.length ∧ cc = en.c ∧ T c = (en.r, en.l)) := by
  rcases sfind h hT c with ⟨h1, h2⟩ | ⟨e, he, h1, h2, h3, h4, _⟩
  · exact ⟨none, 0, 0, by rw [h1, h2]; rfl, fun h => by omega⟩
  · exact ⟨e.A, e.l.length, e.c, by rw [h1, h2, decide_eq_true h4]; rfl, fun _ => ⟨e, he, rfl, rfl, rfl, h3⟩⟩
attribute [local irreducible] blkA rowA rdrA mapA mapS rdsA tabA refA wrA
set_option maxRecDepth 100000 in
theorem eclone_calls {A : Option Addr} {c : Nat} {l : List Ev} (hR : RdEv W A l) (hm : l.length ≤ 1000000) : Calls Try.prog 144 #[.slice A l.length c] W fun e w' => ∃ A' c', e = .returned (.slice A' l.length c') ∧ St W w' [rowA 130 12 A' l.length c' ((l).flatMap Ev.cells)] := by
  have hS := St.init W
  refine calls_of_wpE (args := [_]) Try.func144 rfl rfl rfl ?_
  refine c_seq ?_
  refine c_region ?_
  refine t_q (q_assign) ?_
  refine t_nil ?_
  refine c_seq ?_
  refine c_seq ?_
  refine c_region ?_
  refine t_q (q_mv (.slice _ _ _) rfl) ?_
  refine t_q (q_eql_slice_nil Try.runUnderlying70 rfl rfl) ?_
  refine t_nil ?_
  refine c_cond rfl ?_ ?_
  · intro hc2
    have hb0 : l = [] := by
      cases l with
      | nil => rfl
      | cons x l =>
        obtain ⟨ad, hA, _⟩ := hR (by simp)
        rw [hA] at hc2; cases hc2
    refine c_seq ?_
    refine c_region ?_
    refine t_q (q_assign) ?_
    refine t_nil ?_
    refine c_ret ?_
    refine r_one rfl rfl ?_
    first
      | (subst hb0; exact ⟨none, 0, rfl, (hS.nilrow 130 12).front1⟩)
      | exact ⟨A7, c7, congrArg (fun n => Ending.returned (Value.slice A7 n c7)) (Nat.zero_add _), hS⟩
  · intro hc2
    refine c_skip ?_
    refine c_seq ?_
    refine c_region ?_
    refine t_buildSlice Try.runUnderlying70 Try.sizeOf130 Try.zeroValue130 rfl rfl (by intro v hv; simp at hv; try (first | (subst hv; rfl) | (rcases hv with rfl | rfl <;> rfl))) (by decide) (by decide) hS (fun g5 w hS => ?_)
    refine t_q (q_mv (.slice _ _ _) rfl) ?_
    refine t_append (size := 12) (bytes := 96) Try.underlying70 (info_of Try.type130) rfl rfl rfl rfl (by decide) hS (by repeat first | exact .here _ _ | assumption | apply Pick.there) (hR.st hS) rfl rfl (fun _ _ => rfl) (by unfold maxLen; omega) (by omega) (fun A7 c7 w hS => ?_)
    replace hS := hS.recast (congrArg (rowA 130 12 A7 _ c7) (show _ = l.flatMap Ev.cells from flat_range (cells := Ev.cells) l))
    rw [Nat.zero_add] at hS
    refine t_q (q_as (.slice _ _ _) rfl) ?_
    refine t_nil ?_
    refine c_ret ?_
    refine r_one rfl rfl ?_
    first
      | (subst hb0; exact ⟨none, 0, rfl, (hS.nilrow 130 12).front1⟩)
      | exact ⟨A7, c7, congrArg (fun n => Ending.returned (Value.slice A7 n c7)) (Nat.zero_add _), hS⟩
set_option maxRecDepth 100000 in
theorem none_nil : Calls Try.prog 143 #[.pointer none] W fun e w' => e = .returned (.bool true) ∧ St W w' [] := by
  have hS := St.init W
  refine calls_of_wpE (args := [_]) Try.func143 rfl rfl rfl ?_
  refine c_seq ?_
  refine c_region ?_
  refine t_q (q_assign) ?_
  refine t_nil ?_
  refine c_seq ?_
  refine c_region ?_
  refine t_q (q_mv (.pointer _) rfl) ?_
  refine t_q (q_eql_ptr_nil Try.runUnderlying62 rfl rfl) ?_
  refine t_q (q_mv (.bool _) rfl) ?_
  refine t_no rfl rfl (by decide) ?_
  refine t_no rfl rfl (by decide) ?_
  refine t_no rfl rfl (by decide) ?_
  refine t_no rfl rfl (by decide) ?_
  refine t_no rfl rfl (by decide) ?_
  refine t_q (q_pick_t rfl rfl) ?_
  refine t_q (q_as (.bool _) rfl) ?_
  refine t_nil ?_
  refine c_ret ?_
  refine r_one rfl rfl ?_
  exact ⟨rfl, hS⟩
set_option maxRecDepth 100000 in
theorem none_at {w : World} {L R : List Asn} {g : Nat} {m : Option Nat} (hS : St W w L) (pk : Pick L (blkA g 65 [.map m]) R) : Calls Try.prog 143 #[.pointer (some ⟨g, 0, none⟩)] w fun e w' => e = .returned (.bool m.isNone) ∧ St W w' (blkA g 65 [.map m] :: R) := by
  replace hS := hS.pick pk
  clear pk
  refine calls_of_wpE (args := [_]) Try.func143 rfl rfl rfl ?_
  refine c_seq ?_
  refine c_region ?_
  refine t_q (q_assign) ?_
  refine t_nil ?_
  refine c_seq ?_
  refine c_region ?_
  refine t_q (q_mv (.pointer _) rfl) ?_
  refine t_q (q_eql_ptr_nil Try.runUnderlying62 rfl rfl) ?_
  refine t_q (q_mv (.bool _) rfl) ?_
  refine t_yes rfl rfl rfl ?_
  refine t_q (q_mv (.pointer _) rfl) ?_
  refine t_yes rfl rfl rfl ?_
  refine t_q (q_nilCheck rfl) ?_
  refine t_yes rfl rfl rfl ?_
  refine t_q (q_fieldAddr 0 Try.runUnderlying65 rfl Try.sizeOf63 (by decide) rfl rfl) ?_
  refine t_yes rfl rfl rfl ?_
  refine t_q (q_load1 Try.isAgg63 rfl (hS.cell (by repeat first | exact .here _ _ | assumption | apply Pick.there) rfl)) ?_
  refine t_yes rfl rfl rfl ?_
  refine t_q (q_eql_map_nil Try.underlying63 rfl rfl) ?_
  refine t_q (q_pick_f rfl rfl) ?_
  refine t_q (q_as (.bool _) rfl) ?_
  refine t_nil ?_
  refine c_ret ?_
  refine r_one rfl rfl ?_
  exact ⟨rfl, hS⟩
set_option maxRecDepth 100000 in
theorem last_nil {c : Int} : Calls Try.prog 55 #[.pointer none, .int .u64 c] W fun e w' => e = .returned (.int .u64 0) ∧ St W w' [] := by
  have hS := St.init W
  refine calls_of_wpE (args := [_, _]) Try.func55 rfl rfl rfl ?_
  refine c_seq ?_
  refine c_region ?_
  refine t_q (q_assign) ?_
  refine t_nil ?_
  refine c_seq ?_
  refine c_seq ?_
  refine c_region ?_
  refine t_q (q_mv (.pointer _) rfl) ?_
  refine t_call Try.call143 (none_nil) rfl ?_
  rintro e w ⟨rfl, hT⟩
  refine ⟨_, rfl, ?_⟩
  replace hS := hS.after hT
  refine t_nil ?_
  refine c_cond_t rfl rfl ?_
  refine c_seq ?_
  refine c_region ?_
  refine t_q (q_assign) ?_
  refine t_nil ?_
  refine c_ret ?_
  refine r_one rfl rfl ?_
  exact ⟨rfl, hS⟩
set_option maxRecDepth 100000 in
theorem last_zero {w : World} {L R : List Asn} {g : Nat} (hS : St W w L) (pk : Pick L (blkA g 65 [.map none]) R) {c : Int} : Calls Try.prog 55 #[.pointer (some ⟨g, 0, none⟩), .int .u64 c] w fun e w' => e = .returned (.int .u64 0) ∧ St W w' (blkA g 65 [.map none] :: R) := by
  replace hS := hS.pick pk
  clear pk
  refine calls_of_wpE (args := [_, _]) Try.func55 rfl rfl rfl ?_
  refine c_seq ?_
  refine c_region ?_
  refine t_q (q_assign) ?_
  refine t_nil ?_
  refine c_seq ?_
  refine c_seq ?_
  refine c_region ?_
  refine t_q (q_mv (.pointer _) rfl) ?_
  refine t_call Try.call143 (none_at (m := none) hS (by repeat first | exact .here _ _ | assumption | apply Pick.there)) rfl ?_
  rintro e w ⟨rfl, hS⟩
  refine ⟨_, rfl, ?_⟩
  refine t_nil ?_
  refine c_cond_t rfl rfl ?_
  refine c_seq ?_
  refine c_region ?_
  refine t_q (q_assign) ?_
  refine t_nil ?_
  refine c_ret ?_
  refine r_one rfl rfl ?_
  exact ⟨rfl, hS⟩
set_option maxRecDepth 100000 in
theorem last_calls {w : World} {L R : List Asn} {g : Nat} {T : Tb} (hS : St W w L) (pk : Pick L (tabA g T) R) (hT : TGood T) {c : Int} : Calls Try.prog 55 #[.pointer (some ⟨g, 0, none⟩), .int .u64 c] w fun e w' => e = .returned (.int .u64 (lastT T c)) ∧ St W w' (tabA g T :: R) := by
  replace hS := hS.pick pk
  clear pk
  obtain ⟨r, E, hE, hS⟩ := hS.tab
  obtain ⟨la, ln, lc, hget⟩ := sget hE hT c
  refine calls_of_wpE (args := [_, _]) Try.func55 rfl rfl rfl ?_
  refine c_seq ?_
  refine c_region ?_
  refine t_q (q_assign) ?_
  refine t_nil ?_
  refine c_seq ?_
  refine c_seq ?_
  refine c_region ?_
  refine t_q (q_mv (.pointer _) rfl) ?_
  refine t_call Try.call143 (none_at (m := some r) hS (by repeat first | exact .here _ _ | assumption | apply Pick.there)) rfl ?_
  rintro e w ⟨rfl, hS⟩
  refine ⟨_, rfl, ?_⟩
  refine t_nil ?_
  refine c_cond_f rfl rfl ?_
  refine c_skip ?_
  refine c_seq ?_
  refine c_region ?_
  refine t_q (q_mv (.pointer _) rfl) ?_
  refine t_q (q_nilCheck rfl) ?_
  refine t_q (q_fieldAddr 0 Try.runUnderlying65 rfl Try.sizeOf63 (by decide) rfl rfl) ?_
  refine t_q (q_load1 Try.isAgg63 rfl (hS.cell (by repeat first | exact .here _ _ | assumption | apply Pick.there) rfl)) ?_
  refine t_q (q_mv (.int _ _) rfl) ?_
  refine t_q (q_cast (v' := .agg #[.int .u64 (lastT T c), .slice la ln lc]) (q_lookup (ok := false) Try.underlying63 Try.underlying24 Try.zeroValue195 (hS) (by repeat first | exact .here _ _ | assumption | apply Pick.there) rfl rfl) (hget)) ?_
  refine t_q (q_field Try.runUnderlying195 rfl Try.isAgg24 rfl rfl) ?_
  refine t_q (q_as (.int _ _) rfl) ?_
  refine t_nil ?_
  refine c_ret ?_
  refine r_one rfl rfl ?_
  exact ⟨rfl, (((((hS.pick (A := rdsA _) (by repeat first | exact .here _ _ | assumption | apply Pick.there)).pick (A := mapA .u64 r _) (by repeat first | exact .here _ _ | assumption | apply Pick.there)).pick (A := blkA g 65 _) (by repeat first | exact .here _ _ | assumption | apply Pick.there))).untab hE)⟩
set_option maxRecDepth 100000 in
theorem look_nil {c r : Int} (hr : 0 ≤ r) : Calls Try.prog 53 #[.pointer none, .int .u64 c, .int .u64 r] W fun e w' => e = .returned (.tuple #[.bool false, .bool false, .slice none 0 0]) ∧ St W w' [] := by
  have hS := St.init W
  refine calls_of_wpE (args := [_, _, _]) Try.func53 rfl rfl rfl ?_
  refine c_seq ?_
  refine c_region ?_
  refine t_q (q_assign) ?_
  refine t_q (q_assign) ?_
  refine t_q (q_assign) ?_
  refine t_nil ?_
  refine c_seq ?_
  refine c_region ?_
  refine t_q (q_mv (.pointer _) rfl) ?_
  refine t_q (q_mv (.int _ _) rfl) ?_
  refine t_call Try.call55 (last_nil) rfl ?_
  rintro e w ⟨rfl, hT⟩
  refine ⟨_, rfl, ?_⟩
  replace hS := hS.after hT
  refine t_q (q_as (.int _ _) rfl) ?_
  refine t_nil ?_
  refine c_seq ?_
  refine c_block ?_
  refine c_seq ?_
  refine c_region ?_
  refine t_q (q_mv (.int _ _) rfl) ?_
  refine t_q (q_eql rfl rfl) ?_
  refine t_q (q_mv (.bool _) rfl) ?_
  refine t_case 16 rfl ?_ ?_
  · intro hg3
    have hg3d := of_decide_eq_true hg3
    refine t_no rfl rfl (by rw [hg3]; decide) ?_
    refine t_no rfl rfl (by rw [hg3]; decide) ?_
    refine t_no rfl rfl (by rw [hg3]; decide) ?_
    refine t_q (q_pick_t rfl hg3) ?_
    refine t_q (q_as (.bool _) rfl) ?_
    refine t_nil ?_
    refine c_cond_t rfl rfl ?_
    refine c_seq ?_
    refine c_region ?_
    refine t_q (q_assign) ?_
    refine t_q (q_assign) ?_
    refine t_q (q_assign) ?_
    refine t_nil ?_
    refine c_ret ?_
    refine r_three rfl rfl rfl rfl ?_
    exact ⟨rfl, hS⟩
  · intro hg3
    have hg3d := of_decide_eq_false hg3
    refine t_yes rfl rfl hg3 ?_
    refine t_q (q_mv (.int _ _) rfl) ?_
    refine t_yes rfl rfl hg3 ?_
    refine t_q (q_mv (.int _ _) rfl) ?_
    refine t_yes rfl rfl hg3 ?_
    refine t_q (q_gtr rfl rfl) ?_
    refine t_q (q_pick_f rfl hg3) ?_
    refine t_q (q_as (.bool _) rfl) ?_
    refine t_nil ?_
    refine c_cond rfl ?_ ?_
    · intro hc5
      have hc5d := of_decide_eq_true hc5
      refine c_seq ?_
      refine c_region ?_
      refine t_q (q_assign) ?_
      refine t_q (q_assign) ?_
      refine t_q (q_assign) ?_
      refine t_nil ?_
      refine c_ret ?_
      refine r_three rfl rfl rfl rfl ?_
      exact ⟨rfl, hS⟩
    · intro hc5
      have hc5d := of_decide_eq_false hc5
      exfalso; omega
set_option maxRecDepth 100000 in
theorem look_zero {w : World} {L R : List Asn} {g : Nat} (hS : St W w L) (pk : Pick L (blkA g 65 [.map none]) R) {c r : Int} (hr : 0 ≤ r) : Calls Try.prog 53 #[.pointer (some ⟨g, 0, none⟩), .int .u64 c, .int .u64 r] w fun e w' => e = .returned (.tuple #[.bool false, .bool false, .slice none 0 0]) ∧ St W w' (blkA g 65 [.map none] :: R) := by
  replace hS := hS.pick pk
  clear pk
  refine calls_of_wpE (args := [_, _, _]) Try.func53 rfl rfl rfl ?_
  refine c_seq ?_
  refine c_region ?_
  refine t_q (q_assign) ?_
  refine t_q (q_assign) ?_
  refine t_q (q_assign) ?_
  refine t_nil ?_
  refine c_seq ?_
  refine c_region ?_
  refine t_q (q_mv (.pointer _) rfl) ?_
  refine t_q (q_mv (.int _ _) rfl) ?_
  refine t_call Try.call55 (last_zero hS (by repeat first | exact .here _ _ | assumption | apply Pick.there)) rfl ?_
  rintro e w ⟨rfl, hS⟩
  refine ⟨_, rfl, ?_⟩
  refine t_q (q_as (.int _ _) rfl) ?_
  refine t_nil ?_
  refine c_seq ?_
  refine c_block ?_
  refine c_seq ?_
  refine c_region ?_
  refine t_q (q_mv (.int _ _) rfl) ?_
  refine t_q (q_eql rfl rfl) ?_
  refine t_q (q_mv (.bool _) rfl) ?_
  refine t_case 16 rfl ?_ ?_
  · intro hg3
    have hg3d := of_decide_eq_true hg3
    refine t_no rfl rfl (by rw [hg3]; decide) ?_
    refine t_no rfl rfl (by rw [hg3]; decide) ?_
    refine t_no rfl rfl (by rw [hg3]; decide) ?_
    refine t_q (q_pick_t rfl hg3) ?_
    refine t_q (q_as (.bool _) rfl) ?_
    refine t_nil ?_
    refine c_cond_t rfl rfl ?_
    refine c_seq ?_
    refine c_region ?_
    refine t_q (q_assign) ?_
    refine t_q (q_assign) ?_
    refine t_q (q_assign) ?_
    refine t_nil ?_
    refine c_ret ?_
    refine r_three rfl rfl rfl rfl ?_
    exact ⟨rfl, hS⟩
  · intro hg3
    have hg3d := of_decide_eq_false hg3
    refine t_yes rfl rfl hg3 ?_
    refine t_q (q_mv (.int _ _) rfl) ?_
    refine t_yes rfl rfl hg3 ?_
    refine t_q (q_mv (.int _ _) rfl) ?_
    refine t_yes rfl rfl hg3 ?_
    refine t_q (q_gtr rfl rfl) ?_
    refine t_q (q_pick_f rfl hg3) ?_
    refine t_q (q_as (.bool _) rfl) ?_
    refine t_nil ?_
    refine c_cond rfl ?_ ?_
    · intro hc5
      have hc5d := of_decide_eq_true hc5
      refine c_seq ?_
      refine c_region ?_
      refine t_q (q_assign) ?_
      refine t_q (q_assign) ?_
      refine t_q (q_assign) ?_
      refine t_nil ?_
      refine c_ret ?_
      refine r_three rfl rfl rfl rfl ?_
      exact ⟨rfl, hS⟩
    · intro hc5
      have hc5d := of_decide_eq_false hc5
      exfalso; omega
set_option maxRecDepth 100000 in
theorem look_calls {w : World} {L R : List Asn} {g : Nat} {T : Tb} (hS : St W w L) (pk : Pick L (tabA g T) R) (hT : TGood T) {c q : Int} (hq : 0 ≤ q) : Calls Try.prog 53 #[.pointer (some ⟨g, 0, none⟩), .int .u64 c, .int .u64 q] w fun e w' => ∃ A' n c', e = .returned (.tuple #[.bool (lookA T c q), .bool (lookO T c q), .slice A' n c']) ∧ n = (lookL T c q).length ∧ St W w' (tabA g T :: rowA 130 12 A' n c' ((lookL T c q).flatMap Ev.cells) :: R) := by
  replace hS := hS.pick pk
  clear pk
  refine calls_of_wpE (args := [_, _, _]) Try.func53 rfl rfl rfl ?_
  refine c_seq ?_
  refine c_region ?_
  refine t_q (q_assign) ?_
  refine t_q (q_assign) ?_
  refine t_q (q_assign) ?_
  refine t_nil ?_
  refine c_seq ?_
  refine c_region ?_
  refine t_q (q_mv (.pointer _) rfl) ?_
  refine t_q (q_mv (.int _ _) rfl) ?_
  refine t_call Try.call55 (last_calls hS (.here _ _) hT) rfl ?_
  rintro e w ⟨rfl, hS⟩
  refine ⟨_, rfl, ?_⟩
  refine t_q (q_as (.int _ _) rfl) ?_
  refine t_nil ?_
  refine c_seq ?_
  refine c_block ?_
  refine c_seq ?_
  refine c_region ?_
  refine t_q (q_mv (.int _ _) rfl) ?_
  refine t_q (q_eql rfl rfl) ?_
  refine t_q (q_mv (.bool _) rfl) ?_
  refine t_case 16 rfl ?_ ?_
  · intro hg3
    have hg3d := of_decide_eq_true hg3
    refine t_no rfl rfl (by rw [hg3]; decide) ?_
    refine t_no rfl rfl (by rw [hg3]; decide) ?_
    refine t_no rfl rfl (by rw [hg3]; decide) ?_
    refine t_q (q_pick_t rfl hg3) ?_
    refine t_q (q_as (.bool _) rfl) ?_
    refine t_nil ?_
    refine c_cond_t rfl rfl ?_
    have hlk := look_1 (T := T) (c := c) (r := q) (by omega)
    refine c_seq ?_
    refine c_region ?_
    refine t_q (q_assign) ?_
    refine t_q (q_assign) ?_
    refine t_q (q_assign) ?_
    refine t_nil ?_
    refine c_ret ?_
    refine r_three rfl rfl rfl rfl ?_
    obtain ⟨e1, e2, e3⟩ := hlk
    rw [e1, e2, e3]
    first
      | exact ⟨none, 0, 0, rfl, rfl, (hS.nilrow 130 12).pick (.there (.here _ _))⟩
      | exact ⟨A32, _, c32, rfl, by rw [ht], by rw [ht]; exact (((((((((hS.pick (A := rowA 130 12 A32 _ c32 _) (by repeat first | exact .here _ _ | assumption | apply Pick.there)).pick (A := rdsA _) (by repeat first | exact .here _ _ | assumption | apply Pick.there)).pick (A := mapA .u64 r _) (by repeat first | exact .here _ _ | assumption | apply Pick.there)).pick (A := blkA g 65 _) (by repeat first | exact .here _ _ | assumption | apply Pick.there)).pick (A := rdsA _) (by repeat first | exact .here _ _ | assumption | apply Pick.there)).pick (A := mapA .u64 r _) (by repeat first | exact .here _ _ | assumption | apply Pick.there)).pick (A := blkA g 65 _) (by repeat first | exact .here _ _ | assumption | apply Pick.there))).untab hE)⟩
  · intro hg3
    have hg3d := of_decide_eq_false hg3
    refine t_yes rfl rfl hg3 ?_
    refine t_q (q_mv (.int _ _) rfl) ?_
    refine t_yes rfl rfl hg3 ?_
    refine t_q (q_mv (.int _ _) rfl) ?_
    refine t_yes rfl rfl hg3 ?_
    refine t_q (q_gtr rfl rfl) ?_
    refine t_q (q_pick_f rfl hg3) ?_
    refine t_q (q_as (.bool _) rfl) ?_
    refine t_nil ?_
    refine c_cond rfl ?_ ?_
    · intro hc5
      have hc5d := of_decide_eq_true hc5
      have hlk := look_1 (T := T) (c := c) (r := q) (by omega)
      refine c_seq ?_
      refine c_region ?_
      refine t_q (q_assign) ?_
      refine t_q (q_assign) ?_
      refine t_q (q_assign) ?_
      refine t_nil ?_
      refine c_ret ?_
      refine r_three rfl rfl rfl rfl ?_
      obtain ⟨e1, e2, e3⟩ := hlk
      rw [e1, e2, e3]
      first
        | exact ⟨none, 0, 0, rfl, rfl, (hS.nilrow 130 12).pick (.there (.here _ _))⟩
        | exact ⟨A32, _, c32, rfl, by rw [ht], by rw [ht]; exact (((((((((hS.pick (A := rowA 130 12 A32 _ c32 _) (by repeat first | exact .here _ _ | assumption | apply Pick.there)).pick (A := rdsA _) (by repeat first | exact .here _ _ | assumption | apply Pick.there)).pick (A := mapA .u64 r _) (by repeat first | exact .here _ _ | assumption | apply Pick.there)).pick (A := blkA g 65 _) (by repeat first | exact .here _ _ | assumption | apply Pick.there)).pick (A := rdsA _) (by repeat first | exact .here _ _ | assumption | apply Pick.there)).pick (A := mapA .u64 r _) (by repeat first | exact .here _ _ | assumption | apply Pick.there)).pick (A := blkA g 65 _) (by repeat first | exact .here _ _ | assumption | apply Pick.there))).untab hE)⟩
    · intro hc5
      have hc5d := of_decide_eq_false hc5
      have hq0 : q ≠ 0 := by omega
      refine c_seq ?_
      refine c_region ?_
      refine t_q (q_mv (.int _ _) rfl) ?_
      refine t_q (q_mv (.int _ _) rfl) ?_
      refine t_q (q_lss rfl rfl) ?_
      refine t_q (q_as (.bool _) rfl) ?_
      refine t_nil ?_
      refine c_cond rfl ?_ ?_
      · intro hc7
        have hc7d := of_decide_eq_true hc7
        have hlk := look_2 (T := T) (c := c) (r := q) hq0 (by omega)
        refine c_seq ?_
        refine c_region ?_
        refine t_q (q_assign) ?_
        refine t_q (q_assign) ?_
        refine t_q (q_assign) ?_
        refine t_nil ?_
        refine c_ret ?_
        refine r_three rfl rfl rfl rfl ?_
        obtain ⟨e1, e2, e3⟩ := hlk
        rw [e1, e2, e3]
        first
          | exact ⟨none, 0, 0, rfl, rfl, (hS.nilrow 130 12).pick (.there (.here _ _))⟩
          | exact ⟨A32, _, c32, rfl, by rw [ht], by rw [ht]; exact (((((((((hS.pick (A := rowA 130 12 A32 _ c32 _) (by repeat first | exact .here _ _ | assumption | apply Pick.there)).pick (A := rdsA _) (by repeat first | exact .here _ _ | assumption | apply Pick.there)).pick (A := mapA .u64 r _) (by repeat first | exact .here _ _ | assumption | apply Pick.there)).pick (A := blkA g 65 _) (by repeat first | exact .here _ _ | assumption | apply Pick.there)).pick (A := rdsA _) (by repeat first | exact .here _ _ | assumption | apply Pick.there)).pick (A := mapA .u64 r _) (by repeat first | exact .here _ _ | assumption | apply Pick.there)).pick (A := blkA g 65 _) (by repeat first | exact .here _ _ | assumption | apply Pick.there))).untab hE)⟩
      · intro hc7
        have hc7d := of_decide_eq_false hc7
        have hqe : q = lastT T c := by omega
        have hlk := look_3 (T := T) (c := c) (r := q) hq0 hqe
        refine c_skip ?_
        refine c_seq ?_
        obtain ⟨r, E, hE, hS⟩ := hS.tab
        obtain ⟨en, hen, hf, hl, ht, hr0, hcc⟩ := (sfind hE hT c).resolve_left (fun h => by have := h.2; omega)
        refine c_region ?_
        refine t_q (q_mv (.pointer _) rfl) ?_
        refine t_q (q_nilCheck rfl) ?_
        refine t_q (q_fieldAddr 0 Try.runUnderlying65 rfl Try.sizeOf63 (by decide) rfl rfl) ?_
        refine t_q (q_load1 Try.isAgg63 rfl (hS.cell (by repeat first | exact .here _ _ | assumption | apply Pick.there) rfl)) ?_
        refine t_q (q_mv (.int _ _) rfl) ?_
        refine t_q (q_cast (v' := .agg #[.int .u64 en.r, .slice en.A en.l.length en.c]) (q_lookup (ok := false) Try.underlying63 Try.underlying24 Try.zeroValue195 (hS) (by repeat first | exact .here _ _ | assumption | apply Pick.there) rfl rfl) ((by rw [hf]; rfl))) ?_
        refine t_q (q_field Try.runUnderlying195 rfl Try.isAgg70 rfl rfl) ?_
        refine t_call Try.call144 (eclone_calls (hS.rds (p := SE.rp en) (by repeat first | exact .here _ _ | assumption | apply Pick.there) (List.mem_map.2 ⟨en, hen, rfl⟩)) (by have := hT.len c; rw [ht] at this; exact Nat.le_trans this (by decide))) rfl ?_
        rintro e w ⟨A32, c32, rfl, hT32⟩
        refine ⟨_, rfl, ?_⟩
        have hS : St W w (_ :: _) := hS.lift hT32
        refine t_q (q_assign) ?_
        refine t_q (q_assign) ?_
        refine t_q (q_as (.slice _ _ _) rfl) ?_
        refine t_nil ?_
        refine c_ret ?_
        refine r_three rfl rfl rfl rfl ?_
        obtain ⟨e1, e2, e3⟩ := hlk
        rw [e1, e2, e3]
        first
          | exact ⟨none, 0, 0, rfl, rfl, (hS.nilrow 130 12).pick (.there (.here _ _))⟩
          | exact ⟨A32, _, c32, rfl, by rw [ht], by rw [ht]; exact (((((((((hS.pick (A := rowA 130 12 A32 _ c32 _) (by repeat first | exact .here _ _ | assumption | apply Pick.there)).pick (A := rdsA _) (by repeat first | exact .here _ _ | assumption | apply Pick.there)).pick (A := mapA .u64 r _) (by repeat first | exact .here _ _ | assumption | apply Pick.there)).pick (A := blkA g 65 _) (by repeat first | exact .here _ _ | assumption | apply Pick.there)).pick (A := rdsA _) (by repeat first | exact .here _ _ | assumption | apply Pick.there)).pick (A := mapA .u64 r _) (by repeat first | exact .here _ _ | assumption | apply Pick.there)).pick (A := blkA g 65 _) (by repeat first | exact .here _ _ | assumption | apply Pick.there))).untab hE)⟩
set_option maxRecDepth 100000 in
theorem done_nil {c r : Int} {A : Option Addr} {m cc : Nat} : Calls Try.prog 54 #[.pointer none, .int .u64 c, .int .u64 r, .slice A m cc] W fun e w' => e = .returned (.int .i64 1) ∧ St W w' [] := by
  have hS := St.init W
  refine calls_of_wpE (args := [_, _, _, _]) Try.func54 rfl rfl rfl ?_
  refine c_seq ?_
  refine c_region ?_
  refine t_q (q_assign) ?_
  refine t_nil ?_
  refine c_seq ?_
  refine c_block ?_
  refine c_seq ?_
  refine c_region ?_
  refine t_q (q_mv (.pointer _) rfl) ?_
  refine t_call Try.call143 (none_nil) rfl ?_
  rintro e w ⟨rfl, hT⟩
  refine ⟨_, rfl, ?_⟩
  replace hS := hS.after hT
  refine t_q (q_as (.bool _) rfl) ?_
  refine t_nil ?_
  refine c_cond_t rfl rfl ?_
  refine c_seq ?_
  refine c_region ?_
  refine t_q (q_assign) ?_
  refine t_nil ?_
  refine c_ret ?_
  refine r_one rfl rfl ?_
  exact ⟨rfl, hS⟩
set_option maxRecDepth 100000 in
theorem done_zero {w : World} {L R : List Asn} {g : Nat} (hS : St W w L) (pk : Pick L (blkA g 65 [.map none]) R) {c r : Int} {A : Option Addr} {m cc : Nat} : Calls Try.prog 54 #[.pointer (some ⟨g, 0, none⟩), .int .u64 c, .int .u64 r, .slice A m cc] w fun e w' => e = .returned (.int .i64 1) ∧ St W w' (blkA g 65 [.map none] :: R) := by
  replace hS := hS.pick pk
  clear pk
  refine calls_of_wpE (args := [_, _, _, _]) Try.func54 rfl rfl rfl ?_
  refine c_seq ?_
  refine c_region ?_
  refine t_q (q_assign) ?_
  refine t_nil ?_
  refine c_seq ?_
  refine c_block ?_
  refine c_seq ?_
  refine c_region ?_
  refine t_q (q_mv (.pointer _) rfl) ?_
  refine t_call Try.call143 (none_at (m := none) hS (by repeat first | exact .here _ _ | assumption | apply Pick.there)) rfl ?_
  rintro e w ⟨rfl, hS⟩
  refine ⟨_, rfl, ?_⟩
  refine t_q (q_as (.bool _) rfl) ?_
  refine t_nil ?_
  refine c_cond_t rfl rfl ?_
  refine c_seq ?_
  refine c_region ?_
  refine t_q (q_assign) ?_
  refine t_nil ?_
  refine c_ret ?_
  refine r_one rfl rfl ?_
  exact ⟨rfl, hS⟩
set_option maxRecDepth 100000 in
theorem done_calls {w : World} {L R : List Asn} {g : Nat} {T : Tb} (hS : St W w L) (pk : Pick L (tabA g T) R) (hT : TGood T) {c q : Int} {A : Option Addr} {cc : Nat} {l : List Ev} (hq : 0 ≤ q) (hrd : ∀ w', St W w' R → RdEv w' A l) (hm : l.length ≤ 1000000) : Calls Try.prog 54 #[.pointer (some ⟨g, 0, none⟩), .int .u64 c, .int .u64 q, .slice A l.length cc] w fun e w' => e = .returned (.int .i64 (doneE T c q l)) ∧ St W w' (tabA g (doneT T c q l) :: R) := by
  replace hS := hS.pick pk
  clear pk
  refine calls_of_wpE (args := [_, _, _, _]) Try.func54 rfl rfl rfl ?_
  refine c_seq ?_
  refine c_region ?_
  refine t_q (q_assign) ?_
  refine t_nil ?_
  refine c_seq ?_
  refine c_block ?_
  refine c_seq ?_
  obtain ⟨r, E, hE, hS⟩ := hS.tab
  refine c_region ?_
  refine t_q (q_mv (.pointer _) rfl) ?_
  refine t_call Try.call143 (none_at (m := some r) hS (by repeat first | exact .here _ _ | assumption | apply Pick.there)) rfl ?_
  rintro e w ⟨rfl, hS⟩
  refine ⟨_, rfl, ?_⟩
  replace hS := (((((hS.pick (A := rdsA _) (by repeat first | exact .here _ _ | assumption | apply Pick.there)).pick (A := mapA .u64 r _) (by repeat first | exact .here _ _ | assumption | apply Pick.there)).pick (A := blkA g 65 _) (by repeat first | exact .here _ _ | assumption | apply Pick.there))).untab hE)
  refine t_q (q_as (.bool _) rfl) ?_
  refine t_nil ?_
  refine c_cond_f rfl rfl ?_
  refine c_seq ?_
  refine c_region ?_
  refine t_q (q_mv (.int _ _) rfl) ?_
  refine t_q (q_lss rfl rfl) ?_
  refine t_q (q_mv (.bool _) rfl) ?_
  refine t_case 15 rfl ?_ ?_
  · intro hg3
    have hg3d := of_decide_eq_true hg3
    refine t_no rfl rfl (by rw [hg3]; decide) ?_
    refine t_no rfl rfl (by rw [hg3]; decide) ?_
    refine t_q (q_pick_t rfl hg3) ?_
    refine t_q (q_mv (.bool _) rfl) ?_
    refine t_no rfl rfl (by decide) ?_
    refine t_no rfl rfl (by decide) ?_
    refine t_q (q_pick_t rfl rfl) ?_
    refine t_q (q_as (.bool _) rfl) ?_
    refine t_nil ?_
    refine c_cond_t rfl rfl ?_
    have hdE := done_1 (T := T) (c := c) (r := q) (l := l) (by omega)
    refine c_seq ?_
    refine c_region ?_
    refine t_q (q_assign) ?_
    refine t_nil ?_
    refine c_ret ?_
    refine r_one rfl rfl ?_
    first
      | (rw [done_no hdE (by decide), hdE]; exact ⟨rfl, hS⟩)
      | (rw [done_yes hdE, hdE]
         exact ⟨rfl, (((((hS.pick (A := rdsA _) (by repeat first | exact .here _ _ | assumption | apply Pick.there)).pick (A := rowA 130 12 A40 _ c40 _) (by repeat first | exact .here _ _ | assumption | apply Pick.there)).pick (A := mapA .u64 r _) (by repeat first | exact .here _ _ | assumption | apply Pick.there)).pick (A := blkA g 65 _) (by repeat first | exact .here _ _ | assumption | apply Pick.there))).tab_set hE rfl (by omega) (by omega)⟩)
  · intro hg3
    have hg3d := of_decide_eq_false hg3
    refine t_yes rfl rfl hg3 ?_
    refine t_q (q_mv (.int _ _) rfl) ?_
    refine t_yes rfl rfl hg3 ?_
    refine t_q (q_gtr rfl rfl) ?_
    refine t_q (q_pick_f rfl hg3) ?_
    refine t_q (q_mv (.bool _) rfl) ?_
    refine t_case 19 rfl ?_ ?_
    · intro hg5
      have hg5d := of_decide_eq_true hg5
      refine t_no rfl rfl (by rw [hg5]; decide) ?_
      refine t_no rfl rfl (by rw [hg5]; decide) ?_
      refine t_q (q_pick_t rfl hg5) ?_
      refine t_q (q_as (.bool _) rfl) ?_
      refine t_nil ?_
      refine c_cond_t rfl rfl ?_
      have hdE := done_1 (T := T) (c := c) (r := q) (l := l) (by omega)
      refine c_seq ?_
      refine c_region ?_
      refine t_q (q_assign) ?_
      refine t_nil ?_
      refine c_ret ?_
      refine r_one rfl rfl ?_
      first
        | (rw [done_no hdE (by decide), hdE]; exact ⟨rfl, hS⟩)
        | (rw [done_yes hdE, hdE]
           exact ⟨rfl, (((((hS.pick (A := rdsA _) (by repeat first | exact .here _ _ | assumption | apply Pick.there)).pick (A := rowA 130 12 A40 _ c40 _) (by repeat first | exact .here _ _ | assumption | apply Pick.there)).pick (A := mapA .u64 r _) (by repeat first | exact .here _ _ | assumption | apply Pick.there)).pick (A := blkA g 65 _) (by repeat first | exact .here _ _ | assumption | apply Pick.there))).tab_set hE rfl (by omega) (by omega)⟩)
    · intro hg5
      have hg5d := of_decide_eq_false hg5
      refine t_yes rfl rfl hg5 ?_
      refine t_q (q_mv (.int _ _) rfl) ?_
      refine t_yes rfl rfl hg5 ?_
      refine t_q (q_eql rfl rfl) ?_
      refine t_q (q_pick_f rfl hg5) ?_
      refine t_q (q_as (.bool _) rfl) ?_
      refine t_nil ?_
      refine c_cond rfl ?_ ?_
      · intro hc7
        have hc7d := of_decide_eq_true hc7
        have hdE := done_1 (T := T) (c := c) (r := q) (l := l) (by omega)
        refine c_seq ?_
        refine c_region ?_
        refine t_q (q_assign) ?_
        refine t_nil ?_
        refine c_ret ?_
        refine r_one rfl rfl ?_
        first
          | (rw [done_no hdE (by decide), hdE]; exact ⟨rfl, hS⟩)
          | (rw [done_yes hdE, hdE]
             exact ⟨rfl, (((((hS.pick (A := rdsA _) (by repeat first | exact .here _ _ | assumption | apply Pick.there)).pick (A := rowA 130 12 A40 _ c40 _) (by repeat first | exact .here _ _ | assumption | apply Pick.there)).pick (A := mapA .u64 r _) (by repeat first | exact .here _ _ | assumption | apply Pick.there)).pick (A := blkA g 65 _) (by repeat first | exact .here _ _ | assumption | apply Pick.there))).tab_set hE rfl (by omega) (by omega)⟩)
      · intro hc7
        have hc7d := of_decide_eq_false hc7
        have hd0 : ¬ (c < 1 ∨ 8 < c ∨ q = 0) := by omega
        refine c_seq ?_
        refine c_region ?_
        refine t_q (q_mv (.int _ _) rfl) ?_
        refine t_q (q_mv (.pointer _) rfl) ?_
        refine t_q (q_mv (.int _ _) rfl) ?_
        refine t_call Try.call55 (last_calls hS (.here _ _) hT) rfl ?_
        rintro e w ⟨rfl, hS⟩
        refine ⟨_, rfl, ?_⟩
        refine t_q (q_leq rfl rfl) ?_
        refine t_q (q_as (.bool _) rfl) ?_
        refine t_nil ?_
        refine c_cond rfl ?_ ?_
        · intro hc10
          have hc10d := of_decide_eq_true hc10
          have hdE := done_2 (T := T) (c := c) (r := q) (l := l) hd0 (by omega)
          refine c_seq ?_
          refine c_region ?_
          refine t_q (q_assign) ?_
          refine t_nil ?_
          refine c_ret ?_
          refine r_one rfl rfl ?_
          first
            | (rw [done_no hdE (by decide), hdE]; exact ⟨rfl, hS⟩)
            | (rw [done_yes hdE, hdE]
               exact ⟨rfl, (((((hS.pick (A := rdsA _) (by repeat first | exact .here _ _ | assumption | apply Pick.there)).pick (A := rowA 130 12 A40 _ c40 _) (by repeat first | exact .here _ _ | assumption | apply Pick.there)).pick (A := mapA .u64 r _) (by repeat first | exact .here _ _ | assumption | apply Pick.there)).pick (A := blkA g 65 _) (by repeat first | exact .here _ _ | assumption | apply Pick.there))).tab_set hE rfl (by omega) (by omega)⟩)
        · intro hc10
          have hc10d := of_decide_eq_false hc10
          have hd1 : ¬ q ≤ lastT T c := by omega
          refine c_seq ?_
          refine c_region ?_
          refine t_q (q_mv (.slice _ _ _) rfl) ?_
          refine t_q (q_len_slice Try.runUnderlying70 rfl) ?_
          refine t_q (q_gtr rfl rfl) ?_
          refine t_q (q_as (.bool _) rfl) ?_
          refine t_nil ?_
          refine c_cond rfl ?_ ?_
          · intro hc12
            have hc12d := of_decide_eq_true hc12
            have hdE := done_3 (T := T) (c := c) (r := q) (l := l) hd0 hd1 (by omega)
            refine c_seq ?_
            refine c_region ?_
            refine t_q (q_assign) ?_
            refine t_nil ?_
            refine c_ret ?_
            refine r_one rfl rfl ?_
            first
              | (rw [done_no hdE (by decide), hdE]; exact ⟨rfl, hS⟩)
              | (rw [done_yes hdE, hdE]
                 exact ⟨rfl, (((((hS.pick (A := rdsA _) (by repeat first | exact .here _ _ | assumption | apply Pick.there)).pick (A := rowA 130 12 A40 _ c40 _) (by repeat first | exact .here _ _ | assumption | apply Pick.there)).pick (A := mapA .u64 r _) (by repeat first | exact .here _ _ | assumption | apply Pick.there)).pick (A := blkA g 65 _) (by repeat first | exact .here _ _ | assumption | apply Pick.there))).tab_set hE rfl (by omega) (by omega)⟩)
          · intro hc12
            have hc12d := of_decide_eq_false hc12
            have hdE := done_4 (T := T) (c := c) (r := q) (l := l) hd0 hd1 (by omega)
            refine c_skip ?_
            refine c_seq ?_
            clear hE
            obtain ⟨r, E, hE, hS⟩ := hS.tab
            refine c_draw ?_
            refine d_keep (blkA g 65 [.map (some r)]) 10 [0, 1, 2, 3, 4, 5, 6, 7, 8, 9] [0, 1, 2, 3, 4, 5, 6, 7, 8, 9] hS rfl (by kernel_rfl) (by kernel_rfl) (by kernel_rfl) (by kernel_rfl) (fun hap hsel w hS => ?_)
            refine p_q hap hsel 0 rfl rfl ⟨_, hS.pick (by repeat first | exact .here _ _ | assumption | apply Pick.there)⟩ (fun w hI => q_mv (.pointer _) rfl) ?_
            refine p_q hap hsel 1 rfl rfl ⟨_, hS.pick (by repeat first | exact .here _ _ | assumption | apply Pick.there)⟩ (fun w hI => q_nilCheck rfl) ?_
            refine p_q hap hsel 2 rfl rfl ⟨_, hS.pick (by repeat first | exact .here _ _ | assumption | apply Pick.there)⟩ (fun w hI => q_fieldAddr 0 Try.runUnderlying65 rfl Try.sizeOf63 (by decide) rfl rfl) ?_
            refine p_q hap hsel 3 rfl rfl ⟨_, hS.pick (by repeat first | exact .here _ _ | assumption | apply Pick.there)⟩ (fun w hI => q_load1 Try.isAgg63 rfl (hI.choose_spec.cell (by repeat first | exact .here _ _ | assumption | apply Pick.there) rfl)) ?_
            refine p_q hap hsel 4 rfl rfl ⟨_, hS.pick (by repeat first | exact .here _ _ | assumption | apply Pick.there)⟩ (fun w hI => q_mv (.int _ _) rfl) ?_
            refine p_q hap hsel 5 rfl rfl ⟨_, hS.pick (by repeat first | exact .here _ _ | assumption | apply Pick.there)⟩ (fun w hI => q_mv (.int _ _) rfl) ?_
            refine p_q hap hsel 6 rfl rfl ⟨_, hS.pick (by repeat first | exact .here _ _ | assumption | apply Pick.there)⟩ (fun w hI => q_mv (.slice _ _ _) rfl) ?_
            refine p_one 7 rfl (by kernel_rfl) ?_
            refine t_call Try.call144 (eclone_calls (hrd _ ((((hS.pick (A := rdsA _) (by repeat first | exact .here _ _ | assumption | apply Pick.there)).pick (A := mapA .u64 r _) (by repeat first | exact .here _ _ | assumption | apply Pick.there)).pick (A := blkA g 65 _) (by repeat first | exact .here _ _ | assumption | apply Pick.there))).drop.drop.drop) hm) rfl ?_
            rintro e w ⟨A40, c40, rfl, hT40⟩
            refine ⟨_, rfl, ?_⟩
            have hS : St W w (_ :: _) := hS.lift hT40
            refine t_nil ?_
            refine ⟨.inr ⟨_, hS.pick (by repeat first | exact .here _ _ | assumption | apply Pick.there)⟩, ?_⟩
            refine p_q hap hsel 8 rfl rfl ⟨_, hS.pick (by repeat first | exact .here _ _ | assumption | apply Pick.there)⟩ (fun w hI => q_build (qs := [(0, 1), (1, 1)]) [(.int _ _), (.slice _ _ _)] Try.zeroValue195 Try.runUnderlying195 ⟨rfl, Try.sizeOf24, rfl, Try.sizeOf70, trivial⟩ rfl rfl) ?_
            refine p_one 9 rfl (by kernel_rfl) ?_
            refine t_mapUpdate Try.underlying63 Try.underlying24 hS (by repeat first | exact .here _ _ | assumption | apply Pick.there) rfl rfl rfl (fun w hS => ?_)
            refine t_nil ?_
            refine ⟨.inl (by kernel_rfl), ?_⟩
            refine p_end (by kernel_rfl) ?_
            refine c_seq ?_
            refine c_region ?_
            refine t_q (q_assign) ?_
            refine t_nil ?_
            refine c_ret ?_
            refine r_one rfl rfl ?_
            first
              | (rw [done_no hdE (by decide), hdE]; exact ⟨rfl, hS⟩)
              | (rw [done_yes hdE, hdE]
                 exact ⟨rfl, (((((hS.pick (A := rdsA _) (by repeat first | exact .here _ _ | assumption | apply Pick.there)).pick (A := rowA 130 12 A40 _ c40 _) (by repeat first | exact .here _ _ | assumption | apply Pick.there)).pick (A := mapA .u64 r _) (by repeat first | exact .here _ _ | assumption | apply Pick.there)).pick (A := blkA g 65 _) (by repeat first | exact .here _ _ | assumption | apply Pick.there))).tab_set hE rfl (by omega) (by omega)⟩)
set_option maxRecDepth 100000 in
theorem drop_nil {c : Int} : Calls Try.prog 51 #[.pointer none, .int .u64 c] W fun e w' => e = .returned (.tuple #[]) ∧ St W w' [] := by
  have hS := St.init W
  refine calls_of_wpE (args := [_, _]) Try.func51 rfl rfl rfl ?_
  refine c_seq ?_
  refine c_region ?_
  refine t_q (q_mv (.pointer _) rfl) ?_
  refine t_call Try.call143 (none_nil) rfl ?_
  rintro e w ⟨rfl, hT⟩
  refine ⟨_, rfl, ?_⟩
  replace hS := hS.after hT
  refine t_q (q_not rfl) ?_
  refine t_nil ?_
  refine c_cond_f rfl rfl ?_
  refine c_skip ?_
  refine r_none rfl  ?_
  exact ⟨rfl, hS⟩
set_option maxRecDepth 100000 in
theorem drop_zero {w : World} {L R : List Asn} {g : Nat} (hS : St W w L) (pk : Pick L (blkA g 65 [.map none]) R) {c : Int} : Calls Try.prog 51 #[.pointer (some ⟨g, 0, none⟩), .int .u64 c] w fun e w' => e = .returned (.tuple #[]) ∧ St W w' (blkA g 65 [.map none] :: R) := by
  replace hS := hS.pick pk
  clear pk
  refine calls_of_wpE (args := [_, _]) Try.func51 rfl rfl rfl ?_
  refine c_seq ?_
  refine c_region ?_
  refine t_q (q_mv (.pointer _) rfl) ?_
  refine t_call Try.call143 (none_at (m := none) hS (by repeat first | exact .here _ _ | assumption | apply Pick.there)) rfl ?_
  rintro e w ⟨rfl, hS⟩
  refine ⟨_, rfl, ?_⟩
  refine t_q (q_not rfl) ?_
  refine t_nil ?_
  refine c_cond_f rfl rfl ?_
  refine c_skip ?_
  refine r_none rfl  ?_
  exact ⟨rfl, hS⟩
set_option maxRecDepth 100000 in
theorem sclone_nil : Calls Try.prog 56 #[.pointer none] W fun e w' => e = .returned (.pointer none) ∧ St W w' [] := by
  have hS := St.init W
  refine calls_of_wpE (args := [_]) Try.func56 rfl rfl rfl ?_
  refine c_seq ?_
  refine c_region ?_
  refine t_q (q_assign) ?_
  refine t_nil ?_
  refine c_seq ?_
  refine c_seq ?_
  refine c_region ?_
  refine t_q (q_mv (.pointer _) rfl) ?_
  refine t_q (q_eql_ptr_nil Try.runUnderlying62 rfl rfl) ?_
  refine t_nil ?_
  refine c_cond_t rfl rfl ?_
  refine c_seq ?_
  refine c_region ?_
  refine t_q (q_assign) ?_
  refine t_nil ?_
  refine c_ret ?_
  refine r_one rfl rfl ?_
  exact ⟨rfl, hS⟩
set_option maxRecDepth 100000 in
theorem snew_calls {w : World} {L : List Asn} (hS : St W w L) : Calls Try.prog 120 #[] w fun e w' => ∃ g, e = .returned (.pointer (some ⟨g, 0, none⟩)) ∧ St W w' (tabA g T0 :: L) := by
  refine calls_of_wpE (args := []) Try.func120 rfl rfl rfl ?_
  refine c_seq ?_
  refine c_region ?_
  refine t_q (q_assign) ?_
  refine t_nil ?_
  refine c_seq ?_
  refine c_region ?_
  refine t_makeMap (k := .u64) hS (fun r1 w hS => ?_)
  refine t_q (q_build (qs := [(0, 1)]) [(.map _)] Try.zeroValue65 Try.runUnderlying65 ⟨rfl, Try.sizeOf63, trivial⟩ rfl rfl) ?_
  refine t_box (v := (.agg _)) rfl rfl hS (fun g3 w hS => ?_)
  refine t_q (q_as (.pointer _) rfl) ?_
  refine t_nil ?_
  refine c_ret ?_
  refine r_one rfl rfl ?_
  exact ⟨g3, rfl, St.untab (E := []) ((((hS.rds0.pick (A := rdsA []) (by repeat first | exact .here _ _ | assumption | apply Pick.there)).pick (A := mapA .u64 r1 _) (by repeat first | exact .here _ _ | assumption | apply Pick.there)).pick (A := blkA g3 65 _) (by repeat first | exact .here _ _ | assumption | apply Pick.there))) SGood.zero⟩
set_option maxRecDepth 100000 in
theorem sput_nil {m : Option Addr} : Calls Try.prog 52 #[.pointer none, .pointer m] W fun e w' => e = .returned (.tuple #[]) ∧ St W w' [] := by
  have hS := St.init W
  refine calls_of_wpE (args := [_, _]) Try.func52 rfl rfl rfl ?_
  refine c_seq ?_
  refine c_seq ?_
  refine c_region ?_
  refine t_q (q_mv (.pointer _) rfl) ?_
  refine t_call Try.call143 (none_nil) rfl ?_
  rintro e w ⟨rfl, hT⟩
  refine ⟨_, rfl, ?_⟩
  replace hS := hS.after hT
  refine t_nil ?_
  refine c_cond_t rfl rfl ?_
  refine c_ret ?_
  refine r_none rfl  ?_
  exact ⟨rfl, hS⟩
set_option maxRecDepth 100000 in
theorem sput_zero {w : World} {L R : List Asn} {g : Nat} (hS : St W w L) (pk : Pick L (blkA g 65 [.map none]) R) {m : Option Addr} : Calls Try.prog 52 #[.pointer (some ⟨g, 0, none⟩), .pointer m] w fun e w' => e = .returned (.tuple #[]) ∧ St W w' (blkA g 65 [.map none] :: R) := by
  replace hS := hS.pick pk
  clear pk
  refine calls_of_wpE (args := [_, _]) Try.func52 rfl rfl rfl ?_
  refine c_seq ?_
  refine c_seq ?_
  refine c_region ?_
  refine t_q (q_mv (.pointer _) rfl) ?_
  refine t_call Try.call143 (none_at (m := none) hS (by repeat first | exact .here _ _ | assumption | apply Pick.there)) rfl ?_
  rintro e w ⟨rfl, hS⟩
  refine ⟨_, rfl, ?_⟩
  refine t_nil ?_
  refine c_cond_t rfl rfl ?_
  refine c_ret ?_
  refine r_none rfl  ?_
  exact ⟨rfl, hS⟩
set_option maxRecDepth 100000 in
theorem sput_calls {w : World} {R : List Asn} {g g2 : Nat} {bs : List UInt8} {T : Tb} (hS : St W w (wrA g2 bs :: tabA g T :: R)) (hT : TGood T) (hb : bs.length ≤ 1000000) :
  Calls Try.prog 52 #[.pointer (some ⟨g, 0, none⟩), .pointer (some ⟨g2, 0, none⟩)] w fun e w' => e = .returned (.tuple #[]) ∧ St W w' (wrA g2 (bs ++ sesB T) :: tabA g T :: R) := by
  replace hS := hS.pick (.there (.here _ _))
  obtain ⟨r, E, hE, hS⟩ := hS.tab
  have hcnt := hE.count
  have hE8 : (E.map SE.kv).length = cntK T 8 := by rw [List.length_map, hcnt]
  have hcl := cntK_le T 8
  have hl0 := enc_ten (n := cntK T 8) (by omega)
  refine calls_of_wpE (args := [_, _]) Try.func52 rfl rfl rfl ?_
  refine c_seq ?_
  refine c_seq ?_
  refine c_region ?_
  refine t_q (q_mv (.pointer _) rfl) ?_
  refine t_call Try.call143 (none_at (m := some r) hS (by repeat first | exact .here _ _ | assumption | apply Pick.there)) rfl ?_
  rintro e w ⟨rfl, hS⟩
  refine ⟨_, rfl, ?_⟩
  refine t_nil ?_
  refine c_cond_f rfl rfl ?_
  refine c_skip ?_
  refine c_seq ?_
  refine c_region ?_
  refine t_q (q_mv (.pointer _) rfl) ?_
  refine t_q (q_mv (.pointer _) rfl) ?_
  refine t_q (q_nilCheck rfl) ?_
  refine t_q (q_fieldAddr 0 Try.runUnderlying65 rfl Try.sizeOf63 (by decide) rfl rfl) ?_
  refine t_q (q_load1 Try.isAgg63 rfl (hS.cell (by repeat first | exact .here _ _ | assumption | apply Pick.there) rfl)) ?_
  refine t_q (q_len_map Try.underlying63 (hS) (by repeat first | exact .here _ _ | assumption | apply Pick.there) rfl) ?_
  first | refine t_q (q_conv_u64 Try.runUnderlying3 Try.runUnderlying24 rfl (by omega)) ?_ | refine t_q (q_convm_u64 Try.runUnderlying3 Try.runUnderlying24 rfl) ?_
  refine t_build_ints [_] Try.runUnderlying191 Try.sizeOf24 Try.zeroValue24 rfl rfl (by decide) hS (fun g16 w hS => ?_)
  refine t_call Try.call42 (Nat_calls hS (.there (.there (.there (.there (.here _ _))))) (fun _ h => h.rowInts (.here _ _) rfl) (by intro m hm; simp only [List.mem_cons, List.not_mem_nil, or_false] at hm; omega) (by simp) (by omega)) rfl ?_
  rintro e w ⟨rfl, hS⟩
  refine ⟨_, rfl, ?_⟩
  replace hS := hS.swap
  refine t_nil ?_
  refine c_seq ?_
  refine c_region ?_
  refine t_q (q_assign) ?_
  refine t_nil ?_
  refine c_block ?_
  refine c_loop [4, 5, 6, 18, 19, 20, 21, 22, 23, 24, 25, 26, 27, 28, 29, 30, 31, 32, 33, 34, 35, 36, 37, 38, 39, 40, 41] (fun k σ w => ∃ i : Nat, σ 4 = .int .u64 ((i : Int) + 1) ∧ i ≤ 8 ∧ 8 - i ≤ k ∧ St W w (wrA g2 (bs ++ (enc (cntK T 8) ++ sesP T i)) :: blkA g 65 [.map (some r)] :: mapA .u64 r (E.map SE.kv) :: rdsA (E.map SE.rp) :: R)) (8) rfl (⟨0, rfl, by omega, by omega, (((((hS.pick (A := rdsA _) (by repeat first | exact .here _ _ | assumption | apply Pick.there)).pick (A := mapA .u64 r _) (by repeat first | exact .here _ _ | assumption | apply Pick.there)).pick (A := blkA g 65 _) (by repeat first | exact .here _ _ | assumption | apply Pick.there)).pick (A := wrA g2 _) (by repeat first | exact .here _ _ | assumption | apply Pick.there))).recast (congrArg (wrA g2) (by rw [encs_one, Int.toNat_natCast, List.length_map, hcnt]; simp [sesP]))⟩) ?_
  skip
  rintro k σ w ⟨i, h4, hi, hk, hS⟩
  refine c_know 4 h4 ?_
  clear h4
  have hpl := sesP_len hT i hi
  obtain ⟨la, ln, lc, hget, hhas⟩ := sget2 hE hT ((i : Int) + 1)
  have hlr := lastT_rng hT ((i : Int) + 1)
  refine c_seq ?_
  refine c_seq ?_
  refine c_region ?_
  refine t_q (q_mv (.int _ _) rfl) ?_
  refine t_q (q_leq rfl rfl) ?_
  refine t_nil ?_
  refine c_cond rfl ?_ ?_
  · intro hc4
    have hc4d := of_decide_eq_true hc4
    refine c_skip ?_
    refine c_seq ?_
    refine c_block ?_
    refine c_seq ?_
    refine c_region ?_
    refine t_q (q_mv (.pointer _) rfl) ?_
    refine t_q (q_nilCheck rfl) ?_
    refine t_q (q_fieldAddr 0 Try.runUnderlying65 rfl Try.sizeOf63 (by decide) rfl rfl) ?_
    refine t_q (q_load1 Try.isAgg63 rfl (hS.cell (by repeat first | exact .here _ _ | assumption | apply Pick.there) rfl)) ?_
    refine t_q (q_mv (.int _ _) rfl) ?_
    refine t_q (q_cast (v' := .tuple #[.agg #[.int .u64 (lastT T ((i : Int) + 1)), .slice la ln lc], .bool (decide (0 < lastT T ((i : Int) + 1)))]) (q_lookup (ok := true) Try.underlying63 Try.underlying24 Try.zeroValue195 (hS) (by repeat first | exact .here _ _ | assumption | apply Pick.there) rfl rfl) (hget)) ?_
    refine t_q (q_mv (.tuple _) rfl) ?_
    refine t_q (q_extract rfl rfl) ?_
    refine t_q (q_extract rfl rfl) ?_
    refine t_alloc Try.zeroValue195 rfl hS (fun g5 w hS => ?_)
    refine t_store (v := (.agg _)) Try.sizeOf195 hS (by repeat first | exact .here _ _ | assumption | apply Pick.there) rfl rfl rfl rfl rfl rfl (fun w hS => ?_)
    replace hS := hS.recast (show blkA g5 195 _ = blkA g5 195 [.int .u64 (lastT T ((i : Int) + 1)), .slice la ln lc] from rfl)
    refine t_q (q_as (.bool _) rfl) ?_
    refine t_nil ?_
    refine c_seq ?_
    refine c_region ?_
    refine t_q (q_mv (.bool _) rfl) ?_
    refine t_nil ?_
    refine c_cond rfl ?_ ?_
    · intro hc7
      have hc7d := of_decide_eq_true hc7
      obtain ⟨en, hen, rfl, rfl, rfl, hen2⟩ := hhas hc7d
      clear hhas
      have hevi := hT.evs ((i : Int) + 1)
      have hevl := hT.len ((i : Int) + 1)
      rw [hen2] at hevi hevl
      replace hevl : en.l.length ≤ 1000000 := Nat.le_trans hevl (by decide)
      have hn2 := encs_length (ns := [((i : Int) + 1), lastT T ((i : Int) + 1)]) (by intro m hm; simp only [List.mem_cons, List.not_mem_nil, or_false] at hm; omega)
      simp only [List.length_cons, List.length_nil] at hn2
      refine c_seq ?_
      refine c_region ?_
      refine t_q (q_mv (.pointer _) rfl) ?_
      refine t_q (q_mv (.int _ _) rfl) ?_
      refine t_q (q_fieldAddr 0 Try.runUnderlying195 rfl Try.sizeOf24 (by decide) rfl rfl) ?_
      refine t_q (q_load1 Try.isAgg24 rfl (hS.cell (by repeat first | exact .here _ _ | assumption | apply Pick.there) rfl)) ?_
      refine t_build_ints [_, _] Try.runUnderlying191 Try.sizeOf24 Try.zeroValue24 rfl rfl (by decide) hS (fun g36 w hS => ?_)
      refine t_call Try.call42 (Nat_calls hS (.there (.there (.here _ _))) (fun _ h => h.rowInts (.here _ _) rfl) (by intro m hm; simp only [List.mem_cons, List.not_mem_nil, or_false] at hm; omega) (by simp) (by simp only [List.length_append]; omega)) rfl ?_
      rintro e w ⟨rfl, hS⟩
      refine ⟨_, rfl, ?_⟩
      replace hS := hS.swap
      refine t_nil ?_
      refine c_region ?_
      refine t_q (q_mv (.pointer _) rfl) ?_
      refine t_q (q_fieldAddr 1 Try.runUnderlying195 rfl Try.sizeOf70 (by decide) rfl rfl) ?_
      refine t_q (q_load1 Try.isAgg70 rfl (hS.cell (by repeat first | exact .here _ _ | assumption | apply Pick.there) rfl)) ?_
      refine t_call Try.call98 (eput_calls hS (by repeat first | exact .here _ _ | assumption | apply Pick.there) (fun _ h => h.rds (p := SE.rp en) (by repeat first | exact .here _ _ | assumption | apply Pick.there) (List.mem_map.2 ⟨en, hen, rfl⟩)) hevi hevl (by simp only [List.length_append]; omega)) rfl ?_
      rintro e w ⟨rfl, hS⟩
      refine ⟨_, rfl, ?_⟩
      refine t_nil ?_
      refine c_region ?_
      refine t_q (q_mv (.int _ _) rfl) ?_
      refine t_q (q_cast (v' := .int .u64 (((i + 1 : Nat) : Int) + 1)) (q_add_u64 rfl rfl (by omega)) (by congr 1)) ?_
      refine t_q (q_as (.int _ _) rfl) ?_
      refine t_nil ?_
      have hlast : lastT T ((i : Int) + 1) = (T ((i : Int) + 1)).1 := by unfold lastT; rw [if_pos (by omega)]
      first
        | (replace hS := (hS.pick (A := blkA g5 195 _) (by repeat first | exact .here _ _ | assumption | apply Pick.there)).drop
           refine ⟨k - 1, by omega, i + 1, rfl, by omega, by omega, (((((hS.pick (A := rdsA _) (by repeat first | exact .here _ _ | assumption | apply Pick.there)).pick (A := mapA .u64 r _) (by repeat first | exact .here _ _ | assumption | apply Pick.there)).pick (A := blkA g 65 _) (by repeat first | exact .here _ _ | assumption | apply Pick.there)).pick (A := wrA g2 _) (by repeat first | exact .here _ _ | assumption | apply Pick.there))).recast (congrArg (wrA g2) ?_)⟩
           rw [sesP, if_pos (by omega), hen2]
           simp only [encs, itB, List.flatMap_cons, List.flatMap_nil, List.append_nil, List.append_assoc, hlast, hen2])
        | (replace hS := (hS.pick (A := blkA g5 195 _) (by repeat first | exact .here _ _ | assumption | apply Pick.there)).drop
           refine ⟨k - 1, by omega, i + 1, rfl, by omega, by omega, (((((hS.pick (A := rdsA _) (by repeat first | exact .here _ _ | assumption | apply Pick.there)).pick (A := mapA .u64 r _) (by repeat first | exact .here _ _ | assumption | apply Pick.there)).pick (A := blkA g 65 _) (by repeat first | exact .here _ _ | assumption | apply Pick.there)).pick (A := wrA g2 _) (by repeat first | exact .here _ _ | assumption | apply Pick.there))).recast (congrArg (wrA g2) ?_)⟩
           rw [sesP, if_neg (by omega), List.append_nil])
    · intro hc7
      have hc7d := of_decide_eq_false hc7
      clear hhas
      refine c_skip ?_
      refine c_region ?_
      refine t_q (q_mv (.int _ _) rfl) ?_
      refine t_q (q_cast (v' := .int .u64 (((i + 1 : Nat) : Int) + 1)) (q_add_u64 rfl rfl (by omega)) (by congr 1)) ?_
      refine t_q (q_as (.int _ _) rfl) ?_
      refine t_nil ?_
      have hlast : lastT T ((i : Int) + 1) = (T ((i : Int) + 1)).1 := by unfold lastT; rw [if_pos (by omega)]
      first
        | (replace hS := (hS.pick (A := blkA g5 195 _) (by repeat first | exact .here _ _ | assumption | apply Pick.there)).drop
           refine ⟨k - 1, by omega, i + 1, rfl, by omega, by omega, (((((hS.pick (A := rdsA _) (by repeat first | exact .here _ _ | assumption | apply Pick.there)).pick (A := mapA .u64 r _) (by repeat first | exact .here _ _ | assumption | apply Pick.there)).pick (A := blkA g 65 _) (by repeat first | exact .here _ _ | assumption | apply Pick.there)).pick (A := wrA g2 _) (by repeat first | exact .here _ _ | assumption | apply Pick.there))).recast (congrArg (wrA g2) ?_)⟩
           rw [sesP, if_pos (by omega), hen2]
           simp only [encs, itB, List.flatMap_cons, List.flatMap_nil, List.append_nil, List.append_assoc, hlast, hen2])
        | (replace hS := (hS.pick (A := blkA g5 195 _) (by repeat first | exact .here _ _ | assumption | apply Pick.there)).drop
           refine ⟨k - 1, by omega, i + 1, rfl, by omega, by omega, (((((hS.pick (A := rdsA _) (by repeat first | exact .here _ _ | assumption | apply Pick.there)).pick (A := mapA .u64 r _) (by repeat first | exact .here _ _ | assumption | apply Pick.there)).pick (A := blkA g 65 _) (by repeat first | exact .here _ _ | assumption | apply Pick.there)).pick (A := wrA g2 _) (by repeat first | exact .here _ _ | assumption | apply Pick.there))).recast (congrArg (wrA g2) ?_)⟩
           rw [sesP, if_neg (by omega), List.append_nil])
  · intro hc4
    have hc4d := of_decide_eq_false hc4
    obtain rfl : i = 8 := by omega
    refine c_exit ?_
    refine ite_t rfl ?_
    refine r_none rfl  ?_
    exact ⟨rfl, (((((hS.pick (A := rdsA _) (by repeat first | exact .here _ _ | assumption | apply Pick.there)).pick (A := mapA .u64 r _) (by repeat first | exact .here _ _ | assumption | apply Pick.there)).pick (A := blkA g 65 _) (by repeat first | exact .here _ _ | assumption | apply Pick.there))).untab hE).pick (A := wrA g2 _) (by repeat first | exact .here _ _ | assumption | apply Pick.there)⟩
end Go.Proofs.Ytcikoealneldkaa
