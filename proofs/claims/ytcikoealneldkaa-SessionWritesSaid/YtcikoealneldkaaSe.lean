/- Tables of sessions: the document's own. -/
import Derived.Test.YtcikoealneldkaaSd
namespace Go.Proofs.Ytcikoealneldkaa
open Go Go.RowKit Go.Lib
variable {W : World}
theorem lookL_rd {w : World} {L R : List Asn} {T : Tb} {sl : Slt} {c q : Int} {A : Option Addr} (hS : St W w L) (p : Pick L (rdsA (rps T sl)) R) (h : (lookA T c q = true ∧ A = (sl c.toNat).1 ∧ 0 ≤ c ∧ c ≤ 8) ∨ lookA T c q = false) : RdEv w A (lookL T c q) := by
  rcases h with ⟨h1, h2, h3⟩ | h1
  · unfold lookL
    rw [if_pos h1, h2]
    exact rps_rd hS p h3
  · unfold lookL
    rw [if_neg (by rw [h1]; decide)]
    exact fun hj => absurd hj (by simp)
attribute [local irreducible] blkA rowA rdrA mapA mapS rdsA tabA refA wrA Sk.good Sk.cl Sk.rq Sk.s1 Sk.s2 evS rcs
set_option maxRecDepth 100000 in
theorem qlook_calls {w : World} {L R : List Asn} {g : Nat} {T : Tb} {sl : Slt} (hS : St W w L) (pk : Pick L (blkA g 168 (rcs T sl)) R) {c q : Int} (hq : 0 ≤ q) :
  Calls Try.prog 179 #[.pointer (some ⟨g, 0, none⟩), .int .u64 c, .int .u64 q] w fun e w' => ∃ A' n c', e = .returned (.tuple #[.bool (lookA T c q), .bool (lookO T c q), .slice A' n c']) ∧ n = (lookL T c q).length ∧ ((lookA T c q = true ∧ A' = (sl c.toNat).1 ∧ 0 ≤ c ∧ c ≤ 8) ∨ lookA T c q = false) ∧ St W w' (blkA g 168 (rcs T sl) :: R) := by
  replace hS := hS.pick pk
  clear pk
  refine calls_of_wpE (args := [_, _, _]) Try.func179 rfl rfl rfl ?_
  refine c_seq ?_
  refine c_region ?_
  refine t_q (q_assign) ?_
  refine t_q (q_assign) ?_
  refine t_q (q_assign) ?_
  refine t_nil ?_
  refine c_seq ?_
  refine c_seq ?_
  refine c_region ?_
  refine t_q (q_mv (.int _ _) rfl) ?_
  refine t_q (q_lss rfl rfl) ?_
  refine t_q (q_mv (.bool _) rfl) ?_
  refine t_case 11 rfl ?_ ?_
  · intro hg2
    have hg2d := of_decide_eq_true hg2
    refine t_no rfl rfl (by rw [hg2]; decide) ?_
    refine t_no rfl rfl (by rw [hg2]; decide) ?_
    refine t_q (q_pick_t rfl hg2) ?_
    refine t_q (q_mv (.bool _) rfl) ?_
    refine t_no rfl rfl (by decide) ?_
    refine t_no rfl rfl (by decide) ?_
    refine t_q (q_pick_t rfl rfl) ?_
    refine t_q (q_mv (.bool _) rfl) ?_
    refine t_no rfl rfl (by decide) ?_
    refine t_no rfl rfl (by decide) ?_
    refine t_no rfl rfl (by decide) ?_
    refine t_no rfl rfl (by decide) ?_
    refine t_no rfl rfl (by decide) ?_
    refine t_no rfl rfl (by decide) ?_
    refine t_no rfl rfl (by decide) ?_
    refine t_no rfl rfl (by decide) ?_
    refine t_no rfl rfl (by decide) ?_
    refine t_q (q_pick_t rfl rfl) ?_
    refine t_nil ?_
    refine c_cond_t rfl rfl ?_
    have hlk := look_1 (T := T) (c := c) (r := q) (by unfold lastT; split <;> omega)
    refine c_seq ?_
    refine c_region ?_
    refine t_q (q_assign) ?_
    refine t_q (q_assign) ?_
    refine t_q (q_assign) ?_
    refine t_nil ?_
    refine c_ret ?_
    refine r_three rfl rfl rfl rfl ?_
    obtain ⟨e1, e2, e3⟩ := hlk
    rw [e1, e2, e3]
    first
      | exact ⟨none, 0, 0, rfl, rfl, .inr rfl, hS⟩
      | exact ⟨_, _, _, rfl, rfl, .inl ⟨rfl, rfl, by omega⟩, hS⟩
  · intro hg2
    have hg2d := of_decide_eq_false hg2
    refine t_yes rfl rfl hg2 ?_
    refine t_q (q_mv (.int _ _) rfl) ?_
    refine t_yes rfl rfl hg2 ?_
    refine t_q (q_gtr rfl rfl) ?_
    refine t_q (q_pick_f rfl hg2) ?_
    refine t_q (q_mv (.bool _) rfl) ?_
    refine t_case 15 rfl ?_ ?_
    · intro hg4
      have hg4d := of_decide_eq_true hg4
      refine t_no rfl rfl (by rw [hg4]; decide) ?_
      refine t_no rfl rfl (by rw [hg4]; decide) ?_
      refine t_q (q_pick_t rfl hg4) ?_
      refine t_q (q_mv (.bool _) rfl) ?_
      refine t_no rfl rfl (by decide) ?_
      refine t_no rfl rfl (by decide) ?_
      refine t_no rfl rfl (by decide) ?_
      refine t_no rfl rfl (by decide) ?_
      refine t_no rfl rfl (by decide) ?_
      refine t_no rfl rfl (by decide) ?_
      refine t_no rfl rfl (by decide) ?_
      refine t_no rfl rfl (by decide) ?_
      refine t_no rfl rfl (by decide) ?_
      refine t_q (q_pick_t rfl rfl) ?_
      refine t_nil ?_
      refine c_cond_t rfl rfl ?_
      have hlk := look_1 (T := T) (c := c) (r := q) (by unfold lastT; split <;> omega)
      refine c_seq ?_
      refine c_region ?_
      refine t_q (q_assign) ?_
      refine t_q (q_assign) ?_
      refine t_q (q_assign) ?_
      refine t_nil ?_
      refine c_ret ?_
      refine r_three rfl rfl rfl rfl ?_
      obtain ⟨e1, e2, e3⟩ := hlk
      rw [e1, e2, e3]
      first
        | exact ⟨none, 0, 0, rfl, rfl, .inr rfl, hS⟩
        | exact ⟨_, _, _, rfl, rfl, .inl ⟨rfl, rfl, by omega⟩, hS⟩
    · intro hg4
      have hg4d := of_decide_eq_false hg4
      refine t_yes rfl rfl hg4 ?_
      refine t_q (q_mv (.int _ _) rfl) ?_
      refine t_yes rfl rfl hg4 ?_
      refine t_q (q_eql rfl rfl) ?_
      refine t_q (q_pick_f rfl hg4) ?_
      refine t_q (q_mv (.bool _) rfl) ?_
      refine t_case 19 rfl ?_ ?_
      · intro hg6
        have hg6d := of_decide_eq_true hg6
        refine t_no rfl rfl (by rw [hg6]; decide) ?_
        refine t_no rfl rfl (by rw [hg6]; decide) ?_
        refine t_no rfl rfl (by rw [hg6]; decide) ?_
        refine t_no rfl rfl (by rw [hg6]; decide) ?_
        refine t_no rfl rfl (by rw [hg6]; decide) ?_
        refine t_no rfl rfl (by rw [hg6]; decide) ?_
        refine t_no rfl rfl (by rw [hg6]; decide) ?_
        refine t_no rfl rfl (by rw [hg6]; decide) ?_
        refine t_no rfl rfl (by rw [hg6]; decide) ?_
        refine t_q (q_pick_t rfl hg6) ?_
        refine t_nil ?_
        refine c_cond_t rfl rfl ?_
        have hlk := look_1 (T := T) (c := c) (r := q) (by unfold lastT; split <;> omega)
        refine c_seq ?_
        refine c_region ?_
        refine t_q (q_assign) ?_
        refine t_q (q_assign) ?_
        refine t_q (q_assign) ?_
        refine t_nil ?_
        refine c_ret ?_
        refine r_three rfl rfl rfl rfl ?_
        obtain ⟨e1, e2, e3⟩ := hlk
        rw [e1, e2, e3]
        first
          | exact ⟨none, 0, 0, rfl, rfl, .inr rfl, hS⟩
          | exact ⟨_, _, _, rfl, rfl, .inl ⟨rfl, rfl, by omega⟩, hS⟩
      · intro hg6
        have hg6d := of_decide_eq_false hg6
        refine t_yes rfl rfl hg6 ?_
        refine t_q (q_mv (.int _ _) rfl) ?_
        refine t_yes rfl rfl hg6 ?_
        refine t_q (q_mv (.pointer _) rfl) ?_
        refine t_yes rfl rfl hg6 ?_
        refine t_q (q_mv (.int _ _) rfl) ?_
        refine t_yes rfl rfl hg6 ?_
        refine t_q (q_nilCheck rfl) ?_
        refine t_yes rfl rfl hg6 ?_
        refine t_q (q_fieldAddr 0 Try.runUnderlying168 rfl Try.sizeOf166 (by decide) rfl rfl) ?_
        refine t_yes rfl rfl hg6 ?_
        first | refine t_q (q_arr_nat Try.runUnderlying166 Try.sizeOf165 rfl rfl (by omega)) ?_ | refine t_q (q_arr Try.runUnderlying166 Try.sizeOf165 rfl rfl (by omega)) ?_
        refine t_yes rfl rfl hg6 ?_
        refine t_q (q_fieldAddr 0 Try.runUnderlying165 rfl Try.sizeOf24 (by decide) rfl rfl) ?_
        refine t_yes rfl rfl hg6 ?_
        refine t_q (q_load1 Try.isAgg24 rfl (hS.cell (by repeat first | exact .here _ _ | assumption | apply Pick.there) (rcs_req (by omega)))) ?_
        refine t_yes rfl rfl hg6 ?_
        refine t_q (q_gtr rfl rfl) ?_
        refine t_q (q_pick_f rfl hg6) ?_
        refine t_nil ?_
        refine c_cond rfl ?_ ?_
        · intro hc9
          have hc9d := of_decide_eq_true hc9
          have hlk := look_1 (T := T) (c := c) (r := q) (by unfold lastT; split <;> omega)
          refine c_seq ?_
          refine c_region ?_
          refine t_q (q_assign) ?_
          refine t_q (q_assign) ?_
          refine t_q (q_assign) ?_
          refine t_nil ?_
          refine c_ret ?_
          refine r_three rfl rfl rfl rfl ?_
          obtain ⟨e1, e2, e3⟩ := hlk
          rw [e1, e2, e3]
          first
            | exact ⟨none, 0, 0, rfl, rfl, .inr rfl, hS⟩
            | exact ⟨_, _, _, rfl, rfl, .inl ⟨rfl, rfl, by omega⟩, hS⟩
        · intro hc9
          have hc9d := of_decide_eq_false hc9
          have hq0 : q ≠ 0 := by omega
          have hlast : lastT T c = (T c).1 := by unfold lastT; rw [if_pos (by omega)]
          refine c_skip ?_
          refine c_seq ?_
          refine c_seq ?_
          refine c_region ?_
          refine t_q (q_mv (.int _ _) rfl) ?_
          refine t_q (q_mv (.pointer _) rfl) ?_
          refine t_q (q_mv (.int _ _) rfl) ?_
          refine t_q (q_nilCheck rfl) ?_
          refine t_q (q_fieldAddr 0 Try.runUnderlying168 rfl Try.sizeOf166 (by decide) rfl rfl) ?_
          first | refine t_q (q_arr_nat Try.runUnderlying166 Try.sizeOf165 rfl rfl (by omega)) ?_ | refine t_q (q_arr Try.runUnderlying166 Try.sizeOf165 rfl rfl (by omega)) ?_
          refine t_q (q_fieldAddr 0 Try.runUnderlying165 rfl Try.sizeOf24 (by decide) rfl rfl) ?_
          refine t_q (q_load1 Try.isAgg24 rfl (hS.cell (by repeat first | exact .here _ _ | assumption | apply Pick.there) (rcs_req (by omega)))) ?_
          refine t_q (q_lss rfl rfl) ?_
          refine t_nil ?_
          refine c_cond rfl ?_ ?_
          · intro hc12
            have hc12d := of_decide_eq_true hc12
            have hlk := look_2 (T := T) (c := c) (r := q) hq0 (by omega)
            refine c_seq ?_
            refine c_region ?_
            refine t_q (q_assign) ?_
            refine t_q (q_assign) ?_
            refine t_q (q_assign) ?_
            refine t_nil ?_
            refine c_ret ?_
            refine r_three rfl rfl rfl rfl ?_
            obtain ⟨e1, e2, e3⟩ := hlk
            rw [e1, e2, e3]
            first
              | exact ⟨none, 0, 0, rfl, rfl, .inr rfl, hS⟩
              | exact ⟨_, _, _, rfl, rfl, .inl ⟨rfl, rfl, by omega⟩, hS⟩
          · intro hc12
            have hc12d := of_decide_eq_false hc12
            have hqe : q = lastT T c := by omega
            have hlk := look_3 (T := T) (c := c) (r := q) hq0 hqe
            refine c_skip ?_
            refine c_seq ?_
            refine c_draw ?_
            refine d_quiet 10 [0, 1, 2, 3, 4, 5, 6, 7, 8, 9] [7, 8, 0, 1, 2, 3, 4, 5, 6, 9] hS rfl (by kernel_rfl) (by kernel_rfl) (by kernel_rfl) (by kernel_rfl) (fun hap hsel w hS => ?_)
            refine p_q hap hsel 0 rfl rfl hS (fun w hS => q_mv (.pointer _) rfl) ?_
            refine p_q hap hsel 1 rfl rfl hS (fun w hS => q_mv (.int _ _) rfl) ?_
            refine p_q hap hsel 2 rfl rfl hS (fun w hS => q_nilCheck rfl) ?_
            refine p_q hap hsel 3 rfl rfl hS (fun w hS => q_fieldAddr 0 Try.runUnderlying168 rfl Try.sizeOf166 (by decide) rfl rfl) ?_
            first | refine p_q hap hsel 4 rfl rfl hS (fun w hS => q_arr_nat Try.runUnderlying166 Try.sizeOf165 rfl rfl (by omega)) ?_ | refine p_q hap hsel 4 rfl rfl hS (fun w hS => q_arr Try.runUnderlying166 Try.sizeOf165 rfl rfl (by omega)) ?_
            refine p_q hap hsel 5 rfl rfl hS (fun w hS => q_fieldAddr 1 Try.runUnderlying165 rfl Try.sizeOf70 (by decide) rfl rfl) ?_
            refine p_q hap hsel 6 rfl rfl hS (fun w hS => q_load1 Try.isAgg70 rfl (hS.cell (by repeat first | exact .here _ _ | assumption | apply Pick.there) (rcs_evs (by omega)))) ?_
            refine p_q hap hsel 7 rfl rfl hS (fun w hS => q_assign) ?_
            refine p_q hap hsel 8 rfl rfl hS (fun w hS => q_assign) ?_
            refine p_q hap hsel 9 rfl rfl hS (fun w hS => q_as (.slice _ _ _) rfl) ?_
            refine p_end (by kernel_rfl) ?_
            refine c_ret ?_
            refine r_three rfl rfl rfl rfl ?_
            obtain ⟨e1, e2, e3⟩ := hlk
            rw [e1, e2, e3]
            first
              | exact ⟨none, 0, 0, rfl, rfl, .inr rfl, hS⟩
              | exact ⟨_, _, _, rfl, rfl, .inl ⟨rfl, rfl, by omega⟩, hS⟩
set_option maxRecDepth 100000 in
theorem qdone_calls {w : World} {L R : List Asn} {g : Nat} {T : Tb} {c q : Int} {A : Option Addr} {cc : Nat} {l : List Ev} (hS : St W w L) (pk : Pick L (refA g T) R) (hq : 0 ≤ q) (hrd : ∀ w', St W w' R → RdEv w' A l) (hm : l.length ≤ 1000000) :
  Calls Try.prog 121 #[.pointer (some ⟨g, 0, none⟩), .int .u64 c, .int .u64 q, .slice A l.length cc] w fun e w' => e = .returned (.int .i64 (doneE T c q l)) ∧ St W w' (refA g (doneT T c q l) :: R) := by
  replace hS := hS.pick pk
  clear pk
  obtain ⟨sl, hS⟩ := hS.ref
  refine calls_of_wpE (args := [_, _, _, _]) Try.func121 rfl rfl rfl ?_
  refine c_seq ?_
  refine c_region ?_
  refine t_q (q_assign) ?_
  refine t_nil ?_
  refine c_seq ?_
  refine c_seq ?_
  refine c_region ?_
  refine t_q (q_mv (.int _ _) rfl) ?_
  refine t_q (q_lss rfl rfl) ?_
  refine t_q (q_mv (.bool _) rfl) ?_
  refine t_case 11 rfl ?_ ?_
  · intro hg2
    have hg2d := of_decide_eq_true hg2
    refine t_no rfl rfl (by rw [hg2]; decide) ?_
    refine t_no rfl rfl (by rw [hg2]; decide) ?_
    refine t_q (q_pick_t rfl hg2) ?_
    refine t_q (q_mv (.bool _) rfl) ?_
    refine t_no rfl rfl (by decide) ?_
    refine t_no rfl rfl (by decide) ?_
    refine t_q (q_pick_t rfl rfl) ?_
    refine t_nil ?_
    refine c_cond_t rfl rfl ?_
    have hdE := done_1 (T := T) (c := c) (r := q) (l := l) (by omega)
    refine c_seq ?_
    refine c_region ?_
    refine t_q (q_assign) ?_
    refine t_nil ?_
    refine c_ret ?_
    refine r_one rfl rfl ?_
    first
      | (rw [done_no hdE (by decide), hdE]; exact ⟨rfl, hS.unref⟩)
      | (rw [done_yes hdE, hdE]
         rw [Nat.zero_add l.length] at hS
         exact ⟨rfl, ((((hS.pick (A := rdsA _) (by repeat first | exact .here _ _ | assumption | apply Pick.there)).pick (A := rowA 130 12 A36 _ c36 _) (by repeat first | exact .here _ _ | assumption | apply Pick.there)).pick (A := blkA g 168 _) (by repeat first | exact .here _ _ | assumption | apply Pick.there))).ref_set rfl (by omega)⟩)
  · intro hg2
    have hg2d := of_decide_eq_false hg2
    refine t_yes rfl rfl hg2 ?_
    refine t_q (q_mv (.int _ _) rfl) ?_
    refine t_yes rfl rfl hg2 ?_
    refine t_q (q_gtr rfl rfl) ?_
    refine t_q (q_pick_f rfl hg2) ?_
    refine t_q (q_mv (.bool _) rfl) ?_
    refine t_case 15 rfl ?_ ?_
    · intro hg4
      have hg4d := of_decide_eq_true hg4
      refine t_no rfl rfl (by rw [hg4]; decide) ?_
      refine t_no rfl rfl (by rw [hg4]; decide) ?_
      refine t_q (q_pick_t rfl hg4) ?_
      refine t_nil ?_
      refine c_cond_t rfl rfl ?_
      have hdE := done_1 (T := T) (c := c) (r := q) (l := l) (by omega)
      refine c_seq ?_
      refine c_region ?_
      refine t_q (q_assign) ?_
      refine t_nil ?_
      refine c_ret ?_
      refine r_one rfl rfl ?_
      first
        | (rw [done_no hdE (by decide), hdE]; exact ⟨rfl, hS.unref⟩)
        | (rw [done_yes hdE, hdE]
           rw [Nat.zero_add l.length] at hS
           exact ⟨rfl, ((((hS.pick (A := rdsA _) (by repeat first | exact .here _ _ | assumption | apply Pick.there)).pick (A := rowA 130 12 A36 _ c36 _) (by repeat first | exact .here _ _ | assumption | apply Pick.there)).pick (A := blkA g 168 _) (by repeat first | exact .here _ _ | assumption | apply Pick.there))).ref_set rfl (by omega)⟩)
    · intro hg4
      have hg4d := of_decide_eq_false hg4
      refine t_yes rfl rfl hg4 ?_
      refine t_q (q_mv (.int _ _) rfl) ?_
      refine t_yes rfl rfl hg4 ?_
      refine t_q (q_eql rfl rfl) ?_
      refine t_q (q_pick_f rfl hg4) ?_
      refine t_nil ?_
      refine c_cond rfl ?_ ?_
      · intro hc6
        have hc6d := of_decide_eq_true hc6
        have hdE := done_1 (T := T) (c := c) (r := q) (l := l) (by omega)
        refine c_seq ?_
        refine c_region ?_
        refine t_q (q_assign) ?_
        refine t_nil ?_
        refine c_ret ?_
        refine r_one rfl rfl ?_
        first
          | (rw [done_no hdE (by decide), hdE]; exact ⟨rfl, hS.unref⟩)
          | (rw [done_yes hdE, hdE]
             rw [Nat.zero_add l.length] at hS
             exact ⟨rfl, ((((hS.pick (A := rdsA _) (by repeat first | exact .here _ _ | assumption | apply Pick.there)).pick (A := rowA 130 12 A36 _ c36 _) (by repeat first | exact .here _ _ | assumption | apply Pick.there)).pick (A := blkA g 168 _) (by repeat first | exact .here _ _ | assumption | apply Pick.there))).ref_set rfl (by omega)⟩)
      · intro hc6
        have hc6d := of_decide_eq_false hc6
        have hd0 : ¬ (c < 1 ∨ 8 < c ∨ q = 0) := by omega
        have hlast : lastT T c = (T c).1 := by unfold lastT; rw [if_pos (by omega)]
        refine c_skip ?_
        refine c_seq ?_
        refine c_seq ?_
        refine c_region ?_
        refine t_q (q_mv (.int _ _) rfl) ?_
        refine t_q (q_mv (.pointer _) rfl) ?_
        refine t_q (q_mv (.int _ _) rfl) ?_
        refine t_q (q_nilCheck rfl) ?_
        refine t_q (q_fieldAddr 0 Try.runUnderlying168 rfl Try.sizeOf166 (by decide) rfl rfl) ?_
        first | refine t_q (q_arr_nat Try.runUnderlying166 Try.sizeOf165 rfl rfl (by omega)) ?_ | refine t_q (q_arr Try.runUnderlying166 Try.sizeOf165 rfl rfl (by omega)) ?_
        refine t_q (q_fieldAddr 0 Try.runUnderlying165 rfl Try.sizeOf24 (by decide) rfl rfl) ?_
        refine t_q (q_load1 Try.isAgg24 rfl (hS.cell (by repeat first | exact .here _ _ | assumption | apply Pick.there) (rcs_req (by omega)))) ?_
        refine t_q (q_leq rfl rfl) ?_
        refine t_nil ?_
        refine c_cond rfl ?_ ?_
        · intro hc9
          have hc9d := of_decide_eq_true hc9
          have hdE := done_2 (T := T) (c := c) (r := q) (l := l) hd0 (by omega)
          refine c_seq ?_
          refine c_region ?_
          refine t_q (q_assign) ?_
          refine t_nil ?_
          refine c_ret ?_
          refine r_one rfl rfl ?_
          first
            | (rw [done_no hdE (by decide), hdE]; exact ⟨rfl, hS.unref⟩)
            | (rw [done_yes hdE, hdE]
               rw [Nat.zero_add l.length] at hS
               exact ⟨rfl, ((((hS.pick (A := rdsA _) (by repeat first | exact .here _ _ | assumption | apply Pick.there)).pick (A := rowA 130 12 A36 _ c36 _) (by repeat first | exact .here _ _ | assumption | apply Pick.there)).pick (A := blkA g 168 _) (by repeat first | exact .here _ _ | assumption | apply Pick.there))).ref_set rfl (by omega)⟩)
        · intro hc9
          have hc9d := of_decide_eq_false hc9
          have hd1 : ¬ q ≤ lastT T c := by omega
          refine c_skip ?_
          refine c_seq ?_
          refine c_seq ?_
          refine c_region ?_
          refine t_q (q_mv (.slice _ _ _) rfl) ?_
          refine t_q (q_len_slice Try.runUnderlying70 rfl) ?_
          refine t_q (q_gtr rfl rfl) ?_
          refine t_nil ?_
          refine c_cond rfl ?_ ?_
          · intro hc11
            have hc11d := of_decide_eq_true hc11
            have hdE := done_3 (T := T) (c := c) (r := q) (l := l) hd0 hd1 (by omega)
            refine c_seq ?_
            refine c_region ?_
            refine t_q (q_assign) ?_
            refine t_nil ?_
            refine c_ret ?_
            refine r_one rfl rfl ?_
            first
              | (rw [done_no hdE (by decide), hdE]; exact ⟨rfl, hS.unref⟩)
              | (rw [done_yes hdE, hdE]
                 rw [Nat.zero_add l.length] at hS
                 exact ⟨rfl, ((((hS.pick (A := rdsA _) (by repeat first | exact .here _ _ | assumption | apply Pick.there)).pick (A := rowA 130 12 A36 _ c36 _) (by repeat first | exact .here _ _ | assumption | apply Pick.there)).pick (A := blkA g 168 _) (by repeat first | exact .here _ _ | assumption | apply Pick.there))).ref_set rfl (by omega)⟩)
          · intro hc11
            have hc11d := of_decide_eq_false hc11
            have hdE := done_4 (T := T) (c := c) (r := q) (l := l) hd0 hd1 (by omega)
            refine c_skip ?_
            refine c_seq ?_
            refine c_draw ?_
            refine d_free 11 [0, 1, 2, 3, 4, 5, 6, 7, 8, 9, 10] [0, 1, 2, 3, 4, 5, 6, 7, 8, 9, 10] hS rfl (by kernel_rfl) (by kernel_rfl) (by kernel_rfl) (by kernel_rfl) (fun hap hsel w hS => ?_)
            refine p_q hap hsel 0 rfl rfl ⟨_, hS⟩ (fun w hI => q_mv (.pointer _) rfl) ?_
            refine p_q hap hsel 1 rfl rfl ⟨_, hS⟩ (fun w hI => q_mv (.int _ _) rfl) ?_
            refine p_q hap hsel 2 rfl rfl ⟨_, hS⟩ (fun w hI => q_mv (.int _ _) rfl) ?_
            refine p_q hap hsel 4 rfl rfl ⟨_, hS⟩ (fun w hI => q_mv (.slice _ _ _) rfl) ?_
            refine p_q hap hsel 7 rfl rfl ⟨_, hS⟩ (fun w hI => q_nilCheck rfl) ?_
            refine p_q hap hsel 8 rfl rfl ⟨_, hS⟩ (fun w hI => q_fieldAddr 0 Try.runUnderlying168 rfl Try.sizeOf166 (by decide) rfl rfl) ?_
            refine p_one 3 rfl (by kernel_rfl) ?_
            refine t_buildSlice Try.runUnderlying70 Try.sizeOf130 Try.zeroValue130 rfl rfl (by intro v hv; simp at hv; try (first | (subst hv; rfl) | (rcases hv with rfl | rfl <;> rfl))) (by decide) (by decide) hS (fun g34 w hS => ?_)
            refine t_nil ?_
            refine ⟨.inr ⟨_, hS⟩, ?_⟩
            refine p_one 5 rfl (by kernel_rfl) ?_
            refine t_append (size := 12) (bytes := 96) Try.underlying70 (info_of Try.type130) rfl rfl rfl rfl (by decide) hS (by repeat first | exact .here _ _ | assumption | apply Pick.there) (hrd _ hS.drop.drop.drop) rfl rfl (fun _ _ => rfl) (by unfold maxLen; omega) (by omega) (fun A36 c36 w hS => ?_)
            replace hS := hS.recast (congrArg (rowA 130 12 A36 _ c36) (show _ = l.flatMap Ev.cells from flat_range (cells := Ev.cells) l))
            rw [Nat.zero_add] at hS
            refine t_nil ?_
            refine ⟨.inr ⟨_, hS⟩, ?_⟩
            refine p_q hap hsel 6 rfl rfl ⟨_, hS⟩ (fun w hI => q_build (qs := [(0, 1), (1, 1)]) [(.int _ _), (.slice _ _ _)] Try.zeroValue165 Try.runUnderlying165 ⟨rfl, Try.sizeOf24, rfl, Try.sizeOf70, trivial⟩ rfl rfl) ?_
            first | refine p_q hap hsel 9 rfl rfl ⟨_, hS⟩ (fun w hI => q_arr_nat Try.runUnderlying166 Try.sizeOf165 rfl rfl (by omega)) ?_ | refine p_q hap hsel 9 rfl rfl ⟨_, hS⟩ (fun w hI => q_arr Try.runUnderlying166 Try.sizeOf165 rfl rfl (by omega)) ?_
            refine p_one 10 rfl (by kernel_rfl) ?_
            refine t_store (v := (.agg _)) Try.sizeOf165 hS (by repeat first | exact .here _ _ | assumption | apply Pick.there) rfl rfl rfl rfl rfl (Nat.ble_eq_true_of_le (by rw [rcs_len]; show 0 + c.toNat * 2 + 2 ≤ 18; omega)) (fun w hS => ?_)
            refine t_nil ?_
            refine ⟨.inl (by kernel_rfl), ?_⟩
            refine p_end (by kernel_rfl) ?_
            refine c_seq ?_
            refine c_region ?_
            refine t_q (q_assign) ?_
            refine t_nil ?_
            refine c_ret ?_
            refine r_one rfl rfl ?_
            first
              | (rw [done_no hdE (by decide), hdE]; exact ⟨rfl, hS.unref⟩)
              | (rw [done_yes hdE, hdE]
                 rw [Nat.zero_add l.length] at hS
                 exact ⟨rfl, ((((hS.pick (A := rdsA _) (by repeat first | exact .here _ _ | assumption | apply Pick.there)).pick (A := rowA 130 12 A36 _ c36 _) (by repeat first | exact .here _ _ | assumption | apply Pick.there)).pick (A := blkA g 168 _) (by repeat first | exact .here _ _ | assumption | apply Pick.there))).ref_set rfl (by omega)⟩)
end Go.Proofs.Ytcikoealneldkaa
