/- Whether events are the same, which ones are of trading, and how many are of a kind: the walk. -/
import Derived.Test.YtcikoealneldkaaEz
namespace Go.Proofs.Ytcikoealneldkaa
open Go Go.RowKit Go.Lib
variable {W : World}

set_option maxRecDepth 100000 in
theorem EventTells_calls {A B : Option Addr} {c d : Nat} {a b : List Ev} {n : Int} (ha : RdEv W A a) (hb : RdEv W B b) (hai : ∀ e ∈ a, e.In) (hbi : ∀ e ∈ b, e.In) (hm : a.length ≤ maxLen ∧ b.length ≤ maxLen) :
  Calls Try.prog 18 #[.slice A a.length c, .slice B b.length d, .int .i64 n] W fun e w' => e = .returned (.bool true) ∧ St W w' [] := by
  have hS := St.init W
  unfold maxLen at hm
  refine calls_of_wpE (args := [_, _, _]) Try.func18 rfl rfl rfl ?_
  refine c_seq ?_
  refine c_region ?_
  refine t_q (q_assign) ?_
  refine t_nil ?_
  refine c_seq ?_
  refine c_seq ?_
  refine c_region ?_
  refine t_q (q_mv (.slice _ _ _) rfl) ?_
  refine t_q (q_len_slice Try.runUnderlying70 rfl) ?_
  refine t_q (q_gtr rfl rfl) ?_
  refine t_q (q_mv (.bool _) rfl) ?_
  refine t_case 13 rfl ?_ ?_
  · intro hg2
    have hg2d := of_decide_eq_true hg2
    refine t_no rfl rfl (by rw [hg2]; decide) ?_
    refine t_no rfl rfl (by rw [hg2]; decide) ?_
    refine t_no rfl rfl (by rw [hg2]; decide) ?_
    refine t_q (q_pick_t rfl hg2) ?_
    refine t_nil ?_
    refine c_cond_t rfl rfl ?_
    refine c_seq ?_
    refine c_region ?_
    refine t_call Try.call95 (elives_calls) rfl ?_
    rintro e w ⟨rfl, hT⟩
    refine ⟨_, rfl, ?_⟩
    replace hS := hS.after hT
    refine t_q (q_as (.bool _) rfl) ?_
    refine t_nil ?_
    refine c_ret ?_
    refine r_one rfl rfl ?_
    exact ⟨rfl, hS.nil⟩
  · intro hg2
    have hg2d := of_decide_eq_false hg2
    refine t_yes rfl rfl hg2 ?_
    refine t_q (q_mv (.slice _ _ _) rfl) ?_
    refine t_yes rfl rfl hg2 ?_
    refine t_q (q_len_slice Try.runUnderlying70 rfl) ?_
    refine t_yes rfl rfl hg2 ?_
    refine t_q (q_gtr rfl rfl) ?_
    refine t_q (q_pick_f rfl hg2) ?_
    refine t_nil ?_
    refine c_cond rfl ?_ ?_
    · intro hc5
      have hc5d := of_decide_eq_true hc5
      refine c_seq ?_
      refine c_region ?_
      refine t_call Try.call95 (elives_calls) rfl ?_
      rintro e w ⟨rfl, hT⟩
      refine ⟨_, rfl, ?_⟩
      replace hS := hS.after hT
      refine t_q (q_as (.bool _) rfl) ?_
      refine t_nil ?_
      refine c_ret ?_
      refine r_one rfl rfl ?_
      exact ⟨rfl, hS.nil⟩
    · intro hc5
      have hc5d := of_decide_eq_false hc5
      have h300 : a.length ≤ 300 ∧ b.length ≤ 300 := by omega
      refine c_skip ?_
      refine c_seq ?_
      refine c_region ?_
      refine t_q (q_assign) ?_
      refine t_nil ?_
      refine c_seq ?_
      refine c_seq ?_
      refine c_region ?_
      refine t_q (q_mv (.slice _ _ _) rfl) ?_
      refine t_q (q_len_slice Try.runUnderlying70 rfl) ?_
      refine t_q (q_move) ?_
      refine t_nil ?_
      refine c_block ?_
      refine c_loop [6, 7, 9, 21, 22, 23, 24, 25, 26, 27, 28, 29, 30, 31, 32, 33, 34, 35, 36, 37, 38, 39, 40, 41, 42] (fun k σ w => ∃ j x : Nat, σ 21 = .int .i64 (j : Int) ∧ σ 7 = .int .i64 (x : Int) ∧ x = cntN (a.take j) n ∧ x ≤ j ∧ j ≤ a.length ∧ a.length - j ≤ k ∧ St W w []) (a.length) rfl (⟨0, 0, rfl, rfl, (by simp [cntN]), by omega, by omega, by omega, hS⟩) ?_
      skip
      rintro k σ w ⟨j, x, h21, h7, hx, hxj, hj, hk, hS⟩
      refine c_know 21 h21 ?_
      refine c_know 7 h7 ?_
      clear h21 h7
      refine c_seq ?_
      refine c_region ?_
      refine t_q (q_lss rfl rfl) ?_
      refine t_nil ?_
      refine c_seq ?_
      refine c_cond rfl ?_ ?_
      · intro hc8
        have hc8d := of_decide_eq_true hc8
        refine c_skip ?_
        refine c_seq ?_
        refine c_block ?_
        refine c_seq ?_
        refine c_region ?_
        first | refine t_index_nat Try.runUnderlying70 Try.sizeOf130 (ha.st hS) rfl rfl (by omega) (fun ad9 hl9 hx9 => ?_) | refine t_index Try.runUnderlying70 Try.sizeOf130 (ha.st hS) rfl rfl (by omega) (fun ad9 hl9 hx9 => ?_)
        refine t_q (q_loadN Try.isAgg130 Try.sizeOf130 rfl hl9 hx9) ?_
        refine t_alloc Try.zeroValue130 rfl hS (fun g9 w hS => ?_)
        refine t_store (v := (.agg _)) Try.sizeOf130 hS (by repeat first | exact .here _ _ | assumption | apply Pick.there) rfl rfl rfl rfl rfl rfl (fun w hS => ?_)
        replace hS := hS.recast (show blkA g9 130 _ = blkA g9 130 (a.getD j default).cells from rfl)
        refine t_nil ?_
        refine c_seq ?_
        refine c_seq ?_
        refine c_region ?_
        refine t_q (q_fieldAddr 0 Try.runUnderlying130 rfl Try.sizeOf3 (by decide) rfl rfl) ?_
        refine t_q (q_load1 Try.isAgg3 rfl (hS.cell (by repeat first | exact .here _ _ | assumption | apply Pick.there) rfl)) ?_
        refine t_q (q_mv (.int _ _) rfl) ?_
        refine t_q (q_eql rfl rfl) ?_
        refine t_nil ?_
        refine c_cond rfl ?_ ?_
        · intro hc11
          have hc11d := of_decide_eq_true hc11
          refine c_region ?_
          refine t_q (q_mv (.int _ _) rfl) ?_
          refine t_q (q_cast (v' := .int .i64 ((x + 1 : Nat) : Int)) (q_add_i64 rfl rfl (by omega)) (by congr 1)) ?_
          refine t_q (q_as (.int _ _) rfl) ?_
          refine t_nil ?_
          refine c_seq ?_
          refine c_draw ?_
          refine d_keep (blkA g9 130 (a.getD j default).cells) 11 [0, 1, 2, 3, 4, 5, 6, 7, 8, 9, 10] [0, 1, 2, 3, 4, 5, 6, 7, 8, 9, 10] hS rfl (by kernel_rfl) (by kernel_rfl) (by kernel_rfl) (by kernel_rfl) (fun hap hsel w hS => ?_)
          refine p_q hap hsel 0 rfl rfl ⟨_, hS.pick (by repeat first | exact .here _ _ | assumption | apply Pick.there)⟩ (fun w hI => q_load_blk Try.isAgg130 Try.sizeOf130 rfl (hI.choose_spec.blk (by repeat first | exact .here _ _ | assumption | apply Pick.there)) rfl) ?_
          refine p_q hap hsel 2 rfl rfl ⟨_, hS.pick (by repeat first | exact .here _ _ | assumption | apply Pick.there)⟩ (fun w hI => q_fieldAddr 0 Try.runUnderlying130 rfl Try.sizeOf3 (by decide) rfl rfl) ?_
          refine p_q hap hsel 3 rfl rfl ⟨_, hS.pick (by repeat first | exact .here _ _ | assumption | apply Pick.there)⟩ (fun w hI => q_load1 Try.isAgg3 rfl (hI.choose_spec.cell (by repeat first | exact .here _ _ | assumption | apply Pick.there) rfl)) ?_
          refine p_q hap hsel 4 rfl rfl ⟨_, hS.pick (by repeat first | exact .here _ _ | assumption | apply Pick.there)⟩ (fun w hI => q_geq rfl rfl) ?_
          refine p_one 1 rfl (by kernel_rfl) ?_
          refine t_call Try.call103 (trades_calls (x := (a.getD j default))) rfl ?_
          rintro e w ⟨rfl, hT⟩
          refine ⟨_, rfl, ?_⟩
          replace hS := hS.after hT
          refine t_nil ?_
          refine ⟨.inr ⟨_, hS.pick (by repeat first | exact .here _ _ | assumption | apply Pick.there)⟩, ?_⟩
          refine p_q hap hsel 5 rfl rfl ⟨_, hS.pick (by repeat first | exact .here _ _ | assumption | apply Pick.there)⟩ (fun w hI => q_mv (.bool _) rfl) ?_
          refine p_case 36 rfl ?_ ?_
          · intro hg14
            have hg14d := of_decide_eq_true hg14
            refine p_yes hap hsel 6 rfl rfl ⟨_, hS.pick (by repeat first | exact .here _ _ | assumption | apply Pick.there)⟩ rfl rfl hg14 (fun w hI => q_fieldAddr 0 Try.runUnderlying130 rfl Try.sizeOf3 (by decide) rfl rfl) ?_
            refine p_yes hap hsel 7 rfl rfl ⟨_, hS.pick (by repeat first | exact .here _ _ | assumption | apply Pick.there)⟩ rfl rfl hg14 (fun w hI => q_load1 Try.isAgg3 rfl (hI.choose_spec.cell (by repeat first | exact .here _ _ | assumption | apply Pick.there) rfl)) ?_
            refine p_yes hap hsel 8 rfl rfl ⟨_, hS.pick (by repeat first | exact .here _ _ | assumption | apply Pick.there)⟩ rfl rfl hg14 (fun w hI => q_leq rfl rfl) ?_
            refine p_q hap hsel 9 rfl rfl ⟨_, hS.pick (by repeat first | exact .here _ _ | assumption | apply Pick.there)⟩ (fun w hI => q_pick_t rfl hg14) ?_
            refine p_q hap hsel 10 rfl rfl ⟨_, hS.pick (by repeat first | exact .here _ _ | assumption | apply Pick.there)⟩ (fun w hI => (q_cast (v' := .bool false) (q_neq_bool Try.runUnderlying4 rfl rfl) (by
      first
        | exact congrArg Value.bool (show decide (tradesB (a.getD j default).kind ≠ decide ((a.getD j default).kind ≤ 7)) = false from by unfold tradesB; rw [‹decide (1 ≤ (a.getD j default).kind) = true›, Bool.true_and]; simp)
        | exact congrArg Value.bool (show decide (tradesB (a.getD j default).kind ≠ false) = false from by unfold tradesB; rw [‹decide (1 ≤ (a.getD j default).kind) = false›, Bool.false_and]; simp)))) ?_
            refine p_end (by kernel_rfl) ?_
            refine c_cond_f rfl rfl ?_
            refine c_skip ?_
            refine c_region ?_
            refine t_q (q_add_i64 rfl rfl (by omega)) ?_
            refine t_q (q_mv (.int _ _) rfl) ?_
            refine t_nil ?_
            have hsn := cnt_snoc (l := a) (k := n) (j := j) (by omega)
            first
              | (rw [if_pos (by omega)] at hsn; exact ⟨k - 1, by omega, j + 1, x + 1, rfl, rfl, by omega, by omega, by omega, by omega, hS.nil⟩)
              | (rw [if_neg (by omega)] at hsn; exact ⟨k - 1, by omega, j + 1, x, rfl, rfl, by omega, by omega, by omega, by omega, hS.nil⟩)
          · intro hg14
            have hg14d := of_decide_eq_false hg14
            refine p_no hap hsel 6 rfl rfl ⟨_, hS.pick (by repeat first | exact .here _ _ | assumption | apply Pick.there)⟩ rfl rfl (by rw [hg14]; decide) ?_
            refine p_no hap hsel 7 rfl rfl ⟨_, hS.pick (by repeat first | exact .here _ _ | assumption | apply Pick.there)⟩ rfl rfl (by rw [hg14]; decide) ?_
            refine p_no hap hsel 8 rfl rfl ⟨_, hS.pick (by repeat first | exact .here _ _ | assumption | apply Pick.there)⟩ rfl rfl (by rw [hg14]; decide) ?_
            refine p_q hap hsel 9 rfl rfl ⟨_, hS.pick (by repeat first | exact .here _ _ | assumption | apply Pick.there)⟩ (fun w hI => q_pick_f rfl hg14) ?_
            refine p_q hap hsel 10 rfl rfl ⟨_, hS.pick (by repeat first | exact .here _ _ | assumption | apply Pick.there)⟩ (fun w hI => (q_cast (v' := .bool false) (q_neq_bool Try.runUnderlying4 rfl rfl) (by
      first
        | exact congrArg Value.bool (show decide (tradesB (a.getD j default).kind ≠ decide ((a.getD j default).kind ≤ 7)) = false from by unfold tradesB; rw [‹decide (1 ≤ (a.getD j default).kind) = true›, Bool.true_and]; simp)
        | exact congrArg Value.bool (show decide (tradesB (a.getD j default).kind ≠ false) = false from by unfold tradesB; rw [‹decide (1 ≤ (a.getD j default).kind) = false›, Bool.false_and]; simp)))) ?_
            refine p_end (by kernel_rfl) ?_
            refine c_cond_f rfl rfl ?_
            refine c_skip ?_
            refine c_region ?_
            refine t_q (q_add_i64 rfl rfl (by omega)) ?_
            refine t_q (q_mv (.int _ _) rfl) ?_
            refine t_nil ?_
            have hsn := cnt_snoc (l := a) (k := n) (j := j) (by omega)
            first
              | (rw [if_pos (by omega)] at hsn; exact ⟨k - 1, by omega, j + 1, x + 1, rfl, rfl, by omega, by omega, by omega, by omega, hS.nil⟩)
              | (rw [if_neg (by omega)] at hsn; exact ⟨k - 1, by omega, j + 1, x, rfl, rfl, by omega, by omega, by omega, by omega, hS.nil⟩)
        · intro hc11
          have hc11d := of_decide_eq_false hc11
          refine c_skip ?_
          refine c_seq ?_
          refine c_draw ?_
          refine d_keep (blkA g9 130 (a.getD j default).cells) 11 [0, 1, 2, 3, 4, 5, 6, 7, 8, 9, 10] [0, 1, 2, 3, 4, 5, 6, 7, 8, 9, 10] hS rfl (by kernel_rfl) (by kernel_rfl) (by kernel_rfl) (by kernel_rfl) (fun hap hsel w hS => ?_)
          refine p_q hap hsel 0 rfl rfl ⟨_, hS.pick (by repeat first | exact .here _ _ | assumption | apply Pick.there)⟩ (fun w hI => q_load_blk Try.isAgg130 Try.sizeOf130 rfl (hI.choose_spec.blk (by repeat first | exact .here _ _ | assumption | apply Pick.there)) rfl) ?_
          refine p_q hap hsel 2 rfl rfl ⟨_, hS.pick (by repeat first | exact .here _ _ | assumption | apply Pick.there)⟩ (fun w hI => q_fieldAddr 0 Try.runUnderlying130 rfl Try.sizeOf3 (by decide) rfl rfl) ?_
          refine p_q hap hsel 3 rfl rfl ⟨_, hS.pick (by repeat first | exact .here _ _ | assumption | apply Pick.there)⟩ (fun w hI => q_load1 Try.isAgg3 rfl (hI.choose_spec.cell (by repeat first | exact .here _ _ | assumption | apply Pick.there) rfl)) ?_
          refine p_q hap hsel 4 rfl rfl ⟨_, hS.pick (by repeat first | exact .here _ _ | assumption | apply Pick.there)⟩ (fun w hI => q_geq rfl rfl) ?_
          refine p_one 1 rfl (by kernel_rfl) ?_
          refine t_call Try.call103 (trades_calls (x := (a.getD j default))) rfl ?_
          rintro e w ⟨rfl, hT⟩
          refine ⟨_, rfl, ?_⟩
          replace hS := hS.after hT
          refine t_nil ?_
          refine ⟨.inr ⟨_, hS.pick (by repeat first | exact .here _ _ | assumption | apply Pick.there)⟩, ?_⟩
          refine p_q hap hsel 5 rfl rfl ⟨_, hS.pick (by repeat first | exact .here _ _ | assumption | apply Pick.there)⟩ (fun w hI => q_mv (.bool _) rfl) ?_
          refine p_case 36 rfl ?_ ?_
          · intro hg20
            have hg20d := of_decide_eq_true hg20
            refine p_yes hap hsel 6 rfl rfl ⟨_, hS.pick (by repeat first | exact .here _ _ | assumption | apply Pick.there)⟩ rfl rfl hg20 (fun w hI => q_fieldAddr 0 Try.runUnderlying130 rfl Try.sizeOf3 (by decide) rfl rfl) ?_
            refine p_yes hap hsel 7 rfl rfl ⟨_, hS.pick (by repeat first | exact .here _ _ | assumption | apply Pick.there)⟩ rfl rfl hg20 (fun w hI => q_load1 Try.isAgg3 rfl (hI.choose_spec.cell (by repeat first | exact .here _ _ | assumption | apply Pick.there) rfl)) ?_
            refine p_yes hap hsel 8 rfl rfl ⟨_, hS.pick (by repeat first | exact .here _ _ | assumption | apply Pick.there)⟩ rfl rfl hg20 (fun w hI => q_leq rfl rfl) ?_
            refine p_q hap hsel 9 rfl rfl ⟨_, hS.pick (by repeat first | exact .here _ _ | assumption | apply Pick.there)⟩ (fun w hI => q_pick_t rfl hg20) ?_
            refine p_q hap hsel 10 rfl rfl ⟨_, hS.pick (by repeat first | exact .here _ _ | assumption | apply Pick.there)⟩ (fun w hI => (q_cast (v' := .bool false) (q_neq_bool Try.runUnderlying4 rfl rfl) (by
      first
        | exact congrArg Value.bool (show decide (tradesB (a.getD j default).kind ≠ decide ((a.getD j default).kind ≤ 7)) = false from by unfold tradesB; rw [‹decide (1 ≤ (a.getD j default).kind) = true›, Bool.true_and]; simp)
        | exact congrArg Value.bool (show decide (tradesB (a.getD j default).kind ≠ false) = false from by unfold tradesB; rw [‹decide (1 ≤ (a.getD j default).kind) = false›, Bool.false_and]; simp)))) ?_
            refine p_end (by kernel_rfl) ?_
            refine c_cond_f rfl rfl ?_
            refine c_skip ?_
            refine c_region ?_
            refine t_q (q_add_i64 rfl rfl (by omega)) ?_
            refine t_q (q_mv (.int _ _) rfl) ?_
            refine t_nil ?_
            have hsn := cnt_snoc (l := a) (k := n) (j := j) (by omega)
            first
              | (rw [if_pos (by omega)] at hsn; exact ⟨k - 1, by omega, j + 1, x + 1, rfl, rfl, by omega, by omega, by omega, by omega, hS.nil⟩)
              | (rw [if_neg (by omega)] at hsn; exact ⟨k - 1, by omega, j + 1, x, rfl, rfl, by omega, by omega, by omega, by omega, hS.nil⟩)
          · intro hg20
            have hg20d := of_decide_eq_false hg20
            refine p_no hap hsel 6 rfl rfl ⟨_, hS.pick (by repeat first | exact .here _ _ | assumption | apply Pick.there)⟩ rfl rfl (by rw [hg20]; decide) ?_
            refine p_no hap hsel 7 rfl rfl ⟨_, hS.pick (by repeat first | exact .here _ _ | assumption | apply Pick.there)⟩ rfl rfl (by rw [hg20]; decide) ?_
            refine p_no hap hsel 8 rfl rfl ⟨_, hS.pick (by repeat first | exact .here _ _ | assumption | apply Pick.there)⟩ rfl rfl (by rw [hg20]; decide) ?_
            refine p_q hap hsel 9 rfl rfl ⟨_, hS.pick (by repeat first | exact .here _ _ | assumption | apply Pick.there)⟩ (fun w hI => q_pick_f rfl hg20) ?_
            refine p_q hap hsel 10 rfl rfl ⟨_, hS.pick (by repeat first | exact .here _ _ | assumption | apply Pick.there)⟩ (fun w hI => (q_cast (v' := .bool false) (q_neq_bool Try.runUnderlying4 rfl rfl) (by
      first
        | exact congrArg Value.bool (show decide (tradesB (a.getD j default).kind ≠ decide ((a.getD j default).kind ≤ 7)) = false from by unfold tradesB; rw [‹decide (1 ≤ (a.getD j default).kind) = true›, Bool.true_and]; simp)
        | exact congrArg Value.bool (show decide (tradesB (a.getD j default).kind ≠ false) = false from by unfold tradesB; rw [‹decide (1 ≤ (a.getD j default).kind) = false›, Bool.false_and]; simp)))) ?_
            refine p_end (by kernel_rfl) ?_
            refine c_cond_f rfl rfl ?_
            refine c_skip ?_
            refine c_region ?_
            refine t_q (q_add_i64 rfl rfl (by omega)) ?_
            refine t_q (q_mv (.int _ _) rfl) ?_
            refine t_nil ?_
            have hsn := cnt_snoc (l := a) (k := n) (j := j) (by omega)
            first
              | (rw [if_pos (by omega)] at hsn; exact ⟨k - 1, by omega, j + 1, x + 1, rfl, rfl, by omega, by omega, by omega, by omega, hS.nil⟩)
              | (rw [if_neg (by omega)] at hsn; exact ⟨k - 1, by omega, j + 1, x, rfl, rfl, by omega, by omega, by omega, by omega, hS.nil⟩)
      · intro hc8
        have hc8d := of_decide_eq_false hc8
        obtain rfl : j = a.length := by omega
        rw [List.take_length] at hx
        refine c_exit ?_
        refine ite_t rfl ?_
        refine c_seq ?_
        refine c_region ?_
        refine t_q (q_mv (.slice _ _ _) rfl) ?_
        refine t_q (q_mv (.slice _ _ _) rfl) ?_
        refine t_call Try.call104 (esame_calls (ha.st hS) (hb.st hS) hai hbi (by omega) (by omega)) rfl ?_
        rintro e w ⟨rfl, hT⟩
        refine ⟨_, rfl, ?_⟩
        replace hS := hS.after hT
        refine t_q (q_mv (.slice _ _ _) rfl) ?_
        refine t_q (q_mv (.slice _ _ _) rfl) ?_
        refine t_call Try.call101 (same_calls (ha.st hS) (hb.st hS) hai hbi (by omega) (by omega)) rfl ?_
        rintro e w ⟨rfl, hT⟩
        refine ⟨_, rfl, ?_⟩
        replace hS := hS.after hT
        refine t_q (q_cast (v' := .bool true) (q_eql_bool Try.runUnderlying4 rfl rfl) (by simp)) ?_
        refine t_q (q_mv (.bool _) rfl) ?_
        refine t_yes rfl rfl rfl ?_
        refine t_q (q_mv (.slice _ _ _) rfl) ?_
        refine t_yes rfl rfl rfl ?_
        refine t_q (q_mv (.slice _ _ _) rfl) ?_
        refine t_yes rfl rfl rfl ?_
        refine t_call Try.call104 (esame_self_calls (ha.st hS) (ha.st hS) hai (by omega)) rfl ?_
        rintro e w ⟨rfl, hT⟩
        refine ⟨_, rfl, ?_⟩
        replace hS := hS.after hT
        refine t_q (q_pick_t rfl rfl) ?_
        refine t_q (q_mv (.bool _) rfl) ?_
        refine t_yes rfl rfl rfl ?_
        refine t_q (q_mv (.slice _ _ _) rfl) ?_
        refine t_yes rfl rfl rfl ?_
        refine t_q (q_mv (.int _ _) rfl) ?_
        refine t_yes rfl rfl rfl ?_
        refine t_call Try.call105 (count_calls (ha.st hS) (by omega)) rfl ?_
        rintro e w ⟨rfl, hT⟩
        refine ⟨_, rfl, ?_⟩
        replace hS := hS.after hT
        refine t_yes rfl rfl rfl ?_
        refine t_q (q_mv (.int _ _) rfl) ?_
        refine t_yes rfl rfl rfl ?_
        refine t_q (q_cast (v' := .bool true) (q_eql rfl rfl) (by simp [hx])) ?_
        refine t_q (q_pick_t rfl rfl) ?_
        refine t_q (q_mv (.bool _) rfl) ?_
        refine t_yes rfl rfl rfl ?_
        refine t_call Try.call95 (elives_calls) rfl ?_
        rintro e w ⟨rfl, hT⟩
        refine ⟨_, rfl, ?_⟩
        replace hS := hS.after hT
        refine t_q (q_pick_t rfl rfl) ?_
        refine t_q (q_as (.bool _) rfl) ?_
        refine t_nil ?_
        refine c_ret ?_
        refine r_one rfl rfl ?_
        exact ⟨rfl, hS.nil⟩
end Go.Proofs.Ytcikoealneldkaa
