/- Rule sets: which may be: the program's parts. -/
import Derived.Test.YtcgagmojgjbfpaaDoorUa
import Derived.Test.YtcgagmojgjbfpaaDoorMk
namespace Go.Proofs.YtcgagmojgjbfpaaDoor
open Go Go.RowKit Go.Lib
variable {W : World}
attribute [local irreducible] blkA rowA
set_option maxRecDepth 100000 in
theorem within_calls {x a b : Int} : Calls Tryd.prog 49 #[.int .i64 x, .int .i64 a, .int .i64 b] W fun e w' => e = .returned (.bool (decide (a ≤ x ∧ x ≤ b))) ∧ St W w' [] := by
  have hS := St.init W
  refine calls_of_wpE (args := [_, _, _]) Tryd.func49 rfl rfl rfl ?_
  refine c_seq ?_
  refine c_region ?_
  refine t_q (q_assign) ?_
  refine t_nil ?_
  refine c_seq ?_
  refine c_region ?_
  refine t_q (q_mv (.int _ _) rfl) ?_
  refine t_q (q_mv (.int _ _) rfl) ?_
  refine t_q (q_geq rfl rfl) ?_
  refine t_q (q_mv (.bool _) rfl) ?_
  refine t_case 10 rfl ?_ ?_
  · intro hg2
    have hg2d := of_decide_eq_true hg2
    refine t_yes rfl rfl hg2 ?_
    refine t_q (q_mv (.int _ _) rfl) ?_
    refine t_yes rfl rfl hg2 ?_
    refine t_q (q_mv (.int _ _) rfl) ?_
    refine t_yes rfl rfl hg2 ?_
    refine t_q (q_leq rfl rfl) ?_
    refine t_q (q_pick_t rfl hg2) ?_
    refine t_q (q_as (.bool _) rfl) ?_
    refine t_nil ?_
    refine c_ret ?_
    refine r_one rfl rfl ?_
    have hN := hS.nil
    clear hS
    refine ⟨congrArg (fun b => Ending.returned (.bool b)) ?_, hN⟩
    first
      | (rw [decide_eq_decide]; omega)
      | (symm; apply decide_eq_false; omega)
      | (rw [Bool.eq_iff_iff, decide_eq_true_eq]; omega)
  · intro hg2
    have hg2d := of_decide_eq_false hg2
    refine t_no rfl rfl (by rw [hg2]; decide) ?_
    refine t_no rfl rfl (by rw [hg2]; decide) ?_
    refine t_no rfl rfl (by rw [hg2]; decide) ?_
    refine t_q (q_pick_f rfl hg2) ?_
    refine t_q (q_as (.bool _) rfl) ?_
    refine t_nil ?_
    refine c_ret ?_
    refine r_one rfl rfl ?_
    have hN := hS.nil
    clear hS
    refine ⟨congrArg (fun b => Ending.returned (.bool b)) ?_, hN⟩
    first
      | (rw [decide_eq_decide]; omega)
      | (symm; apply decide_eq_false; omega)
      | (rw [Bool.eq_iff_iff, decide_eq_true_eq]; omega)
set_option maxRecDepth 100000 in
theorem fine_calls {x : Int} : Calls Tryd.prog 97 #[.int .i64 x] W fun e w' => e = .returned (.bool (decide (0 ≤ x ∧ x ≤ 100000))) ∧ St W w' [] := by
  have hS := St.init W
  refine calls_of_wpE (args := [_]) Tryd.func97 rfl rfl rfl ?_
  refine c_seq ?_
  refine c_region ?_
  refine t_q (q_assign) ?_
  refine t_nil ?_
  refine c_seq ?_
  refine c_region ?_
  refine t_q (q_mv (.int _ _) rfl) ?_
  refine t_q (q_geq rfl rfl) ?_
  refine t_q (q_mv (.bool _) rfl) ?_
  refine t_case 5 rfl ?_ ?_
  · intro hg2
    have hg2d := of_decide_eq_true hg2
    refine t_yes rfl rfl hg2 ?_
    refine t_q (q_mv (.int _ _) rfl) ?_
    refine t_yes rfl rfl hg2 ?_
    refine t_q (q_leq rfl rfl) ?_
    refine t_q (q_pick_t rfl hg2) ?_
    refine t_q (q_as (.bool _) rfl) ?_
    refine t_nil ?_
    refine c_ret ?_
    refine r_one rfl rfl ?_
    have hN := hS.nil
    clear hS
    refine ⟨congrArg (fun b => Ending.returned (.bool b)) ?_, hN⟩
    first
      | (rw [decide_eq_decide]; omega)
      | (symm; apply decide_eq_false; omega)
      | (rw [Bool.eq_iff_iff, decide_eq_true_eq]; omega)
  · intro hg2
    have hg2d := of_decide_eq_false hg2
    refine t_no rfl rfl (by rw [hg2]; decide) ?_
    refine t_no rfl rfl (by rw [hg2]; decide) ?_
    refine t_q (q_pick_f rfl hg2) ?_
    refine t_q (q_as (.bool _) rfl) ?_
    refine t_nil ?_
    refine c_ret ?_
    refine r_one rfl rfl ?_
    have hN := hS.nil
    clear hS
    refine ⟨congrArg (fun b => Ending.returned (.bool b)) ?_, hN⟩
    first
      | (rw [decide_eq_decide]; omega)
      | (symm; apply decide_eq_false; omega)
      | (rw [Bool.eq_iff_iff, decide_eq_true_eq]; omega)
set_option maxHeartbeats 1000000 in
set_option maxRecDepth 100000 in
theorem ggood_calls {A : Option Addr} {c : Nat} {l : List Tk} (hl : RdTk W A l) (hi : ∀ e ∈ l, e.In) (hm : l.length ≤ 1000000) : Calls Tryd.prog 79 #[.slice A l.length c] W fun e w' => e = .returned (.bool (decide (GoodT l))) ∧ St W w' [] := by
  have hS := St.init W
  refine calls_of_wpE (args := [_]) Tryd.func79 rfl rfl rfl ?_
  refine c_seq ?_
  refine c_region ?_
  refine t_q (q_assign) ?_
  refine t_nil ?_
  refine c_seq ?_
  refine c_seq ?_
  refine c_draw ?_
  refine d_quiet 19 [0, 1, 2, 3, 4, 5, 6, 7, 8, 9, 10, 11, 12, 13, 14, 15, 16, 17, 18] [0, 1, 2, 3, 4, 5, 6, 7, 8, 9, 10, 11, 12, 13, 14, 15, 16, 17, 18] hS rfl (by kernel_rfl) (by kernel_rfl) (by kernel_rfl) (by kernel_rfl) (fun hap hsel w hS => ?_)
  refine p_q hap hsel 0 rfl rfl hS (fun w hS => q_mv (.slice _ _ _) rfl) ?_
  refine p_q hap hsel 1 rfl rfl hS (fun w hS => q_len_slice Tryd.runUnderlying39 rfl) ?_
  refine p_q hap hsel 2 rfl rfl hS (fun w hS => q_lss rfl rfl) ?_
  refine p_q hap hsel 3 rfl rfl hS (fun w hS => q_mv (.bool _) rfl) ?_
  refine p_case 8 rfl ?_ ?_
  · intro hg2
    have hg2d := of_decide_eq_true hg2
    refine p_no hap hsel 4 rfl rfl hS rfl rfl (by rw [hg2]; decide) ?_
    refine p_no hap hsel 5 rfl rfl hS rfl rfl (by rw [hg2]; decide) ?_
    refine p_no hap hsel 6 rfl rfl hS rfl rfl (by rw [hg2]; decide) ?_
    refine p_q hap hsel 7 rfl rfl hS (fun w hS => q_pick_t rfl hg2) ?_
    refine p_q hap hsel 8 rfl rfl hS (fun w hS => q_mv (.bool _) rfl) ?_
    refine p_no hap hsel 9 rfl rfl hS rfl rfl (by decide) ?_
    refine p_no hap hsel 10 rfl rfl hS rfl rfl (by decide) ?_
    refine p_no hap hsel 11 rfl rfl hS rfl rfl (by decide) ?_
    refine p_no hap hsel 12 rfl rfl hS rfl rfl (by decide) ?_
    refine p_no hap hsel 13 rfl rfl hS rfl rfl (by decide) ?_
    refine p_no hap hsel 14 rfl rfl hS rfl rfl (by decide) ?_
    refine p_no hap hsel 15 rfl rfl hS rfl rfl (by decide) ?_
    refine p_no hap hsel 16 rfl rfl hS rfl rfl (by decide) ?_
    refine p_no hap hsel 17 rfl rfl hS rfl rfl (by decide) ?_
    refine p_q hap hsel 18 rfl rfl hS (fun w hS => q_pick_t rfl rfl) ?_
    refine p_end (by kernel_rfl) ?_
    refine c_cond_t rfl rfl ?_
    have hD : ¬ GoodT l := by
      rintro ⟨h1, h2, h3, _⟩
      first
        | omega
        | exact tk_zero (e := l.getD 0 default) (by assumption) h3
    refine c_seq ?_
    refine c_region ?_
    refine t_q (q_assign) ?_
    refine t_nil ?_
    refine c_ret ?_
    refine r_one rfl rfl ?_
    have hN := hS.nil
    clear hS
    refine ⟨congrArg (fun b => Ending.returned (.bool b)) ?_, hN⟩
    first
      | exact (decide_eq_true hD).symm
      | exact (decide_eq_false hD).symm
  · intro hg2
    have hg2d := of_decide_eq_false hg2
    refine p_yes hap hsel 4 rfl rfl hS rfl rfl hg2 (fun w hS => q_mv (.slice _ _ _) rfl) ?_
    refine p_yes hap hsel 5 rfl rfl hS rfl rfl hg2 (fun w hS => q_len_slice Tryd.runUnderlying39 rfl) ?_
    refine p_yes hap hsel 6 rfl rfl hS rfl rfl hg2 (fun w hS => q_gtr rfl rfl) ?_
    refine p_q hap hsel 7 rfl rfl hS (fun w hS => q_pick_f rfl hg2) ?_
    refine p_q hap hsel 8 rfl rfl hS (fun w hS => q_mv (.bool _) rfl) ?_
    refine p_case 13 rfl ?_ ?_
    · intro hg4
      have hg4d := of_decide_eq_true hg4
      refine p_no hap hsel 9 rfl rfl hS rfl rfl (by rw [hg4]; decide) ?_
      refine p_no hap hsel 10 rfl rfl hS rfl rfl (by rw [hg4]; decide) ?_
      refine p_no hap hsel 11 rfl rfl hS rfl rfl (by rw [hg4]; decide) ?_
      refine p_no hap hsel 12 rfl rfl hS rfl rfl (by rw [hg4]; decide) ?_
      refine p_no hap hsel 13 rfl rfl hS rfl rfl (by rw [hg4]; decide) ?_
      refine p_no hap hsel 14 rfl rfl hS rfl rfl (by rw [hg4]; decide) ?_
      refine p_no hap hsel 15 rfl rfl hS rfl rfl (by rw [hg4]; decide) ?_
      refine p_no hap hsel 16 rfl rfl hS rfl rfl (by rw [hg4]; decide) ?_
      refine p_no hap hsel 17 rfl rfl hS rfl rfl (by rw [hg4]; decide) ?_
      refine p_q hap hsel 18 rfl rfl hS (fun w hS => q_pick_t rfl hg4) ?_
      refine p_end (by kernel_rfl) ?_
      refine c_cond_t rfl rfl ?_
      have hD : ¬ GoodT l := by
        rintro ⟨h1, h2, h3, _⟩
        first
          | omega
          | exact tk_zero (e := l.getD 0 default) (by assumption) h3
      refine c_seq ?_
      refine c_region ?_
      refine t_q (q_assign) ?_
      refine t_nil ?_
      refine c_ret ?_
      refine r_one rfl rfl ?_
      have hN := hS.nil
      clear hS
      refine ⟨congrArg (fun b => Ending.returned (.bool b)) ?_, hN⟩
      first
        | exact (decide_eq_true hD).symm
        | exact (decide_eq_false hD).symm
    · intro hg4
      have hg4d := of_decide_eq_false hg4
      refine p_yes hap hsel 9 rfl rfl hS rfl rfl hg4 (fun w hS => q_mv (.slice _ _ _) rfl) ?_
      refine p_index_yes hap hsel 10 rfl rfl hS rfl rfl hg4 Tryd.runUnderlying39 Tryd.sizeOf54 (fun w hS => hl.st hS) rfl rfl (by omega) (fun ad5 hl5 hx5 => ?_)
      refine p_yes hap hsel 11 rfl rfl hS rfl rfl hg4 (fun w hS => q_loadN Tryd.isAgg54 Tryd.sizeOf54 rfl hl5 (hx5 w hS)) ?_
      refine p_yes hap hsel 12 rfl rfl hS rfl rfl hg4 (fun w hS => q_mv (.slice _ _ _) rfl) ?_
      refine p_index_yes hap hsel 13 rfl rfl hS rfl rfl hg4 Tryd.runUnderlying39 Tryd.sizeOf54 (fun w hS => hl.st hS) rfl rfl (by omega) (fun ad6 hl6 hx6 => ?_)
      refine p_yes hap hsel 14 rfl rfl hS rfl rfl hg4 (fun w hS => q_fieldAddr 1 Tryd.runUnderlying54 rfl Tryd.sizeOf2 (by decide) rfl rfl) ?_
      refine p_yes hap hsel 15 rfl rfl hS rfl rfl hg4 (fun w hS => q_load1 Tryd.isAgg2 rfl ((hx6 w hS) 1 _ rfl)) ?_
      refine p_yes hap hsel 16 rfl rfl hS rfl rfl hg4 (fun w hS => q_build (qs := [(0, 1), (1, 1)]) [(.int _ _), (.int _ _)] Tryd.zeroValue54 Tryd.runUnderlying54 ⟨rfl, Tryd.sizeOf2, rfl, Tryd.sizeOf2, trivial⟩ rfl rfl) ?_
      refine p_yes hap hsel 17 rfl rfl hS rfl rfl hg4 (fun w hS => q_neq_tk (e := (l.getD 0 default)) (q := ⟨0, (l.getD 0 default).size⟩) rfl rfl (tk_in hi (by omega)) ⟨(show (-9223372036854775808 : Int) ≤ 0 ∧ (0 : Int) ≤ 9223372036854775807 from by decide), (tk_in hi (show 0 < l.length by omega)).2⟩) ?_
      refine p_q hap hsel 18 rfl rfl hS (fun w hS => q_pick_f rfl hg4) ?_
      refine p_end (by kernel_rfl) ?_
      refine c_cond rfl ?_ ?_
      · intro hc8
        have hD : ¬ GoodT l := by
          rintro ⟨h1, h2, h3, _⟩
          first
            | omega
            | exact tk_zero (e := l.getD 0 default) (by assumption) h3
        refine c_seq ?_
        refine c_region ?_
        refine t_q (q_assign) ?_
        refine t_nil ?_
        refine c_ret ?_
        refine r_one rfl rfl ?_
        have hN := hS.nil
        clear hS
        refine ⟨congrArg (fun b => Ending.returned (.bool b)) ?_, hN⟩
        first
          | exact (decide_eq_true hD).symm
          | exact (decide_eq_false hD).symm
      · intro hc8
        have h0 : (l.getD 0 default).frm = 0 := tk_zero' (e := l.getD 0 default) (by assumption)
        refine c_skip ?_
        refine c_seq ?_
        refine c_seq ?_
        refine c_region ?_
        refine t_q (q_mv (.slice _ _ _) rfl) ?_
        refine t_q (q_len_slice Tryd.runUnderlying39 rfl) ?_
        refine t_q (q_move) ?_
        refine t_nil ?_
        refine c_block ?_
        refine c_loop [2, 3, 4, 26, 27, 28, 29, 30, 31, 32, 33, 34, 35, 36, 37, 38, 39, 40, 41, 42, 43, 44, 45, 46, 47, 48, 49, 50, 51, 52, 53, 54, 55, 56, 57] (fun k σ w => ∃ j : Nat, σ 26 = .int .i64 (j : Int) ∧ j ≤ l.length ∧ l.length - j ≤ k ∧ (∀ i, i < j → TickP l i) ∧ St W w []) (l.length) rfl (⟨0, rfl, by omega, by omega, (fun i h => absurd h (by omega)), hS⟩) ?_
        skip
        rintro k σ w ⟨j, hj0, hj, hk, hall, hS⟩
        refine c_know 26 hj0 ?_
        clear hj0
        refine c_seq ?_
        refine c_region ?_
        refine t_q (q_lss rfl rfl) ?_
        refine t_nil ?_
        refine c_seq ?_
        refine c_cond rfl ?_ ?_
        · intro hc10
          have hc10d := of_decide_eq_true hc10
          refine c_skip ?_
          refine c_seq ?_
          refine c_block ?_
          refine c_seq ?_
          refine c_region ?_
          refine t_q (q_mv (.int _ _) rfl) ?_
          first | refine t_index_nat Tryd.runUnderlying39 Tryd.sizeOf54 (hl.st hS) rfl rfl (by omega) (fun ad11 hl11 hx11 => ?_) | refine t_index Tryd.runUnderlying39 Tryd.sizeOf54 (hl.st hS) rfl rfl (by omega) (fun ad11 hl11 hx11 => ?_)
          refine t_q (q_loadN Tryd.isAgg54 Tryd.sizeOf54 rfl hl11 hx11) ?_
          refine t_alloc Tryd.zeroValue54 rfl hS (fun g4 w hS => ?_)
          refine t_q (q_as (.int _ _) rfl) ?_
          refine t_store (v := (.agg _)) Tryd.sizeOf54 hS (by repeat first | exact .here _ _ | assumption | apply Pick.there) rfl rfl rfl rfl rfl rfl (fun w hS => ?_)
          replace hS := hS.recast (show blkA g4 54 _ = blkA g4 54 [.int .i64 (l.getD j default).frm, .int .i64 (l.getD j default).size] from rfl)
          refine t_nil ?_
          refine c_seq ?_
          refine c_draw ?_
          refine d_keep (blkA g4 54 [.int .i64 (l.getD j default).frm, .int .i64 (l.getD j default).size]) 26 [0, 1, 2, 3, 4, 5, 6, 7, 8, 9, 10, 11, 12, 13, 14, 15, 16, 17, 18, 19, 20, 21, 22, 23, 24, 25] [0, 1, 2, 3, 4, 5, 6, 7, 8, 9, 10, 11, 12, 13, 14, 15, 16, 17, 18, 19, 20, 21, 22, 23, 24, 25] hS rfl (by kernel_rfl) (by kernel_rfl) (by kernel_rfl) (by kernel_rfl) (fun hap hsel w hS => ?_)
          refine p_q hap hsel 0 rfl rfl ⟨_, hS.pick (by repeat first | exact .here _ _ | assumption | apply Pick.there)⟩ (fun w hI => q_fieldAddr 1 Tryd.runUnderlying54 rfl Tryd.sizeOf2 (by decide) rfl rfl) ?_
          refine p_q hap hsel 1 rfl rfl ⟨_, hS.pick (by repeat first | exact .here _ _ | assumption | apply Pick.there)⟩ (fun w hI => q_load1 Tryd.isAgg2 rfl (hI.choose_spec.cell (by repeat first | exact .here _ _ | assumption | apply Pick.there) rfl)) ?_
          refine p_q hap hsel 2 rfl rfl ⟨_, hS.pick (by repeat first | exact .here _ _ | assumption | apply Pick.there)⟩ (fun w hI => q_lss rfl rfl) ?_
          refine p_q hap hsel 3 rfl rfl ⟨_, hS.pick (by repeat first | exact .here _ _ | assumption | apply Pick.there)⟩ (fun w hI => q_mv (.bool _) rfl) ?_
          refine p_case 34 rfl ?_ ?_
          · intro hg13
            have hg13d := of_decide_eq_true hg13
            refine p_no hap hsel 4 rfl rfl ⟨_, hS.pick (by repeat first | exact .here _ _ | assumption | apply Pick.there)⟩ rfl rfl (by rw [hg13]; decide) ?_
            refine p_no hap hsel 5 rfl rfl ⟨_, hS.pick (by repeat first | exact .here _ _ | assumption | apply Pick.there)⟩ rfl rfl (by rw [hg13]; decide) ?_
            refine p_no hap hsel 6 rfl rfl ⟨_, hS.pick (by repeat first | exact .here _ _ | assumption | apply Pick.there)⟩ rfl rfl (by rw [hg13]; decide) ?_
            refine p_no hap hsel 7 rfl rfl ⟨_, hS.pick (by repeat first | exact .here _ _ | assumption | apply Pick.there)⟩ rfl rfl (by rw [hg13]; decide) ?_
            refine p_no hap hsel 8 rfl rfl ⟨_, hS.pick (by repeat first | exact .here _ _ | assumption | apply Pick.there)⟩ rfl rfl (by rw [hg13]; decide) ?_
            refine p_no hap hsel 9 rfl rfl ⟨_, hS.pick (by repeat first | exact .here _ _ | assumption | apply Pick.there)⟩ rfl rfl (by rw [hg13]; decide) ?_
            refine p_q hap hsel 10 rfl rfl ⟨_, hS.pick (by repeat first | exact .here _ _ | assumption | apply Pick.there)⟩ (fun w hI => q_pick_t rfl hg13) ?_
            refine p_q hap hsel 11 rfl rfl ⟨_, hS.pick (by repeat first | exact .here _ _ | assumption | apply Pick.there)⟩ (fun w hI => q_mv (.bool _) rfl) ?_
            refine p_no hap hsel 12 rfl rfl ⟨_, hS.pick (by repeat first | exact .here _ _ | assumption | apply Pick.there)⟩ rfl rfl (by decide) ?_
            refine p_no hap hsel 13 rfl rfl ⟨_, hS.pick (by repeat first | exact .here _ _ | assumption | apply Pick.there)⟩ rfl rfl (by decide) ?_
            refine p_no hap hsel 14 rfl rfl ⟨_, hS.pick (by repeat first | exact .here _ _ | assumption | apply Pick.there)⟩ rfl rfl (by decide) ?_
            refine p_nu hap hsel 15 rfl rfl ⟨_, hS.pick (by repeat first | exact .here _ _ | assumption | apply Pick.there)⟩ rfl rfl ?_
            refine p_nu hap hsel 16 rfl rfl ⟨_, hS.pick (by repeat first | exact .here _ _ | assumption | apply Pick.there)⟩ rfl rfl ?_
            refine p_nu hap hsel 17 rfl rfl ⟨_, hS.pick (by repeat first | exact .here _ _ | assumption | apply Pick.there)⟩ rfl rfl ?_
            refine p_nu hap hsel 18 rfl rfl ⟨_, hS.pick (by repeat first | exact .here _ _ | assumption | apply Pick.there)⟩ rfl rfl ?_
            refine p_nu hap hsel 19 rfl rfl ⟨_, hS.pick (by repeat first | exact .here _ _ | assumption | apply Pick.there)⟩ rfl rfl ?_
            refine p_nu hap hsel 20 rfl rfl ⟨_, hS.pick (by repeat first | exact .here _ _ | assumption | apply Pick.there)⟩ rfl rfl ?_
            refine p_nu hap hsel 21 rfl rfl ⟨_, hS.pick (by repeat first | exact .here _ _ | assumption | apply Pick.there)⟩ rfl rfl ?_
            refine p_nu hap hsel 22 rfl rfl ⟨_, hS.pick (by repeat first | exact .here _ _ | assumption | apply Pick.there)⟩ rfl rfl ?_
            refine p_nu hap hsel 23 rfl rfl ⟨_, hS.pick (by repeat first | exact .here _ _ | assumption | apply Pick.there)⟩ rfl rfl ?_
            refine p_no hap hsel 24 rfl rfl ⟨_, hS.pick (by repeat first | exact .here _ _ | assumption | apply Pick.there)⟩ rfl rfl (by decide) ?_
            refine p_q hap hsel 25 rfl rfl ⟨_, hS.pick (by repeat first | exact .here _ _ | assumption | apply Pick.there)⟩ (fun w hI => q_pick_t rfl rfl) ?_
            refine p_end (by kernel_rfl) ?_
            refine c_cond_t rfl rfl ?_
            have hD : ¬ GoodT l := by
              rintro ⟨_, _, _, h4⟩
              obtain ⟨q1, q2, q3, q4⟩ := h4 j (by omega)
              have ej : (((j : Nat) : Int) - 1).toNat = j - 1 := by omega
              have ee : (l.getD (((j : Nat) : Int) - 1).toNat default).frm = (l.getD (j - 1) default).frm := by rw [ej]
              first
                | omega
                | (have q4' := q4 (by omega); omega)
            refine c_seq ?_
            refine c_region ?_
            refine t_q (q_assign) ?_
            refine t_nil ?_
            refine c_ret ?_
            refine r_one rfl rfl ?_
            have hN := hS.nil
            clear hS
            refine ⟨congrArg (fun b => Ending.returned (.bool b)) ?_, hN⟩
            first
              | exact (decide_eq_true hD).symm
              | exact (decide_eq_false hD).symm
          · intro hg13
            have hg13d := of_decide_eq_false hg13
            refine p_yes hap hsel 4 rfl rfl ⟨_, hS.pick (by repeat first | exact .here _ _ | assumption | apply Pick.there)⟩ rfl rfl hg13 (fun w hI => q_fieldAddr 1 Tryd.runUnderlying54 rfl Tryd.sizeOf2 (by decide) rfl rfl) ?_
            refine p_yes hap hsel 5 rfl rfl ⟨_, hS.pick (by repeat first | exact .here _ _ | assumption | apply Pick.there)⟩ rfl rfl hg13 (fun w hI => q_load1 Tryd.isAgg2 rfl (hI.choose_spec.cell (by repeat first | exact .here _ _ | assumption | apply Pick.there) rfl)) ?_
            refine p_yes hap hsel 6 rfl rfl ⟨_, hS.pick (by repeat first | exact .here _ _ | assumption | apply Pick.there)⟩ rfl rfl hg13 (fun w hI => q_fieldAddr 0 Tryd.runUnderlying54 rfl Tryd.sizeOf2 (by decide) rfl rfl) ?_
            refine p_yes hap hsel 7 rfl rfl ⟨_, hS.pick (by repeat first | exact .here _ _ | assumption | apply Pick.there)⟩ rfl rfl hg13 (fun w hI => q_load1 Tryd.isAgg2 rfl (hI.choose_spec.cell (by repeat first | exact .here _ _ | assumption | apply Pick.there) rfl)) ?_
            refine p_yes hap hsel 8 rfl rfl ⟨_, hS.pick (by repeat first | exact .here _ _ | assumption | apply Pick.there)⟩ rfl rfl hg13 (fun w hI => q_max rfl rfl) ?_
            refine p_yes hap hsel 9 rfl rfl ⟨_, hS.pick (by repeat first | exact .here _ _ | assumption | apply Pick.there)⟩ rfl rfl hg13 (fun w hI => q_gtr rfl rfl) ?_
            refine p_q hap hsel 10 rfl rfl ⟨_, hS.pick (by repeat first | exact .here _ _ | assumption | apply Pick.there)⟩ (fun w hI => q_pick_f rfl hg13) ?_
            refine p_q hap hsel 11 rfl rfl ⟨_, hS.pick (by repeat first | exact .here _ _ | assumption | apply Pick.there)⟩ (fun w hI => q_mv (.bool _) rfl) ?_
            refine p_case 42 rfl ?_ ?_
            · intro hg15
              have hg15d := of_decide_eq_true hg15
              refine p_no hap hsel 12 rfl rfl ⟨_, hS.pick (by repeat first | exact .here _ _ | assumption | apply Pick.there)⟩ rfl rfl (by rw [hg15]; decide) ?_
              refine p_no hap hsel 13 rfl rfl ⟨_, hS.pick (by repeat first | exact .here _ _ | assumption | apply Pick.there)⟩ rfl rfl (by rw [hg15]; decide) ?_
              refine p_no hap hsel 14 rfl rfl ⟨_, hS.pick (by repeat first | exact .here _ _ | assumption | apply Pick.there)⟩ rfl rfl (by rw [hg15]; decide) ?_
              refine p_nu hap hsel 15 rfl rfl ⟨_, hS.pick (by repeat first | exact .here _ _ | assumption | apply Pick.there)⟩ rfl rfl ?_
              refine p_nu hap hsel 16 rfl rfl ⟨_, hS.pick (by repeat first | exact .here _ _ | assumption | apply Pick.there)⟩ rfl rfl ?_
              refine p_nu hap hsel 17 rfl rfl ⟨_, hS.pick (by repeat first | exact .here _ _ | assumption | apply Pick.there)⟩ rfl rfl ?_
              refine p_nu hap hsel 18 rfl rfl ⟨_, hS.pick (by repeat first | exact .here _ _ | assumption | apply Pick.there)⟩ rfl rfl ?_
              refine p_nu hap hsel 19 rfl rfl ⟨_, hS.pick (by repeat first | exact .here _ _ | assumption | apply Pick.there)⟩ rfl rfl ?_
              refine p_nu hap hsel 20 rfl rfl ⟨_, hS.pick (by repeat first | exact .here _ _ | assumption | apply Pick.there)⟩ rfl rfl ?_
              refine p_nu hap hsel 21 rfl rfl ⟨_, hS.pick (by repeat first | exact .here _ _ | assumption | apply Pick.there)⟩ rfl rfl ?_
              refine p_nu hap hsel 22 rfl rfl ⟨_, hS.pick (by repeat first | exact .here _ _ | assumption | apply Pick.there)⟩ rfl rfl ?_
              refine p_nu hap hsel 23 rfl rfl ⟨_, hS.pick (by repeat first | exact .here _ _ | assumption | apply Pick.there)⟩ rfl rfl ?_
              refine p_no hap hsel 24 rfl rfl ⟨_, hS.pick (by repeat first | exact .here _ _ | assumption | apply Pick.there)⟩ rfl rfl (by rw [hg15]; decide) ?_
              refine p_q hap hsel 25 rfl rfl ⟨_, hS.pick (by repeat first | exact .here _ _ | assumption | apply Pick.there)⟩ (fun w hI => q_pick_t rfl hg15) ?_
              refine p_end (by kernel_rfl) ?_
              refine c_cond_t rfl rfl ?_
              have hD : ¬ GoodT l := by
                rintro ⟨_, _, _, h4⟩
                obtain ⟨q1, q2, q3, q4⟩ := h4 j (by omega)
                have ej : (((j : Nat) : Int) - 1).toNat = j - 1 := by omega
                have ee : (l.getD (((j : Nat) : Int) - 1).toNat default).frm = (l.getD (j - 1) default).frm := by rw [ej]
                first
                  | omega
                  | (have q4' := q4 (by omega); omega)
              refine c_seq ?_
              refine c_region ?_
              refine t_q (q_assign) ?_
              refine t_nil ?_
              refine c_ret ?_
              refine r_one rfl rfl ?_
              have hN := hS.nil
              clear hS
              refine ⟨congrArg (fun b => Ending.returned (.bool b)) ?_, hN⟩
              first
                | exact (decide_eq_true hD).symm
                | exact (decide_eq_false hD).symm
            · intro hg15
              have hg15d := of_decide_eq_false hg15
              refine p_yes hap hsel 12 rfl rfl ⟨_, hS.pick (by repeat first | exact .here _ _ | assumption | apply Pick.there)⟩ rfl rfl hg15 (fun w hI => q_mv (.int _ _) rfl) ?_
              refine p_yes hap hsel 13 rfl rfl ⟨_, hS.pick (by repeat first | exact .here _ _ | assumption | apply Pick.there)⟩ rfl rfl hg15 (fun w hI => q_gtr rfl rfl) ?_
              refine p_yes hap hsel 14 rfl rfl ⟨_, hS.pick (by repeat first | exact .here _ _ | assumption | apply Pick.there)⟩ rfl rfl hg15 (fun w hI => q_mv (.bool _) rfl) ?_
              refine p_case 45 rfl ?_ ?_
              · intro hg17
                have hg17d := of_decide_eq_true hg17
                refine p_yes hap hsel 15 rfl rfl ⟨_, hS.pick (by repeat first | exact .here _ _ | assumption | apply Pick.there)⟩ rfl rfl hg17 (fun w hI => q_fieldAddr 0 Tryd.runUnderlying54 rfl Tryd.sizeOf2 (by decide) rfl rfl) ?_
                refine p_yes hap hsel 16 rfl rfl ⟨_, hS.pick (by repeat first | exact .here _ _ | assumption | apply Pick.there)⟩ rfl rfl hg17 (fun w hI => q_load1 Tryd.isAgg2 rfl (hI.choose_spec.cell (by repeat first | exact .here _ _ | assumption | apply Pick.there) rfl)) ?_
                refine p_yes hap hsel 17 rfl rfl ⟨_, hS.pick (by repeat first | exact .here _ _ | assumption | apply Pick.there)⟩ rfl rfl hg17 (fun w hI => q_mv (.slice _ _ _) rfl) ?_
                refine p_yes hap hsel 18 rfl rfl ⟨_, hS.pick (by repeat first | exact .here _ _ | assumption | apply Pick.there)⟩ rfl rfl hg17 (fun w hI => q_mv (.int _ _) rfl) ?_
                refine p_yes hap hsel 19 rfl rfl ⟨_, hS.pick (by repeat first | exact .here _ _ | assumption | apply Pick.there)⟩ rfl rfl hg17 (fun w hI => q_sub_i64 rfl rfl (by omega)) ?_
                refine p_index_yes hap hsel 20 rfl rfl ⟨_, hS.pick (by repeat first | exact .here _ _ | assumption | apply Pick.there)⟩ rfl rfl hg17 Tryd.runUnderlying39 Tryd.sizeOf54 (fun w hI => hl.st hI.choose_spec) rfl rfl (by omega) (fun ad18 hl18 hx18 => ?_)
                refine p_yes hap hsel 21 rfl rfl ⟨_, hS.pick (by repeat first | exact .here _ _ | assumption | apply Pick.there)⟩ rfl rfl hg17 (fun w hI => q_fieldAddr 0 Tryd.runUnderlying54 rfl Tryd.sizeOf2 (by decide) rfl rfl) ?_
                refine p_yes hap hsel 22 rfl rfl ⟨_, hS.pick (by repeat first | exact .here _ _ | assumption | apply Pick.there)⟩ rfl rfl hg17 (fun w hI => q_load1 Tryd.isAgg2 rfl ((hx18 w hI) 0 _ rfl)) ?_
                refine p_yes hap hsel 23 rfl rfl ⟨_, hS.pick (by repeat first | exact .here _ _ | assumption | apply Pick.there)⟩ rfl rfl hg17 (fun w hI => q_leq rfl rfl) ?_
                refine p_yes hap hsel 24 rfl rfl ⟨_, hS.pick (by repeat first | exact .here _ _ | assumption | apply Pick.there)⟩ rfl rfl hg15 (fun w hI => q_pick_t rfl hg17) ?_
                refine p_q hap hsel 25 rfl rfl ⟨_, hS.pick (by repeat first | exact .here _ _ | assumption | apply Pick.there)⟩ (fun w hI => q_pick_f rfl hg15) ?_
                refine p_end (by kernel_rfl) ?_
                refine c_cond rfl ?_ ?_
                · intro hc20
                  have hc20d := of_decide_eq_true hc20
                  have hD : ¬ GoodT l := by
                    rintro ⟨_, _, _, h4⟩
                    obtain ⟨q1, q2, q3, q4⟩ := h4 j (by omega)
                    have ej : (((j : Nat) : Int) - 1).toNat = j - 1 := by omega
                    have ee : (l.getD (((j : Nat) : Int) - 1).toNat default).frm = (l.getD (j - 1) default).frm := by rw [ej]
                    first
                      | omega
                      | (have q4' := q4 (by omega); omega)
                  refine c_seq ?_
                  refine c_region ?_
                  refine t_q (q_assign) ?_
                  refine t_nil ?_
                  refine c_ret ?_
                  refine r_one rfl rfl ?_
                  have hN := hS.nil
                  clear hS
                  refine ⟨congrArg (fun b => Ending.returned (.bool b)) ?_, hN⟩
                  first
                    | exact (decide_eq_true hD).symm
                    | exact (decide_eq_false hD).symm
                · intro hc20
                  have hc20d := of_decide_eq_false hc20
                  refine c_skip ?_
                  refine c_region ?_
                  refine t_q (q_add_i64 rfl rfl (by omega)) ?_
                  refine t_q (q_mv (.int _ _) rfl) ?_
                  refine t_nil ?_
                  exact ⟨k - 1, by omega, j + 1, rfl, by omega, by omega, (fun i hi => by
                    rcases Nat.lt_or_ge i j with h | h
                    · exact hall i h
                    · obtain rfl : i = j := by omega
                      have ej : (((i : Nat) : Int) - 1).toNat = i - 1 := by omega
                      have ee : (l.getD (((i : Nat) : Int) - 1).toNat default).frm = (l.getD (i - 1) default).frm := by rw [ej]
                      exact ⟨by omega, by omega, by omega, fun h => by omega⟩), hS.nil⟩
              · intro hg17
                have hg17d := of_decide_eq_false hg17
                refine p_no hap hsel 15 rfl rfl ⟨_, hS.pick (by repeat first | exact .here _ _ | assumption | apply Pick.there)⟩ rfl rfl (by rw [hg17]; decide) ?_
                refine p_no hap hsel 16 rfl rfl ⟨_, hS.pick (by repeat first | exact .here _ _ | assumption | apply Pick.there)⟩ rfl rfl (by rw [hg17]; decide) ?_
                refine p_no hap hsel 17 rfl rfl ⟨_, hS.pick (by repeat first | exact .here _ _ | assumption | apply Pick.there)⟩ rfl rfl (by rw [hg17]; decide) ?_
                refine p_no hap hsel 18 rfl rfl ⟨_, hS.pick (by repeat first | exact .here _ _ | assumption | apply Pick.there)⟩ rfl rfl (by rw [hg17]; decide) ?_
                refine p_no hap hsel 19 rfl rfl ⟨_, hS.pick (by repeat first | exact .here _ _ | assumption | apply Pick.there)⟩ rfl rfl (by rw [hg17]; decide) ?_
                refine p_no hap hsel 20 rfl rfl ⟨_, hS.pick (by repeat first | exact .here _ _ | assumption | apply Pick.there)⟩ rfl rfl (by rw [hg17]; decide) ?_
                refine p_no hap hsel 21 rfl rfl ⟨_, hS.pick (by repeat first | exact .here _ _ | assumption | apply Pick.there)⟩ rfl rfl (by rw [hg17]; decide) ?_
                refine p_no hap hsel 22 rfl rfl ⟨_, hS.pick (by repeat first | exact .here _ _ | assumption | apply Pick.there)⟩ rfl rfl (by rw [hg17]; decide) ?_
                refine p_no hap hsel 23 rfl rfl ⟨_, hS.pick (by repeat first | exact .here _ _ | assumption | apply Pick.there)⟩ rfl rfl (by rw [hg17]; decide) ?_
                refine p_yes hap hsel 24 rfl rfl ⟨_, hS.pick (by repeat first | exact .here _ _ | assumption | apply Pick.there)⟩ rfl rfl hg15 (fun w hI => q_pick_f rfl hg17) ?_
                refine p_q hap hsel 25 rfl rfl ⟨_, hS.pick (by repeat first | exact .here _ _ | assumption | apply Pick.there)⟩ (fun w hI => q_pick_f rfl hg15) ?_
                refine p_end (by kernel_rfl) ?_
                refine c_cond_f rfl rfl ?_
                refine c_skip ?_
                refine c_region ?_
                refine t_q (q_add_i64 rfl rfl (by omega)) ?_
                refine t_q (q_mv (.int _ _) rfl) ?_
                refine t_nil ?_
                exact ⟨k - 1, by omega, j + 1, rfl, by omega, by omega, (fun i hi => by
                  rcases Nat.lt_or_ge i j with h | h
                  · exact hall i h
                  · obtain rfl : i = j := by omega
                    have ej : (((i : Nat) : Int) - 1).toNat = i - 1 := by omega
                    have ee : (l.getD (((i : Nat) : Int) - 1).toNat default).frm = (l.getD (i - 1) default).frm := by rw [ej]
                    exact ⟨by omega, by omega, by omega, fun h => by omega⟩), hS.nil⟩
        · intro hc10
          have hc10d := of_decide_eq_false hc10
          obtain rfl : j = l.length := by omega
          have hD : GoodT l := ⟨by omega, by omega, h0, hall⟩
          refine c_exit ?_
          refine ite_t rfl ?_
          refine c_seq ?_
          refine c_region ?_
          refine t_q (q_assign) ?_
          refine t_nil ?_
          refine c_ret ?_
          refine r_one rfl rfl ?_
          have hN := hS.nil
          clear hS
          refine ⟨congrArg (fun b => Ending.returned (.bool b)) ?_, hN⟩
          first
            | exact (decide_eq_true hD).symm
            | exact (decide_eq_false hD).symm
set_option maxHeartbeats 2000000 in
set_option maxRecDepth 100000 in
theorem fgood_calls {A : Option Addr} {c : Nat} {l : List Tr} (hl : RdTr W A l) (hi : ∀ e ∈ l, e.In) (hm : l.length ≤ 1000000) : Calls Tryd.prog 80 #[.slice A l.length c] W fun e w' => e = .returned (.bool (decide (GoodF l))) ∧ St W w' [] := by
  have hS := St.init W
  refine calls_of_wpE (args := [_]) Tryd.func80 rfl rfl rfl ?_
  refine c_seq ?_
  refine c_region ?_
  refine t_q (q_assign) ?_
  refine t_nil ?_
  refine c_seq ?_
  refine c_seq ?_
  refine c_draw ?_
  refine d_quiet 23 [0, 1, 2, 3, 4, 5, 6, 7, 8, 9, 10, 11, 12, 13, 14, 15, 16, 17, 18, 19, 20, 21, 22] [0, 1, 2, 3, 4, 5, 6, 7, 8, 9, 10, 11, 12, 13, 14, 15, 16, 17, 18, 19, 20, 21, 22] hS rfl (by kernel_rfl) (by kernel_rfl) (by kernel_rfl) (by kernel_rfl) (fun hap hsel w hS => ?_)
  refine p_q hap hsel 0 rfl rfl hS (fun w hS => q_mv (.slice _ _ _) rfl) ?_
  refine p_q hap hsel 1 rfl rfl hS (fun w hS => q_len_slice Tryd.runUnderlying40 rfl) ?_
  refine p_q hap hsel 2 rfl rfl hS (fun w hS => q_lss rfl rfl) ?_
  refine p_q hap hsel 3 rfl rfl hS (fun w hS => q_mv (.bool _) rfl) ?_
  refine p_case 8 rfl ?_ ?_
  · intro hg2
    have hg2d := of_decide_eq_true hg2
    refine p_no hap hsel 4 rfl rfl hS rfl rfl (by rw [hg2]; decide) ?_
    refine p_no hap hsel 5 rfl rfl hS rfl rfl (by rw [hg2]; decide) ?_
    refine p_no hap hsel 6 rfl rfl hS rfl rfl (by rw [hg2]; decide) ?_
    refine p_q hap hsel 7 rfl rfl hS (fun w hS => q_pick_t rfl hg2) ?_
    refine p_q hap hsel 8 rfl rfl hS (fun w hS => q_mv (.bool _) rfl) ?_
    refine p_no hap hsel 9 rfl rfl hS rfl rfl (by decide) ?_
    refine p_no hap hsel 10 rfl rfl hS rfl rfl (by decide) ?_
    refine p_no hap hsel 11 rfl rfl hS rfl rfl (by decide) ?_
    refine p_no hap hsel 12 rfl rfl hS rfl rfl (by decide) ?_
    refine p_no hap hsel 13 rfl rfl hS rfl rfl (by decide) ?_
    refine p_no hap hsel 14 rfl rfl hS rfl rfl (by decide) ?_
    refine p_no hap hsel 15 rfl rfl hS rfl rfl (by decide) ?_
    refine p_no hap hsel 16 rfl rfl hS rfl rfl (by decide) ?_
    refine p_no hap hsel 17 rfl rfl hS rfl rfl (by decide) ?_
    refine p_no hap hsel 18 rfl rfl hS rfl rfl (by decide) ?_
    refine p_no hap hsel 19 rfl rfl hS rfl rfl (by decide) ?_
    refine p_no hap hsel 20 rfl rfl hS rfl rfl (by decide) ?_
    refine p_no hap hsel 21 rfl rfl hS rfl rfl (by decide) ?_
    refine p_q hap hsel 22 rfl rfl hS (fun w hS => q_pick_t rfl rfl) ?_
    refine p_end (by kernel_rfl) ?_
    refine c_cond_t rfl rfl ?_
    have hD : ¬ GoodF l := by
      rintro ⟨h1, h2, h3, _⟩
      first
        | omega
        | exact tr_zero (e := l.getD 0 default) (by assumption) h3
    refine c_seq ?_
    refine c_region ?_
    refine t_q (q_assign) ?_
    refine t_nil ?_
    refine c_ret ?_
    refine r_one rfl rfl ?_
    have hN := hS.nil
    clear hS
    refine ⟨congrArg (fun b => Ending.returned (.bool b)) ?_, hN⟩
    first
      | exact (decide_eq_true hD).symm
      | exact (decide_eq_false hD).symm
  · intro hg2
    have hg2d := of_decide_eq_false hg2
    refine p_yes hap hsel 4 rfl rfl hS rfl rfl hg2 (fun w hS => q_mv (.slice _ _ _) rfl) ?_
    refine p_yes hap hsel 5 rfl rfl hS rfl rfl hg2 (fun w hS => q_len_slice Tryd.runUnderlying40 rfl) ?_
    refine p_yes hap hsel 6 rfl rfl hS rfl rfl hg2 (fun w hS => q_gtr rfl rfl) ?_
    refine p_q hap hsel 7 rfl rfl hS (fun w hS => q_pick_f rfl hg2) ?_
    refine p_q hap hsel 8 rfl rfl hS (fun w hS => q_mv (.bool _) rfl) ?_
    refine p_case 13 rfl ?_ ?_
    · intro hg4
      have hg4d := of_decide_eq_true hg4
      refine p_no hap hsel 9 rfl rfl hS rfl rfl (by rw [hg4]; decide) ?_
      refine p_no hap hsel 10 rfl rfl hS rfl rfl (by rw [hg4]; decide) ?_
      refine p_no hap hsel 11 rfl rfl hS rfl rfl (by rw [hg4]; decide) ?_
      refine p_no hap hsel 12 rfl rfl hS rfl rfl (by rw [hg4]; decide) ?_
      refine p_no hap hsel 13 rfl rfl hS rfl rfl (by rw [hg4]; decide) ?_
      refine p_no hap hsel 14 rfl rfl hS rfl rfl (by rw [hg4]; decide) ?_
      refine p_no hap hsel 15 rfl rfl hS rfl rfl (by rw [hg4]; decide) ?_
      refine p_no hap hsel 16 rfl rfl hS rfl rfl (by rw [hg4]; decide) ?_
      refine p_no hap hsel 17 rfl rfl hS rfl rfl (by rw [hg4]; decide) ?_
      refine p_no hap hsel 18 rfl rfl hS rfl rfl (by rw [hg4]; decide) ?_
      refine p_no hap hsel 19 rfl rfl hS rfl rfl (by rw [hg4]; decide) ?_
      refine p_no hap hsel 20 rfl rfl hS rfl rfl (by rw [hg4]; decide) ?_
      refine p_no hap hsel 21 rfl rfl hS rfl rfl (by rw [hg4]; decide) ?_
      refine p_q hap hsel 22 rfl rfl hS (fun w hS => q_pick_t rfl hg4) ?_
      refine p_end (by kernel_rfl) ?_
      refine c_cond_t rfl rfl ?_
      have hD : ¬ GoodF l := by
        rintro ⟨h1, h2, h3, _⟩
        first
          | omega
          | exact tr_zero (e := l.getD 0 default) (by assumption) h3
      refine c_seq ?_
      refine c_region ?_
      refine t_q (q_assign) ?_
      refine t_nil ?_
      refine c_ret ?_
      refine r_one rfl rfl ?_
      have hN := hS.nil
      clear hS
      refine ⟨congrArg (fun b => Ending.returned (.bool b)) ?_, hN⟩
      first
        | exact (decide_eq_true hD).symm
        | exact (decide_eq_false hD).symm
    · intro hg4
      have hg4d := of_decide_eq_false hg4
      refine p_yes hap hsel 9 rfl rfl hS rfl rfl hg4 (fun w hS => q_mv (.slice _ _ _) rfl) ?_
      refine p_index_yes hap hsel 10 rfl rfl hS rfl rfl hg4 Tryd.runUnderlying40 Tryd.sizeOf56 (fun w hS => hl.st hS) rfl rfl (by omega) (fun ad5 hl5 hx5 => ?_)
      refine p_yes hap hsel 11 rfl rfl hS rfl rfl hg4 (fun w hS => q_loadN Tryd.isAgg56 Tryd.sizeOf56 rfl hl5 (hx5 w hS)) ?_
      refine p_yes hap hsel 12 rfl rfl hS rfl rfl hg4 (fun w hS => q_mv (.slice _ _ _) rfl) ?_
      refine p_index_yes hap hsel 13 rfl rfl hS rfl rfl hg4 Tryd.runUnderlying40 Tryd.sizeOf56 (fun w hS => hl.st hS) rfl rfl (by omega) (fun ad6 hl6 hx6 => ?_)
      refine p_yes hap hsel 14 rfl rfl hS rfl rfl hg4 (fun w hS => q_fieldAddr 1 Tryd.runUnderlying56 rfl Tryd.sizeOf2 (by decide) rfl rfl) ?_
      refine p_yes hap hsel 15 rfl rfl hS rfl rfl hg4 (fun w hS => q_load1 Tryd.isAgg2 rfl ((hx6 w hS) 1 _ rfl)) ?_
      refine p_yes hap hsel 16 rfl rfl hS rfl rfl hg4 (fun w hS => q_mv (.slice _ _ _) rfl) ?_
      refine p_index_yes hap hsel 17 rfl rfl hS rfl rfl hg4 Tryd.runUnderlying40 Tryd.sizeOf56 (fun w hS => hl.st hS) rfl rfl (by omega) (fun ad7 hl7 hx7 => ?_)
      refine p_yes hap hsel 18 rfl rfl hS rfl rfl hg4 (fun w hS => q_fieldAddr 2 Tryd.runUnderlying56 rfl Tryd.sizeOf2 (by decide) rfl rfl) ?_
      refine p_yes hap hsel 19 rfl rfl hS rfl rfl hg4 (fun w hS => q_load1 Tryd.isAgg2 rfl ((hx7 w hS) 2 _ rfl)) ?_
      refine p_yes hap hsel 20 rfl rfl hS rfl rfl hg4 (fun w hS => q_build (qs := [(0, 1), (1, 1), (2, 1)]) [(.int _ _), (.int _ _), (.int _ _)] Tryd.zeroValue56 Tryd.runUnderlying56 ⟨rfl, Tryd.sizeOf2, rfl, Tryd.sizeOf2, rfl, Tryd.sizeOf2, trivial⟩ rfl rfl) ?_
      refine p_yes hap hsel 21 rfl rfl hS rfl rfl hg4 (fun w hS => q_neq_tr (e := (l.getD 0 default)) (q := ⟨0, (l.getD 0 default).maker, (l.getD 0 default).taker⟩) rfl rfl (tr_in hi (by omega)) ⟨(show (-9223372036854775808 : Int) ≤ 0 ∧ (0 : Int) ≤ 9223372036854775807 from by decide), (tr_in hi (show 0 < l.length by omega)).2⟩) ?_
      refine p_q hap hsel 22 rfl rfl hS (fun w hS => q_pick_f rfl hg4) ?_
      refine p_end (by kernel_rfl) ?_
      refine c_cond rfl ?_ ?_
      · intro hc9
        have hD : ¬ GoodF l := by
          rintro ⟨h1, h2, h3, _⟩
          first
            | omega
            | exact tr_zero (e := l.getD 0 default) (by assumption) h3
        refine c_seq ?_
        refine c_region ?_
        refine t_q (q_assign) ?_
        refine t_nil ?_
        refine c_ret ?_
        refine r_one rfl rfl ?_
        have hN := hS.nil
        clear hS
        refine ⟨congrArg (fun b => Ending.returned (.bool b)) ?_, hN⟩
        first
          | exact (decide_eq_true hD).symm
          | exact (decide_eq_false hD).symm
      · intro hc9
        have h0 : (l.getD 0 default).frm = 0 := tr_zero' (e := l.getD 0 default) (by assumption)
        refine c_skip ?_
        refine c_seq ?_
        refine c_seq ?_
        refine c_region ?_
        refine t_q (q_mv (.slice _ _ _) rfl) ?_
        refine t_q (q_len_slice Tryd.runUnderlying40 rfl) ?_
        refine t_q (q_move) ?_
        refine t_nil ?_
        refine c_block ?_
        refine c_loop [2, 3, 4, 30, 31, 32, 33, 34, 35, 36, 37, 38, 39, 40, 41, 42, 43, 44, 45, 46, 47, 48, 49, 50, 51, 52, 53, 54, 55, 56, 57, 58, 59, 60, 61, 62, 63, 64, 65, 66, 67] (fun k σ w => ∃ j : Nat, σ 30 = .int .i64 (j : Int) ∧ j ≤ l.length ∧ l.length - j ≤ k ∧ (∀ i, i < j → TierP l i) ∧ St W w []) (l.length) rfl (⟨0, rfl, by omega, by omega, (fun i h => absurd h (by omega)), hS⟩) ?_
        skip
        rintro k σ w ⟨j, hj0, hj, hk, hall, hS⟩
        refine c_know 30 hj0 ?_
        clear hj0
        refine c_seq ?_
        refine c_region ?_
        refine t_q (q_lss rfl rfl) ?_
        refine t_nil ?_
        refine c_seq ?_
        refine c_cond rfl ?_ ?_
        · intro hc11
          have hc11d := of_decide_eq_true hc11
          refine c_skip ?_
          refine c_seq ?_
          refine c_block ?_
          refine c_seq ?_
          refine c_region ?_
          refine t_q (q_mv (.int _ _) rfl) ?_
          refine t_q (q_as (.int _ _) rfl) ?_
          refine t_nil ?_
          refine c_seq ?_
          refine c_region ?_
          refine t_q (q_mv (.slice _ _ _) rfl) ?_
          refine t_q (q_mv (.int _ _) rfl) ?_
          first | refine t_index_nat Tryd.runUnderlying40 Tryd.sizeOf56 (hl.st hS) rfl rfl (by omega) (fun ad12 hl12 hx12 => ?_) | refine t_index Tryd.runUnderlying40 Tryd.sizeOf56 (hl.st hS) rfl rfl (by omega) (fun ad12 hl12 hx12 => ?_)
          refine t_q (q_loadN Tryd.isAgg56 Tryd.sizeOf56 rfl hl12 hx12) ?_
          refine t_alloc Tryd.zeroValue56 rfl hS (fun g4 w hS => ?_)
          refine t_store (v := (.agg _)) Tryd.sizeOf56 hS (by repeat first | exact .here _ _ | assumption | apply Pick.there) rfl rfl rfl rfl rfl rfl (fun w hS => ?_)
          replace hS := hS.recast (show blkA g4 56 _ = blkA g4 56 [.int .i64 (l.getD j default).frm, .int .i64 (l.getD j default).maker, .int .i64 (l.getD j default).taker] from rfl)
          refine t_nil ?_
          refine c_seq ?_
          refine c_draw ?_
          refine d_keep (blkA g4 56 [.int .i64 (l.getD j default).frm, .int .i64 (l.getD j default).maker, .int .i64 (l.getD j default).taker]) 30 [0, 1, 2, 3, 4, 5, 6, 7, 8, 9, 10, 11, 12, 13, 14, 15, 16, 17, 18, 19, 20, 21, 22, 23, 24, 25, 26, 27, 28, 29] [0, 1, 2, 3, 4, 5, 6, 7, 8, 9, 10, 11, 12, 13, 14, 15, 16, 17, 18, 19, 20, 21, 22, 23, 24, 25, 26, 27, 28, 29] hS rfl (by kernel_rfl) (by kernel_rfl) (by kernel_rfl) (by kernel_rfl) (fun hap hsel w hS => ?_)
          refine p_q hap hsel 0 rfl rfl ⟨_, hS.pick (by repeat first | exact .here _ _ | assumption | apply Pick.there)⟩ (fun w hI => q_fieldAddr 0 Tryd.runUnderlying56 rfl Tryd.sizeOf2 (by decide) rfl rfl) ?_
          refine p_q hap hsel 1 rfl rfl ⟨_, hS.pick (by repeat first | exact .here _ _ | assumption | apply Pick.there)⟩ (fun w hI => q_load1 Tryd.isAgg2 rfl (hI.choose_spec.cell (by repeat first | exact .here _ _ | assumption | apply Pick.there) rfl)) ?_
          refine p_q hap hsel 2 rfl rfl ⟨_, hS.pick (by repeat first | exact .here _ _ | assumption | apply Pick.there)⟩ (fun w hI => q_gtr rfl rfl) ?_
          refine p_q hap hsel 3 rfl rfl ⟨_, hS.pick (by repeat first | exact .here _ _ | assumption | apply Pick.there)⟩ (fun w hI => q_mv (.bool _) rfl) ?_
          refine p_case 40 rfl ?_ ?_
          · intro hg14
            have hg14d := of_decide_eq_true hg14
            refine p_no hap hsel 4 rfl rfl ⟨_, hS.pick (by repeat first | exact .here _ _ | assumption | apply Pick.there)⟩ rfl rfl (by rw [hg14]; decide) ?_
            refine p_no hap hsel 5 rfl rfl ⟨_, hS.pick (by repeat first | exact .here _ _ | assumption | apply Pick.there)⟩ rfl rfl (by rw [hg14]; decide) ?_
            refine p_no hap hsel 6 rfl rfl ⟨_, hS.pick (by repeat first | exact .here _ _ | assumption | apply Pick.there)⟩ rfl rfl (by rw [hg14]; decide) ?_
            refine p_no hap hsel 7 rfl rfl ⟨_, hS.pick (by repeat first | exact .here _ _ | assumption | apply Pick.there)⟩ rfl rfl (by rw [hg14]; decide) ?_
            refine p_q hap hsel 8 rfl rfl ⟨_, hS.pick (by repeat first | exact .here _ _ | assumption | apply Pick.there)⟩ (fun w hI => q_pick_t rfl hg14) ?_
            refine p_q hap hsel 9 rfl rfl ⟨_, hS.pick (by repeat first | exact .here _ _ | assumption | apply Pick.there)⟩ (fun w hI => q_mv (.bool _) rfl) ?_
            refine p_no hap hsel 10 rfl rfl ⟨_, hS.pick (by repeat first | exact .here _ _ | assumption | apply Pick.there)⟩ rfl rfl (by decide) ?_
            refine p_no hap hsel 11 rfl rfl ⟨_, hS.pick (by repeat first | exact .here _ _ | assumption | apply Pick.there)⟩ rfl rfl (by decide) ?_
            refine p_no hap hsel 12 rfl rfl ⟨_, hS.pick (by repeat first | exact .here _ _ | assumption | apply Pick.there)⟩ rfl rfl (by decide) ?_
            refine p_no hap hsel 13 rfl rfl ⟨_, hS.pick (by repeat first | exact .here _ _ | assumption | apply Pick.there)⟩ rfl rfl (by decide) ?_
            refine p_q hap hsel 14 rfl rfl ⟨_, hS.pick (by repeat first | exact .here _ _ | assumption | apply Pick.there)⟩ (fun w hI => q_pick_t rfl rfl) ?_
            refine p_q hap hsel 15 rfl rfl ⟨_, hS.pick (by repeat first | exact .here _ _ | assumption | apply Pick.there)⟩ (fun w hI => q_mv (.bool _) rfl) ?_
            refine p_no hap hsel 16 rfl rfl ⟨_, hS.pick (by repeat first | exact .here _ _ | assumption | apply Pick.there)⟩ rfl rfl (by decide) ?_
            refine p_no hap hsel 17 rfl rfl ⟨_, hS.pick (by repeat first | exact .here _ _ | assumption | apply Pick.there)⟩ rfl rfl (by decide) ?_
            refine p_no hap hsel 18 rfl rfl ⟨_, hS.pick (by repeat first | exact .here _ _ | assumption | apply Pick.there)⟩ rfl rfl (by decide) ?_
            refine p_nu hap hsel 19 rfl rfl ⟨_, hS.pick (by repeat first | exact .here _ _ | assumption | apply Pick.there)⟩ rfl rfl ?_
            refine p_nu hap hsel 20 rfl rfl ⟨_, hS.pick (by repeat first | exact .here _ _ | assumption | apply Pick.there)⟩ rfl rfl ?_
            refine p_nu hap hsel 21 rfl rfl ⟨_, hS.pick (by repeat first | exact .here _ _ | assumption | apply Pick.there)⟩ rfl rfl ?_
            refine p_nu hap hsel 22 rfl rfl ⟨_, hS.pick (by repeat first | exact .here _ _ | assumption | apply Pick.there)⟩ rfl rfl ?_
            refine p_nu hap hsel 23 rfl rfl ⟨_, hS.pick (by repeat first | exact .here _ _ | assumption | apply Pick.there)⟩ rfl rfl ?_
            refine p_nu hap hsel 24 rfl rfl ⟨_, hS.pick (by repeat first | exact .here _ _ | assumption | apply Pick.there)⟩ rfl rfl ?_
            refine p_nu hap hsel 25 rfl rfl ⟨_, hS.pick (by repeat first | exact .here _ _ | assumption | apply Pick.there)⟩ rfl rfl ?_
            refine p_nu hap hsel 26 rfl rfl ⟨_, hS.pick (by repeat first | exact .here _ _ | assumption | apply Pick.there)⟩ rfl rfl ?_
            refine p_nu hap hsel 27 rfl rfl ⟨_, hS.pick (by repeat first | exact .here _ _ | assumption | apply Pick.there)⟩ rfl rfl ?_
            refine p_no hap hsel 28 rfl rfl ⟨_, hS.pick (by repeat first | exact .here _ _ | assumption | apply Pick.there)⟩ rfl rfl (by decide) ?_
            refine p_q hap hsel 29 rfl rfl ⟨_, hS.pick (by repeat first | exact .here _ _ | assumption | apply Pick.there)⟩ (fun w hI => q_pick_t rfl rfl) ?_
            refine p_end (by kernel_rfl) ?_
            refine c_cond_t rfl rfl ?_
            have hD : ¬ GoodF l := by
              rintro ⟨_, _, _, h4⟩
              obtain ⟨q1, q2, q3, q4⟩ := h4 j (by omega)
              have ej : (((j : Nat) : Int) - 1).toNat = j - 1 := by omega
              have ee : (l.getD (((j : Nat) : Int) - 1).toNat default).frm = (l.getD (j - 1) default).frm := by rw [ej]
              first
                | omega
                | exact absurd q2 (by first | exact of_decide_eq_false (by assumption) | exact dnot (by assumption))
                | exact absurd q3 (by first | exact of_decide_eq_false (by assumption) | exact dnot (by assumption))
                | (have q4' := q4 (by omega); omega)
            refine c_seq ?_
            refine c_region ?_
            refine t_q (q_assign) ?_
            refine t_nil ?_
            refine c_ret ?_
            refine r_one rfl rfl ?_
            have hN := hS.nil
            clear hS
            refine ⟨congrArg (fun b => Ending.returned (.bool b)) ?_, hN⟩
            first
              | exact (decide_eq_true hD).symm
              | exact (decide_eq_false hD).symm
          · intro hg14
            have hg14d := of_decide_eq_false hg14
            refine p_yes hap hsel 4 rfl rfl ⟨_, hS.pick (by repeat first | exact .here _ _ | assumption | apply Pick.there)⟩ rfl rfl hg14 (fun w hI => q_fieldAddr 1 Tryd.runUnderlying56 rfl Tryd.sizeOf2 (by decide) rfl rfl) ?_
            refine p_yes hap hsel 5 rfl rfl ⟨_, hS.pick (by repeat first | exact .here _ _ | assumption | apply Pick.there)⟩ rfl rfl hg14 (fun w hI => q_load1 Tryd.isAgg2 rfl (hI.choose_spec.cell (by repeat first | exact .here _ _ | assumption | apply Pick.there) rfl)) ?_
            refine p_one 6 rfl (by kernel_rfl) ?_
            refine t_yes rfl rfl hg14 ?_
            refine t_call Tryd.call97 (fine_calls (x := (l.getD j default).maker)) rfl ?_
            rintro e w ⟨rfl, hT⟩
            refine ⟨_, rfl, ?_⟩
            replace hS := hS.after hT
            refine t_nil ?_
            refine ⟨.inr ⟨_, hS.pick (by repeat first | exact .here _ _ | assumption | apply Pick.there)⟩, ?_⟩
            refine p_yes hap hsel 7 rfl rfl ⟨_, hS.pick (by repeat first | exact .here _ _ | assumption | apply Pick.there)⟩ rfl rfl hg14 (fun w hI => q_not rfl) ?_
            refine p_q hap hsel 8 rfl rfl ⟨_, hS.pick (by repeat first | exact .here _ _ | assumption | apply Pick.there)⟩ (fun w hI => q_pick_f rfl hg14) ?_
            refine p_q hap hsel 9 rfl rfl ⟨_, hS.pick (by repeat first | exact .here _ _ | assumption | apply Pick.there)⟩ (fun w hI => q_mv (.bool _) rfl) ?_
            refine p_case 46 rfl ?_ ?_
            · intro hg16
              refine p_no hap hsel 10 rfl rfl ⟨_, hS.pick (by repeat first | exact .here _ _ | assumption | apply Pick.there)⟩ rfl rfl (by rw [(congrArg not (not_back hg16))]; decide) ?_
              refine p_no hap hsel 11 rfl rfl ⟨_, hS.pick (by repeat first | exact .here _ _ | assumption | apply Pick.there)⟩ rfl rfl (by rw [(congrArg not (not_back hg16))]; decide) ?_
              refine p_no hap hsel 12 rfl rfl ⟨_, hS.pick (by repeat first | exact .here _ _ | assumption | apply Pick.there)⟩ rfl rfl (by rw [(congrArg not (not_back hg16))]; decide) ?_
              refine p_no hap hsel 13 rfl rfl ⟨_, hS.pick (by repeat first | exact .here _ _ | assumption | apply Pick.there)⟩ rfl rfl (by rw [(congrArg not (not_back hg16))]; decide) ?_
              refine p_q hap hsel 14 rfl rfl ⟨_, hS.pick (by repeat first | exact .here _ _ | assumption | apply Pick.there)⟩ (fun w hI => q_pick_t rfl (congrArg not (not_back hg16))) ?_
              refine p_q hap hsel 15 rfl rfl ⟨_, hS.pick (by repeat first | exact .here _ _ | assumption | apply Pick.there)⟩ (fun w hI => q_mv (.bool _) rfl) ?_
              refine p_no hap hsel 16 rfl rfl ⟨_, hS.pick (by repeat first | exact .here _ _ | assumption | apply Pick.there)⟩ rfl rfl (by decide) ?_
              refine p_no hap hsel 17 rfl rfl ⟨_, hS.pick (by repeat first | exact .here _ _ | assumption | apply Pick.there)⟩ rfl rfl (by decide) ?_
              refine p_no hap hsel 18 rfl rfl ⟨_, hS.pick (by repeat first | exact .here _ _ | assumption | apply Pick.there)⟩ rfl rfl (by decide) ?_
              refine p_nu hap hsel 19 rfl rfl ⟨_, hS.pick (by repeat first | exact .here _ _ | assumption | apply Pick.there)⟩ rfl rfl ?_
              refine p_nu hap hsel 20 rfl rfl ⟨_, hS.pick (by repeat first | exact .here _ _ | assumption | apply Pick.there)⟩ rfl rfl ?_
              refine p_nu hap hsel 21 rfl rfl ⟨_, hS.pick (by repeat first | exact .here _ _ | assumption | apply Pick.there)⟩ rfl rfl ?_
              refine p_nu hap hsel 22 rfl rfl ⟨_, hS.pick (by repeat first | exact .here _ _ | assumption | apply Pick.there)⟩ rfl rfl ?_
              refine p_nu hap hsel 23 rfl rfl ⟨_, hS.pick (by repeat first | exact .here _ _ | assumption | apply Pick.there)⟩ rfl rfl ?_
              refine p_nu hap hsel 24 rfl rfl ⟨_, hS.pick (by repeat first | exact .here _ _ | assumption | apply Pick.there)⟩ rfl rfl ?_
              refine p_nu hap hsel 25 rfl rfl ⟨_, hS.pick (by repeat first | exact .here _ _ | assumption | apply Pick.there)⟩ rfl rfl ?_
              refine p_nu hap hsel 26 rfl rfl ⟨_, hS.pick (by repeat first | exact .here _ _ | assumption | apply Pick.there)⟩ rfl rfl ?_
              refine p_nu hap hsel 27 rfl rfl ⟨_, hS.pick (by repeat first | exact .here _ _ | assumption | apply Pick.there)⟩ rfl rfl ?_
              refine p_no hap hsel 28 rfl rfl ⟨_, hS.pick (by repeat first | exact .here _ _ | assumption | apply Pick.there)⟩ rfl rfl (by decide) ?_
              refine p_q hap hsel 29 rfl rfl ⟨_, hS.pick (by repeat first | exact .here _ _ | assumption | apply Pick.there)⟩ (fun w hI => q_pick_t rfl rfl) ?_
              refine p_end (by kernel_rfl) ?_
              refine c_cond_t rfl rfl ?_
              have hD : ¬ GoodF l := by
                rintro ⟨_, _, _, h4⟩
                obtain ⟨q1, q2, q3, q4⟩ := h4 j (by omega)
                have ej : (((j : Nat) : Int) - 1).toNat = j - 1 := by omega
                have ee : (l.getD (((j : Nat) : Int) - 1).toNat default).frm = (l.getD (j - 1) default).frm := by rw [ej]
                first
                  | omega
                  | exact absurd q2 (by first | exact of_decide_eq_false (by assumption) | exact dnot (by assumption))
                  | exact absurd q3 (by first | exact of_decide_eq_false (by assumption) | exact dnot (by assumption))
                  | (have q4' := q4 (by omega); omega)
              refine c_seq ?_
              refine c_region ?_
              refine t_q (q_assign) ?_
              refine t_nil ?_
              refine c_ret ?_
              refine r_one rfl rfl ?_
              have hN := hS.nil
              clear hS
              refine ⟨congrArg (fun b => Ending.returned (.bool b)) ?_, hN⟩
              first
                | exact (decide_eq_true hD).symm
                | exact (decide_eq_false hD).symm
            · intro hg16
              refine p_yes hap hsel 10 rfl rfl ⟨_, hS.pick (by repeat first | exact .here _ _ | assumption | apply Pick.there)⟩ rfl rfl (congrArg not (not_back hg16)) (fun w hI => q_fieldAddr 2 Tryd.runUnderlying56 rfl Tryd.sizeOf2 (by decide) rfl rfl) ?_
              refine p_yes hap hsel 11 rfl rfl ⟨_, hS.pick (by repeat first | exact .here _ _ | assumption | apply Pick.there)⟩ rfl rfl (congrArg not (not_back hg16)) (fun w hI => q_load1 Tryd.isAgg2 rfl (hI.choose_spec.cell (by repeat first | exact .here _ _ | assumption | apply Pick.there) rfl)) ?_
              refine p_one 12 rfl (by kernel_rfl) ?_
              refine t_yes rfl rfl (congrArg not (not_back hg16)) ?_
              refine t_call Tryd.call97 (fine_calls (x := (l.getD j default).taker)) rfl ?_
              rintro e w ⟨rfl, hT⟩
              refine ⟨_, rfl, ?_⟩
              replace hS := hS.after hT
              refine t_nil ?_
              refine ⟨.inr ⟨_, hS.pick (by repeat first | exact .here _ _ | assumption | apply Pick.there)⟩, ?_⟩
              refine p_yes hap hsel 13 rfl rfl ⟨_, hS.pick (by repeat first | exact .here _ _ | assumption | apply Pick.there)⟩ rfl rfl (congrArg not (not_back hg16)) (fun w hI => q_not rfl) ?_
              refine p_q hap hsel 14 rfl rfl ⟨_, hS.pick (by repeat first | exact .here _ _ | assumption | apply Pick.there)⟩ (fun w hI => q_pick_f rfl (congrArg not (not_back hg16))) ?_
              refine p_q hap hsel 15 rfl rfl ⟨_, hS.pick (by repeat first | exact .here _ _ | assumption | apply Pick.there)⟩ (fun w hI => q_mv (.bool _) rfl) ?_
              refine p_case 52 rfl ?_ ?_
              · intro hg18
                refine p_no hap hsel 16 rfl rfl ⟨_, hS.pick (by repeat first | exact .here _ _ | assumption | apply Pick.there)⟩ rfl rfl (by rw [(congrArg not (not_back hg18))]; decide) ?_
                refine p_no hap hsel 17 rfl rfl ⟨_, hS.pick (by repeat first | exact .here _ _ | assumption | apply Pick.there)⟩ rfl rfl (by rw [(congrArg not (not_back hg18))]; decide) ?_
                refine p_no hap hsel 18 rfl rfl ⟨_, hS.pick (by repeat first | exact .here _ _ | assumption | apply Pick.there)⟩ rfl rfl (by rw [(congrArg not (not_back hg18))]; decide) ?_
                refine p_nu hap hsel 19 rfl rfl ⟨_, hS.pick (by repeat first | exact .here _ _ | assumption | apply Pick.there)⟩ rfl rfl ?_
                refine p_nu hap hsel 20 rfl rfl ⟨_, hS.pick (by repeat first | exact .here _ _ | assumption | apply Pick.there)⟩ rfl rfl ?_
                refine p_nu hap hsel 21 rfl rfl ⟨_, hS.pick (by repeat first | exact .here _ _ | assumption | apply Pick.there)⟩ rfl rfl ?_
                refine p_nu hap hsel 22 rfl rfl ⟨_, hS.pick (by repeat first | exact .here _ _ | assumption | apply Pick.there)⟩ rfl rfl ?_
                refine p_nu hap hsel 23 rfl rfl ⟨_, hS.pick (by repeat first | exact .here _ _ | assumption | apply Pick.there)⟩ rfl rfl ?_
                refine p_nu hap hsel 24 rfl rfl ⟨_, hS.pick (by repeat first | exact .here _ _ | assumption | apply Pick.there)⟩ rfl rfl ?_
                refine p_nu hap hsel 25 rfl rfl ⟨_, hS.pick (by repeat first | exact .here _ _ | assumption | apply Pick.there)⟩ rfl rfl ?_
                refine p_nu hap hsel 26 rfl rfl ⟨_, hS.pick (by repeat first | exact .here _ _ | assumption | apply Pick.there)⟩ rfl rfl ?_
                refine p_nu hap hsel 27 rfl rfl ⟨_, hS.pick (by repeat first | exact .here _ _ | assumption | apply Pick.there)⟩ rfl rfl ?_
                refine p_no hap hsel 28 rfl rfl ⟨_, hS.pick (by repeat first | exact .here _ _ | assumption | apply Pick.there)⟩ rfl rfl (by rw [(congrArg not (not_back hg18))]; decide) ?_
                refine p_q hap hsel 29 rfl rfl ⟨_, hS.pick (by repeat first | exact .here _ _ | assumption | apply Pick.there)⟩ (fun w hI => q_pick_t rfl (congrArg not (not_back hg18))) ?_
                refine p_end (by kernel_rfl) ?_
                refine c_cond_t rfl rfl ?_
                have hD : ¬ GoodF l := by
                  rintro ⟨_, _, _, h4⟩
                  obtain ⟨q1, q2, q3, q4⟩ := h4 j (by omega)
                  have ej : (((j : Nat) : Int) - 1).toNat = j - 1 := by omega
                  have ee : (l.getD (((j : Nat) : Int) - 1).toNat default).frm = (l.getD (j - 1) default).frm := by rw [ej]
                  first
                    | omega
                    | exact absurd q2 (by first | exact of_decide_eq_false (by assumption) | exact dnot (by assumption))
                    | exact absurd q3 (by first | exact of_decide_eq_false (by assumption) | exact dnot (by assumption))
                    | (have q4' := q4 (by omega); omega)
                refine c_seq ?_
                refine c_region ?_
                refine t_q (q_assign) ?_
                refine t_nil ?_
                refine c_ret ?_
                refine r_one rfl rfl ?_
                have hN := hS.nil
                clear hS
                refine ⟨congrArg (fun b => Ending.returned (.bool b)) ?_, hN⟩
                first
                  | exact (decide_eq_true hD).symm
                  | exact (decide_eq_false hD).symm
              · intro hg18
                refine p_yes hap hsel 16 rfl rfl ⟨_, hS.pick (by repeat first | exact .here _ _ | assumption | apply Pick.there)⟩ rfl rfl (congrArg not (not_back hg18)) (fun w hI => q_mv (.int _ _) rfl) ?_
                refine p_yes hap hsel 17 rfl rfl ⟨_, hS.pick (by repeat first | exact .here _ _ | assumption | apply Pick.there)⟩ rfl rfl (congrArg not (not_back hg18)) (fun w hI => q_gtr rfl rfl) ?_
                refine p_yes hap hsel 18 rfl rfl ⟨_, hS.pick (by repeat first | exact .here _ _ | assumption | apply Pick.there)⟩ rfl rfl (congrArg not (not_back hg18)) (fun w hI => q_mv (.bool _) rfl) ?_
                refine p_case 55 rfl ?_ ?_
                · intro hg20
                  have hg20d := of_decide_eq_true hg20
                  refine p_yes hap hsel 19 rfl rfl ⟨_, hS.pick (by repeat first | exact .here _ _ | assumption | apply Pick.there)⟩ rfl rfl hg20 (fun w hI => q_fieldAddr 0 Tryd.runUnderlying56 rfl Tryd.sizeOf2 (by decide) rfl rfl) ?_
                  refine p_yes hap hsel 20 rfl rfl ⟨_, hS.pick (by repeat first | exact .here _ _ | assumption | apply Pick.there)⟩ rfl rfl hg20 (fun w hI => q_load1 Tryd.isAgg2 rfl (hI.choose_spec.cell (by repeat first | exact .here _ _ | assumption | apply Pick.there) rfl)) ?_
                  refine p_yes hap hsel 21 rfl rfl ⟨_, hS.pick (by repeat first | exact .here _ _ | assumption | apply Pick.there)⟩ rfl rfl hg20 (fun w hI => q_mv (.slice _ _ _) rfl) ?_
                  refine p_yes hap hsel 22 rfl rfl ⟨_, hS.pick (by repeat first | exact .here _ _ | assumption | apply Pick.there)⟩ rfl rfl hg20 (fun w hI => q_mv (.int _ _) rfl) ?_
                  refine p_yes hap hsel 23 rfl rfl ⟨_, hS.pick (by repeat first | exact .here _ _ | assumption | apply Pick.there)⟩ rfl rfl hg20 (fun w hI => q_sub_i64 rfl rfl (by omega)) ?_
                  refine p_index_yes hap hsel 24 rfl rfl ⟨_, hS.pick (by repeat first | exact .here _ _ | assumption | apply Pick.there)⟩ rfl rfl hg20 Tryd.runUnderlying40 Tryd.sizeOf56 (fun w hI => hl.st hI.choose_spec) rfl rfl (by omega) (fun ad21 hl21 hx21 => ?_)
                  refine p_yes hap hsel 25 rfl rfl ⟨_, hS.pick (by repeat first | exact .here _ _ | assumption | apply Pick.there)⟩ rfl rfl hg20 (fun w hI => q_fieldAddr 0 Tryd.runUnderlying56 rfl Tryd.sizeOf2 (by decide) rfl rfl) ?_
                  refine p_yes hap hsel 26 rfl rfl ⟨_, hS.pick (by repeat first | exact .here _ _ | assumption | apply Pick.there)⟩ rfl rfl hg20 (fun w hI => q_load1 Tryd.isAgg2 rfl ((hx21 w hI) 0 _ rfl)) ?_
                  refine p_yes hap hsel 27 rfl rfl ⟨_, hS.pick (by repeat first | exact .here _ _ | assumption | apply Pick.there)⟩ rfl rfl hg20 (fun w hI => q_leq rfl rfl) ?_
                  refine p_yes hap hsel 28 rfl rfl ⟨_, hS.pick (by repeat first | exact .here _ _ | assumption | apply Pick.there)⟩ rfl rfl (congrArg not (not_back hg18)) (fun w hI => q_pick_t rfl hg20) ?_
                  refine p_q hap hsel 29 rfl rfl ⟨_, hS.pick (by repeat first | exact .here _ _ | assumption | apply Pick.there)⟩ (fun w hI => q_pick_f rfl (congrArg not (not_back hg18))) ?_
                  refine p_end (by kernel_rfl) ?_
                  refine c_cond rfl ?_ ?_
                  · intro hc23
                    have hc23d := of_decide_eq_true hc23
                    have hD : ¬ GoodF l := by
                      rintro ⟨_, _, _, h4⟩
                      obtain ⟨q1, q2, q3, q4⟩ := h4 j (by omega)
                      have ej : (((j : Nat) : Int) - 1).toNat = j - 1 := by omega
                      have ee : (l.getD (((j : Nat) : Int) - 1).toNat default).frm = (l.getD (j - 1) default).frm := by rw [ej]
                      first
                        | omega
                        | exact absurd q2 (by first | exact of_decide_eq_false (by assumption) | exact dnot (by assumption))
                        | exact absurd q3 (by first | exact of_decide_eq_false (by assumption) | exact dnot (by assumption))
                        | (have q4' := q4 (by omega); omega)
                    refine c_seq ?_
                    refine c_region ?_
                    refine t_q (q_assign) ?_
                    refine t_nil ?_
                    refine c_ret ?_
                    refine r_one rfl rfl ?_
                    have hN := hS.nil
                    clear hS
                    refine ⟨congrArg (fun b => Ending.returned (.bool b)) ?_, hN⟩
                    first
                      | exact (decide_eq_true hD).symm
                      | exact (decide_eq_false hD).symm
                  · intro hc23
                    have hc23d := of_decide_eq_false hc23
                    refine c_skip ?_
                    refine c_region ?_
                    refine t_q (q_add_i64 rfl rfl (by omega)) ?_
                    refine t_q (q_mv (.int _ _) rfl) ?_
                    refine t_nil ?_
                    exact ⟨k - 1, by omega, j + 1, rfl, by omega, by omega, (fun i hi => by
                      rcases Nat.lt_or_ge i j with h | h
                      · exact hall i h
                      · obtain rfl : i = j := by omega
                        have f1 := of_decide_eq_true (bnf' (by assumption : (!decide (0 ≤ (l.getD i default).maker ∧ (l.getD i default).maker ≤ 100000)) = false))
                        have f2 := of_decide_eq_true (bnf' (by assumption : (!decide (0 ≤ (l.getD i default).taker ∧ (l.getD i default).taker ≤ 100000)) = false))
                        have ej : (((i : Nat) : Int) - 1).toNat = i - 1 := by omega
                        have ee : (l.getD (((i : Nat) : Int) - 1).toNat default).frm = (l.getD (i - 1) default).frm := by rw [ej]
                        exact ⟨by omega, f1, f2, fun h => by omega⟩), hS.nil⟩
                · intro hg20
                  have hg20d := of_decide_eq_false hg20
                  refine p_no hap hsel 19 rfl rfl ⟨_, hS.pick (by repeat first | exact .here _ _ | assumption | apply Pick.there)⟩ rfl rfl (by rw [hg20]; decide) ?_
                  refine p_no hap hsel 20 rfl rfl ⟨_, hS.pick (by repeat first | exact .here _ _ | assumption | apply Pick.there)⟩ rfl rfl (by rw [hg20]; decide) ?_
                  refine p_no hap hsel 21 rfl rfl ⟨_, hS.pick (by repeat first | exact .here _ _ | assumption | apply Pick.there)⟩ rfl rfl (by rw [hg20]; decide) ?_
                  refine p_no hap hsel 22 rfl rfl ⟨_, hS.pick (by repeat first | exact .here _ _ | assumption | apply Pick.there)⟩ rfl rfl (by rw [hg20]; decide) ?_
                  refine p_no hap hsel 23 rfl rfl ⟨_, hS.pick (by repeat first | exact .here _ _ | assumption | apply Pick.there)⟩ rfl rfl (by rw [hg20]; decide) ?_
                  refine p_no hap hsel 24 rfl rfl ⟨_, hS.pick (by repeat first | exact .here _ _ | assumption | apply Pick.there)⟩ rfl rfl (by rw [hg20]; decide) ?_
                  refine p_no hap hsel 25 rfl rfl ⟨_, hS.pick (by repeat first | exact .here _ _ | assumption | apply Pick.there)⟩ rfl rfl (by rw [hg20]; decide) ?_
                  refine p_no hap hsel 26 rfl rfl ⟨_, hS.pick (by repeat first | exact .here _ _ | assumption | apply Pick.there)⟩ rfl rfl (by rw [hg20]; decide) ?_
                  refine p_no hap hsel 27 rfl rfl ⟨_, hS.pick (by repeat first | exact .here _ _ | assumption | apply Pick.there)⟩ rfl rfl (by rw [hg20]; decide) ?_
                  refine p_yes hap hsel 28 rfl rfl ⟨_, hS.pick (by repeat first | exact .here _ _ | assumption | apply Pick.there)⟩ rfl rfl (congrArg not (not_back hg18)) (fun w hI => q_pick_f rfl hg20) ?_
                  refine p_q hap hsel 29 rfl rfl ⟨_, hS.pick (by repeat first | exact .here _ _ | assumption | apply Pick.there)⟩ (fun w hI => q_pick_f rfl (congrArg not (not_back hg18))) ?_
                  refine p_end (by kernel_rfl) ?_
                  refine c_cond_f rfl rfl ?_
                  refine c_skip ?_
                  refine c_region ?_
                  refine t_q (q_add_i64 rfl rfl (by omega)) ?_
                  refine t_q (q_mv (.int _ _) rfl) ?_
                  refine t_nil ?_
                  exact ⟨k - 1, by omega, j + 1, rfl, by omega, by omega, (fun i hi => by
                    rcases Nat.lt_or_ge i j with h | h
                    · exact hall i h
                    · obtain rfl : i = j := by omega
                      have f1 := of_decide_eq_true (bnf' (by assumption : (!decide (0 ≤ (l.getD i default).maker ∧ (l.getD i default).maker ≤ 100000)) = false))
                      have f2 := of_decide_eq_true (bnf' (by assumption : (!decide (0 ≤ (l.getD i default).taker ∧ (l.getD i default).taker ≤ 100000)) = false))
                      have ej : (((i : Nat) : Int) - 1).toNat = i - 1 := by omega
                      have ee : (l.getD (((i : Nat) : Int) - 1).toNat default).frm = (l.getD (i - 1) default).frm := by rw [ej]
                      exact ⟨by omega, f1, f2, fun h => by omega⟩), hS.nil⟩
        · intro hc11
          have hc11d := of_decide_eq_false hc11
          obtain rfl : j = l.length := by omega
          have hD : GoodF l := ⟨by omega, by omega, h0, hall⟩
          refine c_exit ?_
          refine ite_t rfl ?_
          refine c_seq ?_
          refine c_region ?_
          refine t_q (q_assign) ?_
          refine t_nil ?_
          refine c_ret ?_
          refine r_one rfl rfl ?_
          have hN := hS.nil
          clear hS
          refine ⟨congrArg (fun b => Ending.returned (.bool b)) ?_, hN⟩
          first
            | exact (decide_eq_true hD).symm
            | exact (decide_eq_false hD).symm
set_option maxRecDepth 100000 in
theorem gchk_calls {A : Option Addr} {c : Nat} {l : List Tk} (hl : RdTk W A l) (hi : ∀ e ∈ l, e.In) (hm : l.length ≤ 1000000) : Calls Tryd.prog 51 #[.slice A l.length c] W fun e w' => e = .returned (.int .i64 (if GoodT l then 0 else 43)) ∧ St W w' [] := by
  have hS := St.init W
  refine calls_of_wpE (args := [_]) Tryd.func51 rfl rfl rfl ?_
  refine c_seq ?_
  refine c_region ?_
  refine t_q (q_assign) ?_
  refine t_nil ?_
  refine c_seq ?_
  refine c_seq ?_
  refine c_region ?_
  refine t_q (q_mv (.slice _ _ _) rfl) ?_
  refine t_call Tryd.call79 (ggood_calls (hl.st hS) hi hm) rfl ?_
  rintro e w ⟨rfl, hT⟩
  refine ⟨_, rfl, ?_⟩
  replace hS := hS.after hT
  refine t_q (q_not rfl) ?_
  refine t_nil ?_
  refine c_cond rfl ?_ ?_
  · intro hc2
    have hD : ¬ GoodT l := of_decide_eq_false (not_back hc2)
    refine c_seq ?_
    refine c_region ?_
    refine t_q (q_assign) ?_
    refine t_nil ?_
    refine c_ret ?_
    refine r_one rfl rfl ?_
    first
      | (rw [if_pos hD]; exact ⟨rfl, hS.nil⟩)
      | (rw [if_neg hD]; exact ⟨rfl, hS.nil⟩)
  · intro hc2
    have hD : GoodT l := of_decide_eq_true (not_back hc2)
    refine c_skip ?_
    refine c_seq ?_
    refine c_region ?_
    refine t_q (q_assign) ?_
    refine t_nil ?_
    refine c_ret ?_
    refine r_one rfl rfl ?_
    first
      | (rw [if_pos hD]; exact ⟨rfl, hS.nil⟩)
      | (rw [if_neg hD]; exact ⟨rfl, hS.nil⟩)
set_option maxRecDepth 100000 in
theorem fchk_calls {A : Option Addr} {c : Nat} {l : List Tr} (hl : RdTr W A l) (hi : ∀ e ∈ l, e.In) (hm : l.length ≤ 1000000) : Calls Tryd.prog 53 #[.slice A l.length c] W fun e w' => e = .returned (.int .i64 (if GoodF l then 0 else 43)) ∧ St W w' [] := by
  have hS := St.init W
  refine calls_of_wpE (args := [_]) Tryd.func53 rfl rfl rfl ?_
  refine c_seq ?_
  refine c_region ?_
  refine t_q (q_assign) ?_
  refine t_nil ?_
  refine c_seq ?_
  refine c_seq ?_
  refine c_region ?_
  refine t_q (q_mv (.slice _ _ _) rfl) ?_
  refine t_call Tryd.call80 (fgood_calls (hl.st hS) hi hm) rfl ?_
  rintro e w ⟨rfl, hT⟩
  refine ⟨_, rfl, ?_⟩
  replace hS := hS.after hT
  refine t_q (q_not rfl) ?_
  refine t_nil ?_
  refine c_cond rfl ?_ ?_
  · intro hc2
    have hD : ¬ GoodF l := of_decide_eq_false (not_back hc2)
    refine c_seq ?_
    refine c_region ?_
    refine t_q (q_assign) ?_
    refine t_nil ?_
    refine c_ret ?_
    refine r_one rfl rfl ?_
    first
      | (rw [if_pos hD]; exact ⟨rfl, hS.nil⟩)
      | (rw [if_neg hD]; exact ⟨rfl, hS.nil⟩)
  · intro hc2
    have hD : GoodF l := of_decide_eq_true (not_back hc2)
    refine c_skip ?_
    refine c_seq ?_
    refine c_region ?_
    refine t_q (q_assign) ?_
    refine t_nil ?_
    refine c_ret ?_
    refine r_one rfl rfl ?_
    first
      | (rw [if_pos hD]; exact ⟨rfl, hS.nil⟩)
      | (rw [if_neg hD]; exact ⟨rfl, hS.nil⟩)
set_option maxRecDepth 100000 in
theorem modes_calls {x : RuV} : Calls Tryd.prog 54 #[.agg x.cells.toArray] W fun e w' => e = .returned (.bool (decide (ModesP x))) ∧ St W w' [] := by
  have hS := St.init W
  refine calls_of_wpE (args := [_]) Tryd.func54 rfl rfl rfl ?_
  refine c_seq ?_
  refine c_region ?_
  refine t_box (v := (.agg _)) rfl rfl hS (fun g1 w hS => ?_)
  replace hS := hS.recast (show _ = blkA g1 42 [.int .i64 x.version, .slice x.ticks.A x.ticks.l.length x.ticks.c, .int .i64 x.lot, .int .i64 x.band, .slice x.fees.A x.fees.l.length x.fees.c, .int .i64 x.round, .int .i64 x.priority, .int .i64 x.self, .int .i64 x.layout] from rfl)
  refine t_q (q_assign) ?_
  refine t_nil ?_
  refine c_seq ?_
  refine c_region ?_
  refine t_q (q_fieldAddr 5 Tryd.runUnderlying42 rfl Tryd.sizeOf3 (by decide) rfl rfl) ?_
  refine t_q (q_load1 Tryd.isAgg3 rfl (hS.cell (by repeat first | exact .here _ _ | assumption | apply Pick.there) rfl)) ?_
  refine t_call Tryd.call49 (within_calls) rfl ?_
  rintro e w ⟨rfl, hT⟩
  refine ⟨_, rfl, ?_⟩
  replace hS := hS.after hT
  refine t_q (q_mv (.bool _) rfl) ?_
  refine t_case 7 rfl ?_ ?_
  · intro hg2
    refine t_yes rfl rfl hg2 ?_
    refine t_q (q_fieldAddr 6 Tryd.runUnderlying42 rfl Tryd.sizeOf3 (by decide) rfl rfl) ?_
    refine t_yes rfl rfl hg2 ?_
    refine t_q (q_load1 Tryd.isAgg3 rfl (hS.cell (by repeat first | exact .here _ _ | assumption | apply Pick.there) rfl)) ?_
    refine t_yes rfl rfl hg2 ?_
    refine t_call Tryd.call49 (within_calls) rfl ?_
    rintro e w ⟨rfl, hT⟩
    refine ⟨_, rfl, ?_⟩
    replace hS := hS.after hT
    refine t_q (q_pick_t rfl hg2) ?_
    refine t_q (q_as (.bool _) rfl) ?_
    refine t_nil ?_
    refine c_seq ?_
    refine c_region ?_
    refine t_q (q_mv (.bool _) rfl) ?_
    refine t_q (q_mv (.bool _) rfl) ?_
    refine t_case 13 rfl ?_ ?_
    · intro hg4
      refine t_yes rfl rfl hg4 ?_
      refine t_q (q_fieldAddr 7 Tryd.runUnderlying42 rfl Tryd.sizeOf3 (by decide) rfl rfl) ?_
      refine t_yes rfl rfl hg4 ?_
      refine t_q (q_load1 Tryd.isAgg3 rfl (hS.cell (by repeat first | exact .here _ _ | assumption | apply Pick.there) rfl)) ?_
      refine t_yes rfl rfl hg4 ?_
      refine t_call Tryd.call49 (within_calls) rfl ?_
      rintro e w ⟨rfl, hT⟩
      refine ⟨_, rfl, ?_⟩
      replace hS := hS.after hT
      refine t_q (q_pick_t rfl hg4) ?_
      refine t_q (q_mv (.bool _) rfl) ?_
      refine t_case 18 rfl ?_ ?_
      · intro hg6
        refine t_yes rfl rfl hg6 ?_
        refine t_q (q_fieldAddr 8 Tryd.runUnderlying42 rfl Tryd.sizeOf3 (by decide) rfl rfl) ?_
        refine t_yes rfl rfl hg6 ?_
        refine t_q (q_load1 Tryd.isAgg3 rfl (hS.cell (by repeat first | exact .here _ _ | assumption | apply Pick.there) rfl)) ?_
        refine t_yes rfl rfl hg6 ?_
        refine t_call Tryd.call49 (within_calls) rfl ?_
        rintro e w ⟨rfl, hT⟩
        refine ⟨_, rfl, ?_⟩
        replace hS := hS.after hT
        refine t_q (q_pick_t rfl hg6) ?_
        refine t_q (q_as (.bool _) rfl) ?_
        refine t_nil ?_
        refine c_ret ?_
        refine r_one rfl rfl ?_
        have hN := hS.nil
        clear hS
        refine ⟨congrArg (fun b => Ending.returned (.bool b)) ?_, hN⟩
        unfold ModesP
        first
          | (rw [decide_eq_decide]; simp_all; done)
          | (symm; apply decide_eq_false; simp_all; omega)
          | (rw [Bool.eq_iff_iff, decide_eq_true_eq]; simp_all; done)
      · intro hg6
        refine t_no rfl rfl (by rw [hg6]; decide) ?_
        refine t_no rfl rfl (by rw [hg6]; decide) ?_
        refine t_no rfl rfl (by rw [hg6]; decide) ?_
        refine t_q (q_pick_f rfl hg6) ?_
        refine t_q (q_as (.bool _) rfl) ?_
        refine t_nil ?_
        refine c_ret ?_
        refine r_one rfl rfl ?_
        have hN := hS.nil
        clear hS
        refine ⟨congrArg (fun b => Ending.returned (.bool b)) ?_, hN⟩
        unfold ModesP
        first
          | (rw [decide_eq_decide]; simp_all; done)
          | (symm; apply decide_eq_false; simp_all; omega)
          | (rw [Bool.eq_iff_iff, decide_eq_true_eq]; simp_all; done)
    · intro hg4
      refine t_no rfl rfl (by rw [hg4]; decide) ?_
      refine t_no rfl rfl (by rw [hg4]; decide) ?_
      refine t_no rfl rfl (by rw [hg4]; decide) ?_
      refine t_q (q_pick_f rfl hg4) ?_
      refine t_q (q_mv (.bool _) rfl) ?_
      refine t_no rfl rfl (by decide) ?_
      refine t_no rfl rfl (by decide) ?_
      refine t_no rfl rfl (by decide) ?_
      refine t_q (q_pick_f rfl rfl) ?_
      refine t_q (q_as (.bool _) rfl) ?_
      refine t_nil ?_
      refine c_ret ?_
      refine r_one rfl rfl ?_
      have hN := hS.nil
      clear hS
      refine ⟨congrArg (fun b => Ending.returned (.bool b)) ?_, hN⟩
      unfold ModesP
      first
        | (rw [decide_eq_decide]; simp_all; done)
        | (symm; apply decide_eq_false; simp_all; omega)
        | (rw [Bool.eq_iff_iff, decide_eq_true_eq]; simp_all; done)
  · intro hg2
    refine t_no rfl rfl (by rw [hg2]; decide) ?_
    refine t_no rfl rfl (by rw [hg2]; decide) ?_
    refine t_no rfl rfl (by rw [hg2]; decide) ?_
    refine t_q (q_pick_f rfl hg2) ?_
    refine t_q (q_as (.bool _) rfl) ?_
    refine t_nil ?_
    refine c_seq ?_
    refine c_region ?_
    refine t_q (q_mv (.bool _) rfl) ?_
    refine t_q (q_mv (.bool _) rfl) ?_
    refine t_no rfl rfl (by decide) ?_
    refine t_no rfl rfl (by decide) ?_
    refine t_no rfl rfl (by decide) ?_
    refine t_q (q_pick_f rfl rfl) ?_
    refine t_q (q_mv (.bool _) rfl) ?_
    refine t_no rfl rfl (by decide) ?_
    refine t_no rfl rfl (by decide) ?_
    refine t_no rfl rfl (by decide) ?_
    refine t_q (q_pick_f rfl rfl) ?_
    refine t_q (q_as (.bool _) rfl) ?_
    refine t_nil ?_
    refine c_ret ?_
    refine r_one rfl rfl ?_
    have hN := hS.nil
    clear hS
    refine ⟨congrArg (fun b => Ending.returned (.bool b)) ?_, hN⟩
    unfold ModesP
    first
      | (rw [decide_eq_decide]; simp_all; done)
      | (symm; apply decide_eq_false; simp_all; omega)
      | (rw [Bool.eq_iff_iff, decide_eq_true_eq]; simp_all; done)
set_option maxRecDepth 100000 in
theorem fnew_calls {a b : Int} : Calls Tryd.prog 11 #[.int .i64 a, .int .i64 b] W fun e w' => ∃ v, e = .returned v ∧ IsIf v ∧ isNilI v = decide (b = 0) ∧ St W w' [] := by
  have hS := St.init W
  refine calls_of_wpE (args := [_, _]) Tryd.func11 rfl rfl rfl ?_
  refine c_seq ?_
  refine c_region ?_
  refine t_q (q_assign) ?_
  refine t_nil ?_
  refine c_seq ?_
  refine c_seq ?_
  refine c_region ?_
  refine t_q (q_mv (.int _ _) rfl) ?_
  refine t_q (q_eql rfl rfl) ?_
  refine t_nil ?_
  refine c_cond rfl ?_ ?_
  · intro hc2
    have hc2d := of_decide_eq_true hc2
    obtain rfl : b = 0 := by omega
    refine c_seq ?_
    refine c_region ?_
    refine t_q (q_assign) ?_
    refine t_nil ?_
    refine c_ret ?_
    refine r_one rfl rfl ?_
    first
      | exact ⟨_, rfl, .inl rfl, rfl, hS.nil⟩
      | exact ⟨_, rfl, .inr ⟨_, _, rfl⟩, (decide_eq_false (by omega)).symm, hS.nil⟩
  · intro hc2
    have hc2d := of_decide_eq_false hc2
    refine c_skip ?_
    refine c_seq ?_
    refine c_region ?_
    refine t_q (q_mv (.int _ _) rfl) ?_
    refine t_q (q_mv (.int _ _) rfl) ?_
    refine t_q (q_build (qs := [(0, 1), (1, 1), (2, 1)]) [(.int _ _), (.int _ _), .nilIface] Tryd.zeroValue76 Tryd.runUnderlying76 ⟨rfl, Tryd.sizeOf3, rfl, Tryd.sizeOf26, rfl, Tryd.sizeOf24, trivial⟩ rfl rfl) ?_
    refine t_box (v := (.agg _)) rfl rfl hS (fun g10 w hS => ?_)
    refine t_q (q_iface Tryd.runUnderlying35 (fun _ h => by cases h) rfl) ?_
    refine t_q (q_as (.iface _ _) rfl) ?_
    refine t_nil ?_
    refine c_ret ?_
    refine r_one rfl rfl ?_
    first
      | exact ⟨_, rfl, .inl rfl, rfl, hS.nil⟩
      | exact ⟨_, rfl, .inr ⟨_, _, rfl⟩, (decide_eq_false (by omega)).symm, hS.nil⟩
set_option maxRecDepth 100000 in
theorem fwrap_nil {a : Int} : Calls Tryd.prog 13 #[.int .i64 a, .nilIface] W fun e w' => ∃ u, e = .returned u ∧ IsIf u ∧ isNilI u = true ∧ St W w' [] := by
  have hS := St.init W
  refine calls_of_wpE (args := [_, _]) Tryd.func13 rfl rfl rfl ?_
  refine c_seq ?_
  refine c_region ?_
  refine t_q (q_assign) ?_
  refine t_nil ?_
  refine c_seq ?_
  refine c_seq ?_
  refine c_region ?_
  refine t_q (q_mv .nilIface rfl) ?_
  refine t_q (q_eql_iface_nil Tryd.runUnderlying24 rfl (.inl rfl)) ?_
  refine t_nil ?_
  refine c_cond_t rfl rfl ?_
  refine c_seq ?_
  refine c_region ?_
  refine t_q (q_assign) ?_
  refine t_nil ?_
  refine c_ret ?_
  refine r_one rfl rfl ?_
  exact ⟨_, rfl, .inl rfl, rfl, hS.nil⟩
set_option maxRecDepth 100000 in
theorem fwrap_if {a : Int} {t : Nat} {v : Value} : Calls Tryd.prog 13 #[.int .i64 a, .iface t v] W fun e w' => ∃ u, e = .returned u ∧ IsIf u ∧ isNilI u = false ∧ St W w' [] := by
  have hS := St.init W
  refine calls_of_wpE (args := [_, _]) Tryd.func13 rfl rfl rfl ?_
  refine c_seq ?_
  refine c_region ?_
  refine t_q (q_assign) ?_
  refine t_nil ?_
  refine c_seq ?_
  refine c_seq ?_
  refine c_region ?_
  refine t_q (q_mv (.iface _ _) rfl) ?_
  refine t_q (q_eql_iface_nil Tryd.runUnderlying24 rfl (.inr ⟨_, _, rfl⟩)) ?_
  refine t_nil ?_
  refine c_cond_f rfl rfl ?_
  refine c_skip ?_
  refine c_seq ?_
  refine c_region ?_
  refine t_q (q_mv (.int _ _) rfl) ?_
  refine t_q (q_mv (.iface _ _) rfl) ?_
  refine t_q (q_build (qs := [(0, 1), (1, 1), (2, 1)]) [(.int _ _), (.int _ _), (.iface _ _)] Tryd.zeroValue76 Tryd.runUnderlying76 ⟨rfl, Tryd.sizeOf3, rfl, Tryd.sizeOf26, rfl, Tryd.sizeOf24, trivial⟩ rfl rfl) ?_
  refine t_box (v := (.agg _)) rfl rfl hS (fun g10 w hS => ?_)
  refine t_q (q_iface Tryd.runUnderlying35 (fun _ h => by cases h) rfl) ?_
  refine t_q (q_as (.iface _ _) rfl) ?_
  refine t_nil ?_
  refine c_ret ?_
  refine r_one rfl rfl ?_
  exact ⟨_, rfl, .inr ⟨_, _, rfl⟩, rfl, hS.nil⟩
theorem fwrap_calls {a : Int} {v : Value} (hv : IsIf v) : Calls Tryd.prog 13 #[.int .i64 a, v] W fun e w' => ∃ u, e = .returned u ∧ IsIf u ∧ isNilI u = isNilI v ∧ St W w' [] := by
  rcases hv with rfl | ⟨t, u, rfl⟩
  · exact fwrap_nil
  · exact fwrap_if
set_option maxRecDepth 100000 in
theorem rown_calls {b : Int} : Calls Tryd.prog 50 #[.int .i64 b] W fun e w' => ∃ u, e = .returned u ∧ IsIf u ∧ isNilI u = decide (b = 0) ∧ St W w' [] := by
  have hS := St.init W
  refine calls_of_wpE (args := [_]) Tryd.func50 rfl rfl rfl ?_
  refine c_seq ?_
  refine c_region ?_
  refine t_q (q_assign) ?_
  refine t_nil ?_
  refine c_seq ?_
  refine c_region ?_
  refine t_q (q_mv (.int _ _) rfl) ?_
  refine t_call Tryd.call11 (fnew_calls) rfl ?_
  rintro e w ⟨v, rfl, hIf, hn, hT⟩
  refine ⟨_, rfl, ?_⟩
  replace hS := hS.after hT
  refine t_q (q_as v rfl) ?_
  refine t_nil ?_
  refine c_ret ?_
  refine r_one rfl rfl ?_
  exact ⟨_, rfl, hIf, hn, hS.nil⟩
set_option maxRecDepth 100000 in
theorem rof_calls {a b : Int} : Calls Tryd.prog 52 #[.int .i64 a, .int .i64 b] W fun e w' => ∃ u, e = .returned u ∧ IsIf u ∧ isNilI u = decide (b = 0) ∧ St W w' [] := by
  have hS := St.init W
  refine calls_of_wpE (args := [_, _]) Tryd.func52 rfl rfl rfl ?_
  refine c_seq ?_
  refine c_region ?_
  refine t_q (q_assign) ?_
  refine t_nil ?_
  refine c_seq ?_
  refine c_region ?_
  refine t_q (q_mv (.int _ _) rfl) ?_
  refine t_q (q_mv (.int _ _) rfl) ?_
  refine t_call Tryd.call11 (fnew_calls) rfl ?_
  rintro e w ⟨v, rfl, hIf, hn, hT⟩
  refine ⟨_, rfl, ?_⟩
  replace hS := hS.after hT
  refine t_call Tryd.call13 (fwrap_calls hIf) rfl ?_
  rintro e w ⟨u, rfl, hIf2, hn2, hT⟩
  refine ⟨_, rfl, ?_⟩
  replace hS := hS.after hT
  refine t_q (q_as u rfl) ?_
  refine t_nil ?_
  refine c_ret ?_
  refine r_one rfl rfl ?_
  exact ⟨_, rfl, hIf2, hn2.trans hn, hS.nil⟩
set_option maxHeartbeats 2000000 in
set_option maxRecDepth 100000 in
theorem rcheck_calls {x : RuV} (hx : x.Gd W) : Calls Tryd.prog 25 #[.agg x.cells.toArray] W fun e w' => ∃ v, e = .returned v ∧ IsIf v ∧ isNilI v = goodR x ∧ St W w' [] := by
  have hS := St.init W
  refine calls_of_wpE (args := [_]) Tryd.func25 rfl rfl rfl ?_
  refine c_seq ?_
  refine c_region ?_
  refine t_box (v := (.agg _)) rfl rfl hS (fun g1 w hS => ?_)
  replace hS := hS.recast (show _ = blkA g1 42 [.int .i64 x.version, .slice x.ticks.A x.ticks.l.length x.ticks.c, .int .i64 x.lot, .int .i64 x.band, .slice x.fees.A x.fees.l.length x.fees.c, .int .i64 x.round, .int .i64 x.priority, .int .i64 x.self, .int .i64 x.layout] from rfl)
  refine t_q (q_assign) ?_
  refine t_nil ?_
  refine c_seq ?_
  refine c_block ?_
  refine c_seq ?_
  refine c_region ?_
  refine t_q (q_fieldAddr 0 Tryd.runUnderlying42 rfl Tryd.sizeOf3 (by decide) rfl rfl) ?_
  refine t_q (q_load1 Tryd.isAgg3 rfl (hS.cell (by repeat first | exact .here _ _ | assumption | apply Pick.there) rfl)) ?_
  refine t_call Tryd.call49 (within_calls) rfl ?_
  rintro e w ⟨rfl, hT⟩
  refine ⟨_, rfl, ?_⟩
  replace hS := hS.after hT
  refine t_q (q_not rfl) ?_
  refine t_q (q_as (.bool _) rfl) ?_
  refine t_nil ?_
  refine c_cond rfl ?_ ?_
  · intro hc2
    have hD : goodR x = false := by unfold goodR; rw [chk_1 (of_decide_eq_false (not_back hc2))]; rfl
    refine c_seq ?_
    refine c_region ?_
    refine t_call Tryd.call50 (rown_calls) rfl ?_
    rintro e w ⟨u, rfl, hIf, hn, hT⟩
    refine ⟨_, rfl, ?_⟩
    replace hS := hS.after hT
    refine t_q (q_as u rfl) ?_
    refine t_nil ?_
    refine c_ret ?_
    refine r_one rfl rfl ?_
    rw [hD]
    first
      | exact ⟨_, rfl, .inl rfl, rfl, hS.nil⟩
      | exact ⟨_, rfl, hIf, hn.trans (by first | rfl | (rw [if_neg h2]; rfl) | (rw [if_neg h4]; rfl)), hS.nil⟩
  · intro hc2
    have h1 : (1 ≤ x.version ∧ x.version ≤ 32) := of_decide_eq_true (not_back hc2)
    refine c_seq ?_
    refine c_region ?_
    refine t_q (q_fieldAddr 1 Tryd.runUnderlying42 rfl Tryd.sizeOf39 (by decide) rfl rfl) ?_
    refine t_q (q_load1 Tryd.isAgg39 rfl (hS.cell (by repeat first | exact .here _ _ | assumption | apply Pick.there) rfl)) ?_
    refine t_call Tryd.call51 (gchk_calls (l := x.ticks.l) (hx.trd.st hS) hx.tin hx.tle) rfl ?_
    rintro e w ⟨rfl, hT⟩
    refine ⟨_, rfl, ?_⟩
    replace hS := hS.after hT
    refine t_q (q_neq rfl rfl) ?_
    refine t_q (q_as (.bool _) rfl) ?_
    refine t_nil ?_
    refine c_cond rfl ?_ ?_
    · intro hc6
      have hc6d := of_decide_eq_true hc6
      have h2 : ¬ GoodT x.ticks.l := fun h => by rw [if_pos h] at *; omega
      have hD : goodR x = false := by unfold goodR; rw [chk_2 h1 h2]; rfl
      refine c_seq ?_
      refine c_region ?_
      refine t_q (q_fieldAddr 1 Tryd.runUnderlying42 rfl Tryd.sizeOf39 (by decide) rfl rfl) ?_
      refine t_q (q_load1 Tryd.isAgg39 rfl (hS.cell (by repeat first | exact .here _ _ | assumption | apply Pick.there) rfl)) ?_
      refine t_call Tryd.call51 (gchk_calls (l := x.ticks.l) (hx.trd.st hS) hx.tin hx.tle) rfl ?_
      rintro e w ⟨rfl, hT⟩
      refine ⟨_, rfl, ?_⟩
      replace hS := hS.after hT
      refine t_call Tryd.call52 (rof_calls) rfl ?_
      rintro e w ⟨u, rfl, hIf, hn, hT⟩
      refine ⟨_, rfl, ?_⟩
      replace hS := hS.after hT
      refine t_q (q_as u rfl) ?_
      refine t_nil ?_
      refine c_ret ?_
      refine r_one rfl rfl ?_
      rw [hD]
      first
        | exact ⟨_, rfl, .inl rfl, rfl, hS.nil⟩
        | exact ⟨_, rfl, hIf, hn.trans (by first | rfl | (rw [if_neg h2]; rfl) | (rw [if_neg h4]; rfl)), hS.nil⟩
    · intro hc6
      have hc6d := of_decide_eq_false hc6
      have h2 : GoodT x.ticks.l := by
        by_cases h : GoodT x.ticks.l
        · exact h
        · rw [if_neg h] at *; omega
      refine c_seq ?_
      refine c_region ?_
      refine t_q (q_fieldAddr 2 Tryd.runUnderlying42 rfl Tryd.sizeOf2 (by decide) rfl rfl) ?_
      refine t_q (q_load1 Tryd.isAgg2 rfl (hS.cell (by repeat first | exact .here _ _ | assumption | apply Pick.there) rfl)) ?_
      refine t_q (q_lss rfl rfl) ?_
      refine t_q (q_mv (.bool _) rfl) ?_
      refine t_case 22 rfl ?_ ?_
      · intro hg10
        have hg10d := of_decide_eq_true hg10
        refine t_no rfl rfl (by rw [hg10]; decide) ?_
        refine t_no rfl rfl (by rw [hg10]; decide) ?_
        refine t_no rfl rfl (by rw [hg10]; decide) ?_
        refine t_q (q_pick_t rfl hg10) ?_
        refine t_q (q_mv (.bool _) rfl) ?_
        refine t_no rfl rfl (by decide) ?_
        refine t_no rfl rfl (by decide) ?_
        refine t_no rfl rfl (by decide) ?_
        refine t_q (q_pick_t rfl rfl) ?_
        refine t_q (q_mv (.bool _) rfl) ?_
        refine t_no rfl rfl (by decide) ?_
        refine t_no rfl rfl (by decide) ?_
        refine t_no rfl rfl (by decide) ?_
        refine t_q (q_pick_t rfl rfl) ?_
        refine t_q (q_as (.bool _) rfl) ?_
        refine t_nil ?_
        refine c_cond_t rfl rfl ?_
        have h3 : ¬ (1 ≤ x.lot ∧ x.lot ≤ 1099511627776 ∧ 0 ≤ x.band ∧ x.band ≤ 1000000) := by
          rintro ⟨q1, q2, q3, q4⟩
          first | omega | (simp_all; omega)
        have hD : goodR x = false := by unfold goodR; rw [chk_3 h1 h2 h3]; rfl
        refine c_seq ?_
        refine c_region ?_
        refine t_call Tryd.call50 (rown_calls) rfl ?_
        rintro e w ⟨u, rfl, hIf, hn, hT⟩
        refine ⟨_, rfl, ?_⟩
        replace hS := hS.after hT
        refine t_q (q_as u rfl) ?_
        refine t_nil ?_
        refine c_ret ?_
        refine r_one rfl rfl ?_
        rw [hD]
        first
          | exact ⟨_, rfl, .inl rfl, rfl, hS.nil⟩
          | exact ⟨_, rfl, hIf, hn.trans (by first | rfl | (rw [if_neg h2]; rfl) | (rw [if_neg h4]; rfl)), hS.nil⟩
      · intro hg10
        have hg10d := of_decide_eq_false hg10
        refine t_yes rfl rfl hg10 ?_
        refine t_q (q_fieldAddr 2 Tryd.runUnderlying42 rfl Tryd.sizeOf2 (by decide) rfl rfl) ?_
        refine t_yes rfl rfl hg10 ?_
        refine t_q (q_load1 Tryd.isAgg2 rfl (hS.cell (by repeat first | exact .here _ _ | assumption | apply Pick.there) rfl)) ?_
        refine t_yes rfl rfl hg10 ?_
        refine t_q (q_gtr rfl rfl) ?_
        refine t_q (q_pick_f rfl hg10) ?_
        refine t_q (q_mv (.bool _) rfl) ?_
        refine t_case 27 rfl ?_ ?_
        · intro hg13
          have hg13d := of_decide_eq_true hg13
          refine t_no rfl rfl (by rw [hg13]; decide) ?_
          refine t_no rfl rfl (by rw [hg13]; decide) ?_
          refine t_no rfl rfl (by rw [hg13]; decide) ?_
          refine t_q (q_pick_t rfl hg13) ?_
          refine t_q (q_mv (.bool _) rfl) ?_
          refine t_no rfl rfl (by decide) ?_
          refine t_no rfl rfl (by decide) ?_
          refine t_no rfl rfl (by decide) ?_
          refine t_q (q_pick_t rfl rfl) ?_
          refine t_q (q_as (.bool _) rfl) ?_
          refine t_nil ?_
          refine c_cond_t rfl rfl ?_
          have h3 : ¬ (1 ≤ x.lot ∧ x.lot ≤ 1099511627776 ∧ 0 ≤ x.band ∧ x.band ≤ 1000000) := by
            rintro ⟨q1, q2, q3, q4⟩
            first | omega | (simp_all; omega)
          have hD : goodR x = false := by unfold goodR; rw [chk_3 h1 h2 h3]; rfl
          refine c_seq ?_
          refine c_region ?_
          refine t_call Tryd.call50 (rown_calls) rfl ?_
          rintro e w ⟨u, rfl, hIf, hn, hT⟩
          refine ⟨_, rfl, ?_⟩
          replace hS := hS.after hT
          refine t_q (q_as u rfl) ?_
          refine t_nil ?_
          refine c_ret ?_
          refine r_one rfl rfl ?_
          rw [hD]
          first
            | exact ⟨_, rfl, .inl rfl, rfl, hS.nil⟩
            | exact ⟨_, rfl, hIf, hn.trans (by first | rfl | (rw [if_neg h2]; rfl) | (rw [if_neg h4]; rfl)), hS.nil⟩
        · intro hg13
          have hg13d := of_decide_eq_false hg13
          refine t_yes rfl rfl hg13 ?_
          refine t_q (q_fieldAddr 3 Tryd.runUnderlying42 rfl Tryd.sizeOf2 (by decide) rfl rfl) ?_
          refine t_yes rfl rfl hg13 ?_
          refine t_q (q_load1 Tryd.isAgg2 rfl (hS.cell (by repeat first | exact .here _ _ | assumption | apply Pick.there) rfl)) ?_
          refine t_yes rfl rfl hg13 ?_
          refine t_q (q_lss rfl rfl) ?_
          refine t_q (q_pick_f rfl hg13) ?_
          refine t_q (q_mv (.bool _) rfl) ?_
          refine t_case 32 rfl ?_ ?_
          · intro hg16
            have hg16d := of_decide_eq_true hg16
            refine t_no rfl rfl (by rw [hg16]; decide) ?_
            refine t_no rfl rfl (by rw [hg16]; decide) ?_
            refine t_no rfl rfl (by rw [hg16]; decide) ?_
            refine t_q (q_pick_t rfl hg16) ?_
            refine t_q (q_as (.bool _) rfl) ?_
            refine t_nil ?_
            refine c_cond_t rfl rfl ?_
            have h3 : ¬ (1 ≤ x.lot ∧ x.lot ≤ 1099511627776 ∧ 0 ≤ x.band ∧ x.band ≤ 1000000) := by
              rintro ⟨q1, q2, q3, q4⟩
              first | omega | (simp_all; omega)
            have hD : goodR x = false := by unfold goodR; rw [chk_3 h1 h2 h3]; rfl
            refine c_seq ?_
            refine c_region ?_
            refine t_call Tryd.call50 (rown_calls) rfl ?_
            rintro e w ⟨u, rfl, hIf, hn, hT⟩
            refine ⟨_, rfl, ?_⟩
            replace hS := hS.after hT
            refine t_q (q_as u rfl) ?_
            refine t_nil ?_
            refine c_ret ?_
            refine r_one rfl rfl ?_
            rw [hD]
            first
              | exact ⟨_, rfl, .inl rfl, rfl, hS.nil⟩
              | exact ⟨_, rfl, hIf, hn.trans (by first | rfl | (rw [if_neg h2]; rfl) | (rw [if_neg h4]; rfl)), hS.nil⟩
          · intro hg16
            have hg16d := of_decide_eq_false hg16
            refine t_yes rfl rfl hg16 ?_
            refine t_q (q_fieldAddr 3 Tryd.runUnderlying42 rfl Tryd.sizeOf2 (by decide) rfl rfl) ?_
            refine t_yes rfl rfl hg16 ?_
            refine t_q (q_load1 Tryd.isAgg2 rfl (hS.cell (by repeat first | exact .here _ _ | assumption | apply Pick.there) rfl)) ?_
            refine t_yes rfl rfl hg16 ?_
            refine t_q (q_gtr rfl rfl) ?_
            refine t_q (q_pick_f rfl hg16) ?_
            refine t_q (q_as (.bool _) rfl) ?_
            refine t_nil ?_
            refine c_cond rfl ?_ ?_
            · intro hc19
              have hc19d := of_decide_eq_true hc19
              have h3 : ¬ (1 ≤ x.lot ∧ x.lot ≤ 1099511627776 ∧ 0 ≤ x.band ∧ x.band ≤ 1000000) := by
                rintro ⟨q1, q2, q3, q4⟩
                first | omega | (simp_all; omega)
              have hD : goodR x = false := by unfold goodR; rw [chk_3 h1 h2 h3]; rfl
              refine c_seq ?_
              refine c_region ?_
              refine t_call Tryd.call50 (rown_calls) rfl ?_
              rintro e w ⟨u, rfl, hIf, hn, hT⟩
              refine ⟨_, rfl, ?_⟩
              replace hS := hS.after hT
              refine t_q (q_as u rfl) ?_
              refine t_nil ?_
              refine c_ret ?_
              refine r_one rfl rfl ?_
              rw [hD]
              first
                | exact ⟨_, rfl, .inl rfl, rfl, hS.nil⟩
                | exact ⟨_, rfl, hIf, hn.trans (by first | rfl | (rw [if_neg h2]; rfl) | (rw [if_neg h4]; rfl)), hS.nil⟩
            · intro hc19
              have hc19d := of_decide_eq_false hc19
              have h3 : (1 ≤ x.lot ∧ x.lot ≤ 1099511627776 ∧ 0 ≤ x.band ∧ x.band ≤ 1000000) := by
                first | omega | (simp_all; omega)
              refine c_seq ?_
              refine c_region ?_
              refine t_q (q_fieldAddr 4 Tryd.runUnderlying42 rfl Tryd.sizeOf40 (by decide) rfl rfl) ?_
              refine t_q (q_load1 Tryd.isAgg40 rfl (hS.cell (by repeat first | exact .here _ _ | assumption | apply Pick.there) rfl)) ?_
              refine t_call Tryd.call53 (fchk_calls (l := x.fees.l) (hx.frd.st hS) hx.fin hx.fle) rfl ?_
              rintro e w ⟨rfl, hT⟩
              refine ⟨_, rfl, ?_⟩
              replace hS := hS.after hT
              refine t_q (q_neq rfl rfl) ?_
              refine t_q (q_as (.bool _) rfl) ?_
              refine t_nil ?_
              refine c_cond rfl ?_ ?_
              · intro hc23
                have hc23d := of_decide_eq_true hc23
                have h4 : ¬ GoodF x.fees.l := fun h => by rw [if_pos h] at *; omega
                have hD : goodR x = false := by unfold goodR; rw [chk_4 h1 h2 h3 h4]; rfl
                refine c_seq ?_
                refine c_region ?_
                refine t_q (q_fieldAddr 4 Tryd.runUnderlying42 rfl Tryd.sizeOf40 (by decide) rfl rfl) ?_
                refine t_q (q_load1 Tryd.isAgg40 rfl (hS.cell (by repeat first | exact .here _ _ | assumption | apply Pick.there) rfl)) ?_
                refine t_call Tryd.call53 (fchk_calls (l := x.fees.l) (hx.frd.st hS) hx.fin hx.fle) rfl ?_
                rintro e w ⟨rfl, hT⟩
                refine ⟨_, rfl, ?_⟩
                replace hS := hS.after hT
                refine t_call Tryd.call52 (rof_calls) rfl ?_
                rintro e w ⟨u, rfl, hIf, hn, hT⟩
                refine ⟨_, rfl, ?_⟩
                replace hS := hS.after hT
                refine t_q (q_as u rfl) ?_
                refine t_nil ?_
                refine c_ret ?_
                refine r_one rfl rfl ?_
                rw [hD]
                first
                  | exact ⟨_, rfl, .inl rfl, rfl, hS.nil⟩
                  | exact ⟨_, rfl, hIf, hn.trans (by first | rfl | (rw [if_neg h2]; rfl) | (rw [if_neg h4]; rfl)), hS.nil⟩
              · intro hc23
                have hc23d := of_decide_eq_false hc23
                have h4 : GoodF x.fees.l := by
                  by_cases h : GoodF x.fees.l
                  · exact h
                  · rw [if_neg h] at *; omega
                refine c_seq ?_
                refine c_region ?_
                refine t_q (q_cast (v' := .agg x.cells.toArray) (q_load_blk Tryd.isAgg42 Tryd.sizeOf42 rfl (hS.blk (by repeat first | exact .here _ _ | assumption | apply Pick.there)) rfl) (by rfl)) ?_
                refine t_call Tryd.call54 (modes_calls (x := x)) rfl ?_
                rintro e w ⟨rfl, hT⟩
                refine ⟨_, rfl, ?_⟩
                replace hS := hS.after hT
                refine t_q (q_not rfl) ?_
                refine t_q (q_as (.bool _) rfl) ?_
                refine t_nil ?_
                refine c_cond rfl ?_ ?_
                · intro hc27
                  have h5 : ¬ ModesP x := of_decide_eq_false (not_back hc27)
                  have hD : goodR x = false := by unfold goodR; rw [chk_5 h1 h2 h3 h4 h5]; rfl
                  refine c_seq ?_
                  refine c_region ?_
                  refine t_call Tryd.call50 (rown_calls) rfl ?_
                  rintro e w ⟨u, rfl, hIf, hn, hT⟩
                  refine ⟨_, rfl, ?_⟩
                  replace hS := hS.after hT
                  refine t_q (q_as u rfl) ?_
                  refine t_nil ?_
                  refine c_ret ?_
                  refine r_one rfl rfl ?_
                  rw [hD]
                  first
                    | exact ⟨_, rfl, .inl rfl, rfl, hS.nil⟩
                    | exact ⟨_, rfl, hIf, hn.trans (by first | rfl | (rw [if_neg h2]; rfl) | (rw [if_neg h4]; rfl)), hS.nil⟩
                · intro hc27
                  have h5 : ModesP x := of_decide_eq_true (not_back hc27)
                  have hD : goodR x = true := by unfold goodR; rw [chk_6 h1 h2 h3 h4 h5]; rfl
                  refine c_skip ?_
                  refine c_seq ?_
                  refine c_region ?_
                  refine t_q (q_assign) ?_
                  refine t_nil ?_
                  refine c_ret ?_
                  refine r_one rfl rfl ?_
                  rw [hD]
                  first
                    | exact ⟨_, rfl, .inl rfl, rfl, hS.nil⟩
                    | exact ⟨_, rfl, hIf, hn.trans (by first | rfl | (rw [if_neg h2]; rfl) | (rw [if_neg h4]; rfl)), hS.nil⟩
end Go.Proofs.YtcgagmojgjbfpaaDoor
