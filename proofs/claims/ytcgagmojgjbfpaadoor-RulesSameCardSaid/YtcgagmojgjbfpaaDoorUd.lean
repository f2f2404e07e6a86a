/- Rule sets: when two are the same; copies. -/
import Derived.Test.YtcgagmojgjbfpaaDoorUc
import Derived.Test.YtcgagmojgjbfpaaDoorR
namespace Go.Proofs.YtcgagmojgjbfpaaDoor
open Go Go.RowKit Go.Lib
variable {W : World}
attribute [local irreducible] blkA rowA
set_option maxRecDepth 100000 in
theorem eqt_calls {A B : Option Addr} {c d : Nat} {a b : List Tk} (ha : RdTk W A a) (hb : RdTk W B b) (hai : ∀ e ∈ a, e.In) (hbi : ∀ e ∈ b, e.In) (hal : a.length ≤ 1000000) (hbl : b.length ≤ 1000000) : Calls Tryd.prog 63 #[.slice A a.length c, .slice B b.length d] W fun e w' => e = .returned (.bool (sameTk a b)) ∧ St W w' [] := by
  have hS := St.init W
  refine calls_of_wpE (args := [_, _]) Tryd.func63 rfl rfl rfl ?_
  refine c_seq ?_
  refine c_region ?_
  refine t_q (q_assign) ?_
  refine t_nil ?_
  refine c_seq ?_
  refine c_seq ?_
  refine c_region ?_
  refine t_q (q_mv (.slice _ _ _) rfl) ?_
  refine t_q (q_len_slice Tryd.runUnderlying39 rfl) ?_
  refine t_q (q_mv (.slice _ _ _) rfl) ?_
  refine t_q (q_len_slice Tryd.runUnderlying39 rfl) ?_
  refine t_q (q_neq rfl rfl) ?_
  refine t_nil ?_
  refine c_cond rfl ?_ ?_
  · intro hc2
    have hc2d := of_decide_eq_true hc2
    refine c_seq ?_
    refine c_region ?_
    refine t_q (q_assign) ?_
    refine t_nil ?_
    refine c_ret ?_
    refine r_one rfl rfl ?_
    first
      | exact ⟨congrArg (fun b => Ending.returned (.bool b)) (sameTk_len (by omega)).symm, hS.nil⟩
      | exact ⟨congrArg (fun b => Ending.returned (.bool b)) (sameTk_at (j := j) (by omega) hll hno).symm, hS.nil⟩
      | exact ⟨congrArg (fun b => Ending.returned (.bool b)) (sameTk_all hll fun i hi => hall i (by omega)).symm, hS.nil⟩
  · intro hc2
    have hc2d := of_decide_eq_false hc2
    have hll : a.length = b.length := by omega
    refine c_skip ?_
    refine c_seq ?_
    refine c_seq ?_
    refine c_region ?_
    refine t_q (q_mv (.slice _ _ _) rfl) ?_
    refine t_q (q_len_slice Tryd.runUnderlying39 rfl) ?_
    refine t_q (q_move) ?_
    refine t_nil ?_
    refine c_block ?_
    refine c_loop [4, 5, 13, 14, 15, 16, 17, 18, 19, 20, 21, 22, 23, 24, 25] (fun k σ w => ∃ j : Nat, σ 13 = .int .i64 (j : Int) ∧ j ≤ a.length ∧ a.length - j ≤ k ∧ (∀ i, i < j → (a.getD i default).ints = (b.getD i default).ints) ∧ St W w []) (a.length) rfl (⟨0, rfl, by omega, by omega, (fun i h => absurd h (by omega)), hS⟩) ?_
    skip
    rintro k σ w ⟨j, hj0, hj, hk, hall, hS⟩
    refine c_know 13 hj0 ?_
    clear hj0
    refine c_seq ?_
    refine c_region ?_
    refine t_q (q_lss rfl rfl) ?_
    refine t_nil ?_
    refine c_seq ?_
    refine c_cond rfl ?_ ?_
    · intro hc4
      have hc4d := of_decide_eq_true hc4
      refine c_skip ?_
      refine c_seq ?_
      refine c_block ?_
      refine c_seq ?_
      refine c_region ?_
      refine t_q (q_mv (.int _ _) rfl) ?_
      refine t_q (q_as (.int _ _) rfl) ?_
      refine t_nil ?_
      refine c_seq ?_
      refine c_draw ?_
      refine d_quiet 9 [0, 1, 2, 3, 4, 5, 6, 7, 8] [0, 1, 2, 3, 4, 5, 6, 7, 8] hS rfl (by kernel_rfl) (by kernel_rfl) (by kernel_rfl) (by kernel_rfl) (fun hap hsel w hS => ?_)
      refine p_q hap hsel 0 rfl rfl hS (fun w hS => q_mv (.slice _ _ _) rfl) ?_
      refine p_q hap hsel 1 rfl rfl hS (fun w hS => q_mv (.int _ _) rfl) ?_
      refine p_index hap hsel 2 rfl rfl hS Tryd.runUnderlying39 Tryd.sizeOf54 (fun w hS => ha.st hS) rfl rfl (by omega) (fun ad5 hl5 hx5 => ?_)
      refine p_q hap hsel 3 rfl rfl hS (fun w hS => q_loadN Tryd.isAgg54 Tryd.sizeOf54 rfl hl5 (hx5 w hS)) ?_
      refine p_q hap hsel 4 rfl rfl hS (fun w hS => q_mv (.slice _ _ _) rfl) ?_
      refine p_q hap hsel 5 rfl rfl hS (fun w hS => q_mv (.int _ _) rfl) ?_
      refine p_index hap hsel 6 rfl rfl hS Tryd.runUnderlying39 Tryd.sizeOf54 (fun w hS => hb.st hS) rfl rfl (by omega) (fun ad6 hl6 hx6 => ?_)
      refine p_q hap hsel 7 rfl rfl hS (fun w hS => q_loadN Tryd.isAgg54 Tryd.sizeOf54 rfl hl6 (hx6 w hS)) ?_
      refine p_q hap hsel 8 rfl rfl hS (fun w hS => q_neq_tk (e := a.getD j default) (q := b.getD j default) rfl rfl (tk_in hai (by omega)) (tk_in hbi (by omega))) ?_
      refine p_end (by kernel_rfl) ?_
      refine c_cond rfl ?_ ?_
      · intro hc7
        have hno : (a.getD j default).ints ≠ (b.getD j default).ints := by simpa using hc7
        refine c_seq ?_
        refine c_region ?_
        refine t_q (q_assign) ?_
        refine t_nil ?_
        refine c_ret ?_
        refine r_one rfl rfl ?_
        first
          | exact ⟨congrArg (fun b => Ending.returned (.bool b)) (sameTk_len (by omega)).symm, hS.nil⟩
          | exact ⟨congrArg (fun b => Ending.returned (.bool b)) (sameTk_at (j := j) (by omega) hll hno).symm, hS.nil⟩
          | exact ⟨congrArg (fun b => Ending.returned (.bool b)) (sameTk_all hll fun i hi => hall i (by omega)).symm, hS.nil⟩
      · intro hc7
        have hyes : (a.getD j default).ints = (b.getD j default).ints := by simpa using hc7
        refine c_skip ?_
        refine c_region ?_
        refine t_q (q_add_i64 rfl rfl (by omega)) ?_
        refine t_q (q_mv (.int _ _) rfl) ?_
        refine t_nil ?_
        exact ⟨k - 1, by omega, j + 1, rfl, by omega, by omega, (fun i hi => by
          rcases Nat.lt_or_ge i j with h | h
          · exact hall i h
          · obtain rfl : i = j := by omega
            exact hyes), hS⟩
    · intro hc4
      have hc4d := of_decide_eq_false hc4
      refine c_exit ?_
      refine ite_t rfl ?_
      refine c_seq ?_
      refine c_region ?_
      refine t_q (q_assign) ?_
      refine t_nil ?_
      refine c_ret ?_
      refine r_one rfl rfl ?_
      first
        | exact ⟨congrArg (fun b => Ending.returned (.bool b)) (sameTk_len (by omega)).symm, hS.nil⟩
        | exact ⟨congrArg (fun b => Ending.returned (.bool b)) (sameTk_at (j := j) (by omega) hll hno).symm, hS.nil⟩
        | exact ⟨congrArg (fun b => Ending.returned (.bool b)) (sameTk_all hll fun i hi => hall i (by omega)).symm, hS.nil⟩
set_option maxRecDepth 100000 in
theorem eqr_calls {A B : Option Addr} {c d : Nat} {a b : List Tr} (ha : RdTr W A a) (hb : RdTr W B b) (hai : ∀ e ∈ a, e.In) (hbi : ∀ e ∈ b, e.In) (hal : a.length ≤ 1000000) (hbl : b.length ≤ 1000000) : Calls Tryd.prog 64 #[.slice A a.length c, .slice B b.length d] W fun e w' => e = .returned (.bool (sameTr a b)) ∧ St W w' [] := by
  have hS := St.init W
  refine calls_of_wpE (args := [_, _]) Tryd.func64 rfl rfl rfl ?_
  refine c_seq ?_
  refine c_region ?_
  refine t_q (q_assign) ?_
  refine t_nil ?_
  refine c_seq ?_
  refine c_seq ?_
  refine c_region ?_
  refine t_q (q_mv (.slice _ _ _) rfl) ?_
  refine t_q (q_len_slice Tryd.runUnderlying40 rfl) ?_
  refine t_q (q_mv (.slice _ _ _) rfl) ?_
  refine t_q (q_len_slice Tryd.runUnderlying40 rfl) ?_
  refine t_q (q_neq rfl rfl) ?_
  refine t_nil ?_
  refine c_cond rfl ?_ ?_
  · intro hc2
    have hc2d := of_decide_eq_true hc2
    refine c_seq ?_
    refine c_region ?_
    refine t_q (q_assign) ?_
    refine t_nil ?_
    refine c_ret ?_
    refine r_one rfl rfl ?_
    first
      | exact ⟨congrArg (fun b => Ending.returned (.bool b)) (sameTr_len (by omega)).symm, hS.nil⟩
      | exact ⟨congrArg (fun b => Ending.returned (.bool b)) (sameTr_at (j := j) (by omega) hll hno).symm, hS.nil⟩
      | exact ⟨congrArg (fun b => Ending.returned (.bool b)) (sameTr_all hll fun i hi => hall i (by omega)).symm, hS.nil⟩
  · intro hc2
    have hc2d := of_decide_eq_false hc2
    have hll : a.length = b.length := by omega
    refine c_skip ?_
    refine c_seq ?_
    refine c_seq ?_
    refine c_region ?_
    refine t_q (q_mv (.slice _ _ _) rfl) ?_
    refine t_q (q_len_slice Tryd.runUnderlying40 rfl) ?_
    refine t_q (q_move) ?_
    refine t_nil ?_
    refine c_block ?_
    refine c_loop [4, 5, 13, 14, 15, 16, 17, 18, 19, 20, 21, 22, 23, 24, 25] (fun k σ w => ∃ j : Nat, σ 13 = .int .i64 (j : Int) ∧ j ≤ a.length ∧ a.length - j ≤ k ∧ (∀ i, i < j → (a.getD i default).ints = (b.getD i default).ints) ∧ St W w []) (a.length) rfl (⟨0, rfl, by omega, by omega, (fun i h => absurd h (by omega)), hS⟩) ?_
    skip
    rintro k σ w ⟨j, hj0, hj, hk, hall, hS⟩
    refine c_know 13 hj0 ?_
    clear hj0
    refine c_seq ?_
    refine c_region ?_
    refine t_q (q_lss rfl rfl) ?_
    refine t_nil ?_
    refine c_seq ?_
    refine c_cond rfl ?_ ?_
    · intro hc4
      have hc4d := of_decide_eq_true hc4
      refine c_skip ?_
      refine c_seq ?_
      refine c_block ?_
      refine c_seq ?_
      refine c_region ?_
      refine t_q (q_mv (.int _ _) rfl) ?_
      refine t_q (q_as (.int _ _) rfl) ?_
      refine t_nil ?_
      refine c_seq ?_
      refine c_draw ?_
      refine d_quiet 9 [0, 1, 2, 3, 4, 5, 6, 7, 8] [0, 1, 2, 3, 4, 5, 6, 7, 8] hS rfl (by kernel_rfl) (by kernel_rfl) (by kernel_rfl) (by kernel_rfl) (fun hap hsel w hS => ?_)
      refine p_q hap hsel 0 rfl rfl hS (fun w hS => q_mv (.slice _ _ _) rfl) ?_
      refine p_q hap hsel 1 rfl rfl hS (fun w hS => q_mv (.int _ _) rfl) ?_
      refine p_index hap hsel 2 rfl rfl hS Tryd.runUnderlying40 Tryd.sizeOf56 (fun w hS => ha.st hS) rfl rfl (by omega) (fun ad5 hl5 hx5 => ?_)
      refine p_q hap hsel 3 rfl rfl hS (fun w hS => q_loadN Tryd.isAgg56 Tryd.sizeOf56 rfl hl5 (hx5 w hS)) ?_
      refine p_q hap hsel 4 rfl rfl hS (fun w hS => q_mv (.slice _ _ _) rfl) ?_
      refine p_q hap hsel 5 rfl rfl hS (fun w hS => q_mv (.int _ _) rfl) ?_
      refine p_index hap hsel 6 rfl rfl hS Tryd.runUnderlying40 Tryd.sizeOf56 (fun w hS => hb.st hS) rfl rfl (by omega) (fun ad6 hl6 hx6 => ?_)
      refine p_q hap hsel 7 rfl rfl hS (fun w hS => q_loadN Tryd.isAgg56 Tryd.sizeOf56 rfl hl6 (hx6 w hS)) ?_
      refine p_q hap hsel 8 rfl rfl hS (fun w hS => q_neq_tr (e := a.getD j default) (q := b.getD j default) rfl rfl (tr_in hai (by omega)) (tr_in hbi (by omega))) ?_
      refine p_end (by kernel_rfl) ?_
      refine c_cond rfl ?_ ?_
      · intro hc7
        have hno : (a.getD j default).ints ≠ (b.getD j default).ints := by simpa using hc7
        refine c_seq ?_
        refine c_region ?_
        refine t_q (q_assign) ?_
        refine t_nil ?_
        refine c_ret ?_
        refine r_one rfl rfl ?_
        first
          | exact ⟨congrArg (fun b => Ending.returned (.bool b)) (sameTr_len (by omega)).symm, hS.nil⟩
          | exact ⟨congrArg (fun b => Ending.returned (.bool b)) (sameTr_at (j := j) (by omega) hll hno).symm, hS.nil⟩
          | exact ⟨congrArg (fun b => Ending.returned (.bool b)) (sameTr_all hll fun i hi => hall i (by omega)).symm, hS.nil⟩
      · intro hc7
        have hyes : (a.getD j default).ints = (b.getD j default).ints := by simpa using hc7
        refine c_skip ?_
        refine c_region ?_
        refine t_q (q_add_i64 rfl rfl (by omega)) ?_
        refine t_q (q_mv (.int _ _) rfl) ?_
        refine t_nil ?_
        exact ⟨k - 1, by omega, j + 1, rfl, by omega, by omega, (fun i hi => by
          rcases Nat.lt_or_ge i j with h | h
          · exact hall i h
          · obtain rfl : i = j := by omega
            exact hyes), hS⟩
    · intro hc4
      have hc4d := of_decide_eq_false hc4
      refine c_exit ?_
      refine ite_t rfl ?_
      refine c_seq ?_
      refine c_region ?_
      refine t_q (q_assign) ?_
      refine t_nil ?_
      refine c_ret ?_
      refine r_one rfl rfl ?_
      first
        | exact ⟨congrArg (fun b => Ending.returned (.bool b)) (sameTr_len (by omega)).symm, hS.nil⟩
        | exact ⟨congrArg (fun b => Ending.returned (.bool b)) (sameTr_at (j := j) (by omega) hll hno).symm, hS.nil⟩
        | exact ⟨congrArg (fun b => Ending.returned (.bool b)) (sameTr_all hll fun i hi => hall i (by omega)).symm, hS.nil⟩
set_option maxHeartbeats 2000000 in
set_option maxRecDepth 100000 in
theorem rsame_calls {x y : RuV} (hx : x.Gd W) (hy : y.Gd W) : Calls Tryd.prog 29 #[.agg x.cells.toArray, .agg y.cells.toArray] W fun e w' => e = .returned (.bool (decide (x.vw = y.vw))) ∧ St W w' [] := by
  have hS := St.init W
  refine calls_of_wpE (args := [_, _]) Tryd.func29 rfl rfl rfl ?_
  refine c_seq ?_
  refine c_region ?_
  refine t_box (v := (.agg _)) rfl rfl hS (fun g2 w hS => ?_)
  replace hS := hS.recast (show _ = blkA g2 42 [.int .i64 x.version, .slice x.ticks.A x.ticks.l.length x.ticks.c, .int .i64 x.lot, .int .i64 x.band, .slice x.fees.A x.fees.l.length x.fees.c, .int .i64 x.round, .int .i64 x.priority, .int .i64 x.self, .int .i64 x.layout] from rfl)
  refine t_box (v := (.agg _)) rfl rfl hS (fun g3 w hS => ?_)
  replace hS := hS.recast (show _ = blkA g3 42 [.int .i64 y.version, .slice y.ticks.A y.ticks.l.length y.ticks.c, .int .i64 y.lot, .int .i64 y.band, .slice y.fees.A y.fees.l.length y.fees.c, .int .i64 y.round, .int .i64 y.priority, .int .i64 y.self, .int .i64 y.layout] from rfl)
  refine t_q (q_assign) ?_
  refine t_nil ?_
  refine c_seq ?_
  refine c_seq ?_
  refine c_region ?_
  refine t_q (q_fieldAddr 0 Tryd.runUnderlying42 rfl Tryd.sizeOf3 (by decide) rfl rfl) ?_
  refine t_q (q_load1 Tryd.isAgg3 rfl (hS.cell (by repeat first | exact .here _ _ | assumption | apply Pick.there) rfl)) ?_
  refine t_q (q_fieldAddr 0 Tryd.runUnderlying42 rfl Tryd.sizeOf3 (by decide) rfl rfl) ?_
  refine t_q (q_load1 Tryd.isAgg3 rfl (hS.cell (by repeat first | exact .here _ _ | assumption | apply Pick.there) rfl)) ?_
  refine t_q (q_neq rfl rfl) ?_
  refine t_q (q_mv (.bool _) rfl) ?_
  refine t_case 10 rfl ?_ ?_
  · intro hg2
    have hg2d := of_decide_eq_true hg2
    refine t_no rfl rfl (by rw [hg2]; decide) ?_
    refine t_no rfl rfl (by rw [hg2]; decide) ?_
    refine t_no rfl rfl (by rw [hg2]; decide) ?_
    refine t_no rfl rfl (by rw [hg2]; decide) ?_
    refine t_no rfl rfl (by rw [hg2]; decide) ?_
    refine t_q (q_pick_t rfl hg2) ?_
    refine t_q (q_mv (.bool _) rfl) ?_
    refine t_no rfl rfl (by decide) ?_
    refine t_no rfl rfl (by decide) ?_
    refine t_no rfl rfl (by decide) ?_
    refine t_no rfl rfl (by decide) ?_
    refine t_no rfl rfl (by decide) ?_
    refine t_q (q_pick_t rfl rfl) ?_
    refine t_q (q_mv (.bool _) rfl) ?_
    refine t_no rfl rfl (by decide) ?_
    refine t_no rfl rfl (by decide) ?_
    refine t_no rfl rfl (by decide) ?_
    refine t_no rfl rfl (by decide) ?_
    refine t_no rfl rfl (by decide) ?_
    refine t_q (q_pick_t rfl rfl) ?_
    refine t_nil ?_
    refine c_cond_t rfl rfl ?_
    refine c_seq ?_
    refine c_region ?_
    refine t_q (q_assign) ?_
    refine t_nil ?_
    refine c_ret ?_
    refine r_one rfl rfl ?_
    have hN := hS.nil
    clear hS
    refine ⟨congrArg (fun b => Ending.returned (.bool b)) ?_, hN⟩
    clear hN
    rw [Bool.eq_iff_iff, decide_eq_true_iff (p := x.vw = y.vw), ru_iff]
    clear hx hy
    simp_all [sameTk, sameTr]
  · intro hg2
    have hg2d := of_decide_eq_false hg2
    refine t_yes rfl rfl hg2 ?_
    refine t_q (q_fieldAddr 2 Tryd.runUnderlying42 rfl Tryd.sizeOf2 (by decide) rfl rfl) ?_
    refine t_yes rfl rfl hg2 ?_
    refine t_q (q_load1 Tryd.isAgg2 rfl (hS.cell (by repeat first | exact .here _ _ | assumption | apply Pick.there) rfl)) ?_
    refine t_yes rfl rfl hg2 ?_
    refine t_q (q_fieldAddr 2 Tryd.runUnderlying42 rfl Tryd.sizeOf2 (by decide) rfl rfl) ?_
    refine t_yes rfl rfl hg2 ?_
    refine t_q (q_load1 Tryd.isAgg2 rfl (hS.cell (by repeat first | exact .here _ _ | assumption | apply Pick.there) rfl)) ?_
    refine t_yes rfl rfl hg2 ?_
    refine t_q (q_neq rfl rfl) ?_
    refine t_q (q_pick_f rfl hg2) ?_
    refine t_q (q_mv (.bool _) rfl) ?_
    refine t_case 17 rfl ?_ ?_
    · intro hg4
      have hg4d := of_decide_eq_true hg4
      refine t_no rfl rfl (by rw [hg4]; decide) ?_
      refine t_no rfl rfl (by rw [hg4]; decide) ?_
      refine t_no rfl rfl (by rw [hg4]; decide) ?_
      refine t_no rfl rfl (by rw [hg4]; decide) ?_
      refine t_no rfl rfl (by rw [hg4]; decide) ?_
      refine t_q (q_pick_t rfl hg4) ?_
      refine t_q (q_mv (.bool _) rfl) ?_
      refine t_no rfl rfl (by decide) ?_
      refine t_no rfl rfl (by decide) ?_
      refine t_no rfl rfl (by decide) ?_
      refine t_no rfl rfl (by decide) ?_
      refine t_no rfl rfl (by decide) ?_
      refine t_q (q_pick_t rfl rfl) ?_
      refine t_nil ?_
      refine c_cond_t rfl rfl ?_
      refine c_seq ?_
      refine c_region ?_
      refine t_q (q_assign) ?_
      refine t_nil ?_
      refine c_ret ?_
      refine r_one rfl rfl ?_
      have hN := hS.nil
      clear hS
      refine ⟨congrArg (fun b => Ending.returned (.bool b)) ?_, hN⟩
      clear hN
      rw [Bool.eq_iff_iff, decide_eq_true_iff (p := x.vw = y.vw), ru_iff]
      clear hx hy
      simp_all [sameTk, sameTr]
    · intro hg4
      have hg4d := of_decide_eq_false hg4
      refine t_yes rfl rfl hg4 ?_
      refine t_q (q_fieldAddr 3 Tryd.runUnderlying42 rfl Tryd.sizeOf2 (by decide) rfl rfl) ?_
      refine t_yes rfl rfl hg4 ?_
      refine t_q (q_load1 Tryd.isAgg2 rfl (hS.cell (by repeat first | exact .here _ _ | assumption | apply Pick.there) rfl)) ?_
      refine t_yes rfl rfl hg4 ?_
      refine t_q (q_fieldAddr 3 Tryd.runUnderlying42 rfl Tryd.sizeOf2 (by decide) rfl rfl) ?_
      refine t_yes rfl rfl hg4 ?_
      refine t_q (q_load1 Tryd.isAgg2 rfl (hS.cell (by repeat first | exact .here _ _ | assumption | apply Pick.there) rfl)) ?_
      refine t_yes rfl rfl hg4 ?_
      refine t_q (q_neq rfl rfl) ?_
      refine t_q (q_pick_f rfl hg4) ?_
      refine t_q (q_mv (.bool _) rfl) ?_
      refine t_case 24 rfl ?_ ?_
      · intro hg6
        have hg6d := of_decide_eq_true hg6
        refine t_no rfl rfl (by rw [hg6]; decide) ?_
        refine t_no rfl rfl (by rw [hg6]; decide) ?_
        refine t_no rfl rfl (by rw [hg6]; decide) ?_
        refine t_no rfl rfl (by rw [hg6]; decide) ?_
        refine t_no rfl rfl (by rw [hg6]; decide) ?_
        refine t_q (q_pick_t rfl hg6) ?_
        refine t_nil ?_
        refine c_cond_t rfl rfl ?_
        refine c_seq ?_
        refine c_region ?_
        refine t_q (q_assign) ?_
        refine t_nil ?_
        refine c_ret ?_
        refine r_one rfl rfl ?_
        have hN := hS.nil
        clear hS
        refine ⟨congrArg (fun b => Ending.returned (.bool b)) ?_, hN⟩
        clear hN
        rw [Bool.eq_iff_iff, decide_eq_true_iff (p := x.vw = y.vw), ru_iff]
        clear hx hy
        simp_all [sameTk, sameTr]
      · intro hg6
        have hg6d := of_decide_eq_false hg6
        refine t_yes rfl rfl hg6 ?_
        refine t_q (q_fieldAddr 5 Tryd.runUnderlying42 rfl Tryd.sizeOf3 (by decide) rfl rfl) ?_
        refine t_yes rfl rfl hg6 ?_
        refine t_q (q_load1 Tryd.isAgg3 rfl (hS.cell (by repeat first | exact .here _ _ | assumption | apply Pick.there) rfl)) ?_
        refine t_yes rfl rfl hg6 ?_
        refine t_q (q_fieldAddr 5 Tryd.runUnderlying42 rfl Tryd.sizeOf3 (by decide) rfl rfl) ?_
        refine t_yes rfl rfl hg6 ?_
        refine t_q (q_load1 Tryd.isAgg3 rfl (hS.cell (by repeat first | exact .here _ _ | assumption | apply Pick.there) rfl)) ?_
        refine t_yes rfl rfl hg6 ?_
        refine t_q (q_neq rfl rfl) ?_
        refine t_q (q_pick_f rfl hg6) ?_
        refine t_nil ?_
        refine c_cond rfl ?_ ?_
        · intro hc8
          have hc8d := of_decide_eq_true hc8
          refine c_seq ?_
          refine c_region ?_
          refine t_q (q_assign) ?_
          refine t_nil ?_
          refine c_ret ?_
          refine r_one rfl rfl ?_
          have hN := hS.nil
          clear hS
          refine ⟨congrArg (fun b => Ending.returned (.bool b)) ?_, hN⟩
          clear hN
          rw [Bool.eq_iff_iff, decide_eq_true_iff (p := x.vw = y.vw), ru_iff]
          clear hx hy
          simp_all [sameTk, sameTr]
        · intro hc8
          have hc8d := of_decide_eq_false hc8
          refine c_skip ?_
          refine c_seq ?_
          refine c_seq ?_
          refine c_region ?_
          refine t_q (q_fieldAddr 6 Tryd.runUnderlying42 rfl Tryd.sizeOf3 (by decide) rfl rfl) ?_
          refine t_q (q_load1 Tryd.isAgg3 rfl (hS.cell (by repeat first | exact .here _ _ | assumption | apply Pick.there) rfl)) ?_
          refine t_q (q_fieldAddr 6 Tryd.runUnderlying42 rfl Tryd.sizeOf3 (by decide) rfl rfl) ?_
          refine t_q (q_load1 Tryd.isAgg3 rfl (hS.cell (by repeat first | exact .here _ _ | assumption | apply Pick.there) rfl)) ?_
          refine t_q (q_neq rfl rfl) ?_
          refine t_q (q_mv (.bool _) rfl) ?_
          refine t_case 36 rfl ?_ ?_
          · intro hg10
            have hg10d := of_decide_eq_true hg10
            refine t_no rfl rfl (by rw [hg10]; decide) ?_
            refine t_no rfl rfl (by rw [hg10]; decide) ?_
            refine t_no rfl rfl (by rw [hg10]; decide) ?_
            refine t_no rfl rfl (by rw [hg10]; decide) ?_
            refine t_no rfl rfl (by rw [hg10]; decide) ?_
            refine t_q (q_pick_t rfl hg10) ?_
            refine t_q (q_mv (.bool _) rfl) ?_
            refine t_no rfl rfl (by decide) ?_
            refine t_no rfl rfl (by decide) ?_
            refine t_no rfl rfl (by decide) ?_
            refine t_no rfl rfl (by decide) ?_
            refine t_no rfl rfl (by decide) ?_
            refine t_q (q_pick_t rfl rfl) ?_
            refine t_nil ?_
            refine c_cond_t rfl rfl ?_
            refine c_seq ?_
            refine c_region ?_
            refine t_q (q_assign) ?_
            refine t_nil ?_
            refine c_ret ?_
            refine r_one rfl rfl ?_
            have hN := hS.nil
            clear hS
            refine ⟨congrArg (fun b => Ending.returned (.bool b)) ?_, hN⟩
            clear hN
            rw [Bool.eq_iff_iff, decide_eq_true_iff (p := x.vw = y.vw), ru_iff]
            clear hx hy
            simp_all [sameTk, sameTr]
          · intro hg10
            have hg10d := of_decide_eq_false hg10
            refine t_yes rfl rfl hg10 ?_
            refine t_q (q_fieldAddr 7 Tryd.runUnderlying42 rfl Tryd.sizeOf3 (by decide) rfl rfl) ?_
            refine t_yes rfl rfl hg10 ?_
            refine t_q (q_load1 Tryd.isAgg3 rfl (hS.cell (by repeat first | exact .here _ _ | assumption | apply Pick.there) rfl)) ?_
            refine t_yes rfl rfl hg10 ?_
            refine t_q (q_fieldAddr 7 Tryd.runUnderlying42 rfl Tryd.sizeOf3 (by decide) rfl rfl) ?_
            refine t_yes rfl rfl hg10 ?_
            refine t_q (q_load1 Tryd.isAgg3 rfl (hS.cell (by repeat first | exact .here _ _ | assumption | apply Pick.there) rfl)) ?_
            refine t_yes rfl rfl hg10 ?_
            refine t_q (q_neq rfl rfl) ?_
            refine t_q (q_pick_f rfl hg10) ?_
            refine t_q (q_mv (.bool _) rfl) ?_
            refine t_case 43 rfl ?_ ?_
            · intro hg12
              have hg12d := of_decide_eq_true hg12
              refine t_no rfl rfl (by rw [hg12]; decide) ?_
              refine t_no rfl rfl (by rw [hg12]; decide) ?_
              refine t_no rfl rfl (by rw [hg12]; decide) ?_
              refine t_no rfl rfl (by rw [hg12]; decide) ?_
              refine t_no rfl rfl (by rw [hg12]; decide) ?_
              refine t_q (q_pick_t rfl hg12) ?_
              refine t_nil ?_
              refine c_cond_t rfl rfl ?_
              refine c_seq ?_
              refine c_region ?_
              refine t_q (q_assign) ?_
              refine t_nil ?_
              refine c_ret ?_
              refine r_one rfl rfl ?_
              have hN := hS.nil
              clear hS
              refine ⟨congrArg (fun b => Ending.returned (.bool b)) ?_, hN⟩
              clear hN
              rw [Bool.eq_iff_iff, decide_eq_true_iff (p := x.vw = y.vw), ru_iff]
              clear hx hy
              simp_all [sameTk, sameTr]
            · intro hg12
              have hg12d := of_decide_eq_false hg12
              refine t_yes rfl rfl hg12 ?_
              refine t_q (q_fieldAddr 8 Tryd.runUnderlying42 rfl Tryd.sizeOf3 (by decide) rfl rfl) ?_
              refine t_yes rfl rfl hg12 ?_
              refine t_q (q_load1 Tryd.isAgg3 rfl (hS.cell (by repeat first | exact .here _ _ | assumption | apply Pick.there) rfl)) ?_
              refine t_yes rfl rfl hg12 ?_
              refine t_q (q_fieldAddr 8 Tryd.runUnderlying42 rfl Tryd.sizeOf3 (by decide) rfl rfl) ?_
              refine t_yes rfl rfl hg12 ?_
              refine t_q (q_load1 Tryd.isAgg3 rfl (hS.cell (by repeat first | exact .here _ _ | assumption | apply Pick.there) rfl)) ?_
              refine t_yes rfl rfl hg12 ?_
              refine t_q (q_neq rfl rfl) ?_
              refine t_q (q_pick_f rfl hg12) ?_
              refine t_nil ?_
              refine c_cond rfl ?_ ?_
              · intro hc14
                have hc14d := of_decide_eq_true hc14
                refine c_seq ?_
                refine c_region ?_
                refine t_q (q_assign) ?_
                refine t_nil ?_
                refine c_ret ?_
                refine r_one rfl rfl ?_
                have hN := hS.nil
                clear hS
                refine ⟨congrArg (fun b => Ending.returned (.bool b)) ?_, hN⟩
                clear hN
                rw [Bool.eq_iff_iff, decide_eq_true_iff (p := x.vw = y.vw), ru_iff]
                clear hx hy
                simp_all [sameTk, sameTr]
              · intro hc14
                have hc14d := of_decide_eq_false hc14
                refine c_skip ?_
                refine c_seq ?_
                refine c_region ?_
                refine t_q (q_fieldAddr 1 Tryd.runUnderlying42 rfl Tryd.sizeOf39 (by decide) rfl rfl) ?_
                refine t_q (q_load1 Tryd.isAgg39 rfl (hS.cell (by repeat first | exact .here _ _ | assumption | apply Pick.there) rfl)) ?_
                refine t_q (q_fieldAddr 1 Tryd.runUnderlying42 rfl Tryd.sizeOf39 (by decide) rfl rfl) ?_
                refine t_q (q_load1 Tryd.isAgg39 rfl (hS.cell (by repeat first | exact .here _ _ | assumption | apply Pick.there) rfl)) ?_
                refine t_call Tryd.call63 (eqt_calls (a := x.ticks.l) (b := y.ticks.l) (hx.trd.st hS) (hy.trd.st hS) hx.tin hy.tin hx.tle hy.tle) rfl ?_
                rintro e w ⟨rfl, hT⟩
                refine ⟨_, rfl, ?_⟩
                replace hS := hS.after hT
                refine t_q (q_mv (.bool _) rfl) ?_
                refine t_case 55 rfl ?_ ?_
                · intro hg16
                  refine t_yes rfl rfl hg16 ?_
                  refine t_q (q_fieldAddr 4 Tryd.runUnderlying42 rfl Tryd.sizeOf40 (by decide) rfl rfl) ?_
                  refine t_yes rfl rfl hg16 ?_
                  refine t_q (q_load1 Tryd.isAgg40 rfl (hS.cell (by repeat first | exact .here _ _ | assumption | apply Pick.there) rfl)) ?_
                  refine t_yes rfl rfl hg16 ?_
                  refine t_q (q_fieldAddr 4 Tryd.runUnderlying42 rfl Tryd.sizeOf40 (by decide) rfl rfl) ?_
                  refine t_yes rfl rfl hg16 ?_
                  refine t_q (q_load1 Tryd.isAgg40 rfl (hS.cell (by repeat first | exact .here _ _ | assumption | apply Pick.there) rfl)) ?_
                  refine t_yes rfl rfl hg16 ?_
                  refine t_call Tryd.call64 (eqr_calls (a := x.fees.l) (b := y.fees.l) (hx.frd.st hS) (hy.frd.st hS) hx.fin hy.fin hx.fle hy.fle) rfl ?_
                  rintro e w ⟨rfl, hT⟩
                  refine ⟨_, rfl, ?_⟩
                  replace hS := hS.after hT
                  refine t_q (q_pick_t rfl hg16) ?_
                  refine t_q (q_as (.bool _) rfl) ?_
                  refine t_nil ?_
                  refine c_ret ?_
                  refine r_one rfl rfl ?_
                  have hN := hS.nil
                  clear hS
                  refine ⟨congrArg (fun b => Ending.returned (.bool b)) ?_, hN⟩
                  clear hN
                  rw [Bool.eq_iff_iff, decide_eq_true_iff (p := x.vw = y.vw), ru_iff]
                  clear hx hy
                  simp_all [sameTk, sameTr]
                · intro hg16
                  refine t_no rfl rfl (by rw [hg16]; decide) ?_
                  refine t_no rfl rfl (by rw [hg16]; decide) ?_
                  refine t_no rfl rfl (by rw [hg16]; decide) ?_
                  refine t_no rfl rfl (by rw [hg16]; decide) ?_
                  refine t_no rfl rfl (by rw [hg16]; decide) ?_
                  refine t_q (q_pick_f rfl hg16) ?_
                  refine t_q (q_as (.bool _) rfl) ?_
                  refine t_nil ?_
                  refine c_ret ?_
                  refine r_one rfl rfl ?_
                  have hN := hS.nil
                  clear hS
                  refine ⟨congrArg (fun b => Ending.returned (.bool b)) ?_, hN⟩
                  clear hN
                  rw [Bool.eq_iff_iff, decide_eq_true_iff (p := x.vw = y.vw), ru_iff]
                  clear hx hy
                  simp_all [sameTk, sameTr]
set_option maxHeartbeats 2000000 in
set_option maxRecDepth 100000 in
theorem qrsame_calls {x y : RuV} (hx : x.Gd W) (hy : y.Gd W) : Calls Tryd.prog 30 #[.agg x.cells.toArray, .agg y.cells.toArray] W fun e w' => e = .returned (.bool (decide (x.vw = y.vw))) ∧ St W w' [] := by
  have hS := St.init W
  have hle1 := hx.tle
  have hle2 := hx.fle
  have hle3 := hy.tle
  have hle4 := hy.fle
  refine calls_of_wpE (args := [_, _]) Tryd.func30 rfl rfl rfl ?_
  refine c_seq ?_
  refine c_region ?_
  refine t_box (v := (.agg _)) rfl rfl hS (fun g2 w hS => ?_)
  replace hS := hS.recast (show _ = blkA g2 42 [.int .i64 x.version, .slice x.ticks.A x.ticks.l.length x.ticks.c, .int .i64 x.lot, .int .i64 x.band, .slice x.fees.A x.fees.l.length x.fees.c, .int .i64 x.round, .int .i64 x.priority, .int .i64 x.self, .int .i64 x.layout] from rfl)
  refine t_box (v := (.agg _)) rfl rfl hS (fun g3 w hS => ?_)
  replace hS := hS.recast (show _ = blkA g3 42 [.int .i64 y.version, .slice y.ticks.A y.ticks.l.length y.ticks.c, .int .i64 y.lot, .int .i64 y.band, .slice y.fees.A y.fees.l.length y.fees.c, .int .i64 y.round, .int .i64 y.priority, .int .i64 y.self, .int .i64 y.layout] from rfl)
  refine t_q (q_assign) ?_
  refine t_nil ?_
  refine c_seq ?_
  refine c_seq ?_
  refine c_region ?_
  refine t_q (q_fieldAddr 1 Tryd.runUnderlying42 rfl Tryd.sizeOf39 (by decide) rfl rfl) ?_
  refine t_q (q_load1 Tryd.isAgg39 rfl (hS.cell (by repeat first | exact .here _ _ | assumption | apply Pick.there) rfl)) ?_
  refine t_q (q_len_slice Tryd.runUnderlying39 rfl) ?_
  refine t_q (q_fieldAddr 1 Tryd.runUnderlying42 rfl Tryd.sizeOf39 (by decide) rfl rfl) ?_
  refine t_q (q_load1 Tryd.isAgg39 rfl (hS.cell (by repeat first | exact .here _ _ | assumption | apply Pick.there) rfl)) ?_
  refine t_q (q_len_slice Tryd.runUnderlying39 rfl) ?_
  refine t_q (q_neq rfl rfl) ?_
  refine t_q (q_mv (.bool _) rfl) ?_
  refine t_case 14 rfl ?_ ?_
  · intro hg2
    have hg2d := of_decide_eq_true hg2
    refine t_no rfl rfl (by rw [hg2]; decide) ?_
    refine t_no rfl rfl (by rw [hg2]; decide) ?_
    refine t_no rfl rfl (by rw [hg2]; decide) ?_
    refine t_no rfl rfl (by rw [hg2]; decide) ?_
    refine t_no rfl rfl (by rw [hg2]; decide) ?_
    refine t_no rfl rfl (by rw [hg2]; decide) ?_
    refine t_no rfl rfl (by rw [hg2]; decide) ?_
    refine t_q (q_pick_t rfl hg2) ?_
    refine t_nil ?_
    refine c_cond_t rfl rfl ?_
    have hD : ¬ x.vw = y.vw := fun h => by
      have h1 := congrArg List.length (ru_iff.1 h).2.1
      have h2 := congrArg List.length (ru_iff.1 h).2.2.2.2.1
      rw [List.length_map, List.length_map] at h1 h2
      omega
    refine c_seq ?_
    refine c_region ?_
    refine t_q (q_assign) ?_
    refine t_nil ?_
    refine c_ret ?_
    refine r_one rfl rfl ?_
    have hN := hS.nil
    clear hS
    refine ⟨congrArg (fun b => Ending.returned (.bool b)) ?_, hN⟩
    clear hN
    first
      | exact (decide_eq_false hD).symm
      | (rw [Bool.eq_iff_iff, decide_eq_true_iff (p := x.vw = y.vw), ru_iff]
         clear hx hy
         simp_all)
  · intro hg2
    have hg2d := of_decide_eq_false hg2
    refine t_yes rfl rfl hg2 ?_
    refine t_q (q_fieldAddr 4 Tryd.runUnderlying42 rfl Tryd.sizeOf40 (by decide) rfl rfl) ?_
    refine t_yes rfl rfl hg2 ?_
    refine t_q (q_load1 Tryd.isAgg40 rfl (hS.cell (by repeat first | exact .here _ _ | assumption | apply Pick.there) rfl)) ?_
    refine t_yes rfl rfl hg2 ?_
    refine t_q (q_len_slice Tryd.runUnderlying40 rfl) ?_
    refine t_yes rfl rfl hg2 ?_
    refine t_q (q_fieldAddr 4 Tryd.runUnderlying42 rfl Tryd.sizeOf40 (by decide) rfl rfl) ?_
    refine t_yes rfl rfl hg2 ?_
    refine t_q (q_load1 Tryd.isAgg40 rfl (hS.cell (by repeat first | exact .here _ _ | assumption | apply Pick.there) rfl)) ?_
    refine t_yes rfl rfl hg2 ?_
    refine t_q (q_len_slice Tryd.runUnderlying40 rfl) ?_
    refine t_yes rfl rfl hg2 ?_
    refine t_q (q_neq rfl rfl) ?_
    refine t_q (q_pick_f rfl hg2) ?_
    refine t_nil ?_
    refine c_cond rfl ?_ ?_
    · intro hc4
      have hc4d := of_decide_eq_true hc4
      have hD : ¬ x.vw = y.vw := fun h => by
        have h1 := congrArg List.length (ru_iff.1 h).2.1
        have h2 := congrArg List.length (ru_iff.1 h).2.2.2.2.1
        rw [List.length_map, List.length_map] at h1 h2
        omega
      refine c_seq ?_
      refine c_region ?_
      refine t_q (q_assign) ?_
      refine t_nil ?_
      refine c_ret ?_
      refine r_one rfl rfl ?_
      have hN := hS.nil
      clear hS
      refine ⟨congrArg (fun b => Ending.returned (.bool b)) ?_, hN⟩
      clear hN
      first
        | exact (decide_eq_false hD).symm
        | (rw [Bool.eq_iff_iff, decide_eq_true_iff (p := x.vw = y.vw), ru_iff]
           clear hx hy
           simp_all)
    · intro hc4
      have hc4d := of_decide_eq_false hc4
      refine c_skip ?_
      refine c_seq ?_
      refine c_seq ?_
      refine c_region ?_
      refine t_q (q_assign) ?_
      refine t_nil ?_
      refine c_block ?_
      refine c_loop [4, 5, 23, 24, 25, 26, 27, 28, 29, 30, 31, 32, 33, 34, 35, 36, 37, 38, 39, 40] (fun k σ w => ∃ j : Nat, σ 5 = .int .i64 (j : Int) ∧ j ≤ x.ticks.l.length ∧ x.ticks.l.length - j ≤ k ∧ (∀ i, i < j → (x.ticks.l.getD i default).ints = (y.ticks.l.getD i default).ints) ∧ St W w [blkA g2 42 [.int .i64 x.version, .slice x.ticks.A x.ticks.l.length x.ticks.c, .int .i64 x.lot, .int .i64 x.band, .slice x.fees.A x.fees.l.length x.fees.c, .int .i64 x.round, .int .i64 x.priority, .int .i64 x.self, .int .i64 x.layout], blkA g3 42 [.int .i64 y.version, .slice y.ticks.A y.ticks.l.length y.ticks.c, .int .i64 y.lot, .int .i64 y.band, .slice y.fees.A y.fees.l.length y.fees.c, .int .i64 y.round, .int .i64 y.priority, .int .i64 y.self, .int .i64 y.layout]]) (x.ticks.l.length) rfl (⟨0, rfl, by omega, by omega, (fun i h => absurd h (by omega)), (((hS.pick (A := blkA g3 42 [.int .i64 y.version, .slice y.ticks.A y.ticks.l.length y.ticks.c, .int .i64 y.lot, .int .i64 y.band, .slice y.fees.A y.fees.l.length y.fees.c, .int .i64 y.round, .int .i64 y.priority, .int .i64 y.self, .int .i64 y.layout]) (by repeat first | exact .here _ _ | assumption | apply Pick.there)).pick (A := blkA g2 42 [.int .i64 x.version, .slice x.ticks.A x.ticks.l.length x.ticks.c, .int .i64 x.lot, .int .i64 x.band, .slice x.fees.A x.fees.l.length x.fees.c, .int .i64 x.round, .int .i64 x.priority, .int .i64 x.self, .int .i64 x.layout]) (by repeat first | exact .here _ _ | assumption | apply Pick.there))).front2⟩) ?_
      skip
      rintro k σ w ⟨j, hj0, hj, hk, hall, hS⟩
      refine c_know 5 hj0 ?_
      clear hj0
      refine c_seq ?_
      refine c_seq ?_
      refine c_region ?_
      refine t_q (q_mv (.int _ _) rfl) ?_
      refine t_q (q_fieldAddr 1 Tryd.runUnderlying42 rfl Tryd.sizeOf39 (by decide) rfl rfl) ?_
      refine t_q (q_load1 Tryd.isAgg39 rfl (hS.cell (by repeat first | exact .here _ _ | assumption | apply Pick.there) rfl)) ?_
      refine t_q (q_len_slice Tryd.runUnderlying39 rfl) ?_
      refine t_q (q_lss rfl rfl) ?_
      refine t_nil ?_
      refine c_cond rfl ?_ ?_
      · intro hc6
        have hc6d := of_decide_eq_true hc6
        refine c_skip ?_
        refine c_seq ?_
        refine c_block ?_
        refine c_seq ?_
        refine c_draw ?_
        refine d_quiet 11 [0, 1, 2, 3, 4, 5, 6, 7, 8, 9, 10] [0, 1, 2, 3, 4, 5, 6, 7, 8, 9, 10] hS rfl (by kernel_rfl) (by kernel_rfl) (by kernel_rfl) (by kernel_rfl) (fun hap hsel w hS => ?_)
        refine p_q hap hsel 0 rfl rfl hS (fun w hS => q_fieldAddr 1 Tryd.runUnderlying42 rfl Tryd.sizeOf39 (by decide) rfl rfl) ?_
        refine p_q hap hsel 1 rfl rfl hS (fun w hS => q_load1 Tryd.isAgg39 rfl (hS.cell (by repeat first | exact .here _ _ | assumption | apply Pick.there) rfl)) ?_
        refine p_q hap hsel 2 rfl rfl hS (fun w hS => q_mv (.int _ _) rfl) ?_
        refine p_index hap hsel 3 rfl rfl hS Tryd.runUnderlying39 Tryd.sizeOf54 (fun w hS => hx.trd.st hS) rfl rfl (by omega) (fun ad7 hl7 hx7 => ?_)
        refine p_q hap hsel 4 rfl rfl hS (fun w hS => q_loadN Tryd.isAgg54 Tryd.sizeOf54 rfl hl7 (hx7 w hS)) ?_
        refine p_q hap hsel 5 rfl rfl hS (fun w hS => q_fieldAddr 1 Tryd.runUnderlying42 rfl Tryd.sizeOf39 (by decide) rfl rfl) ?_
        refine p_q hap hsel 6 rfl rfl hS (fun w hS => q_load1 Tryd.isAgg39 rfl (hS.cell (by repeat first | exact .here _ _ | assumption | apply Pick.there) rfl)) ?_
        refine p_q hap hsel 7 rfl rfl hS (fun w hS => q_mv (.int _ _) rfl) ?_
        refine p_index hap hsel 8 rfl rfl hS Tryd.runUnderlying39 Tryd.sizeOf54 (fun w hS => hy.trd.st hS) rfl rfl (by omega) (fun ad8 hl8 hx8 => ?_)
        refine p_q hap hsel 9 rfl rfl hS (fun w hS => q_loadN Tryd.isAgg54 Tryd.sizeOf54 rfl hl8 (hx8 w hS)) ?_
        refine p_q hap hsel 10 rfl rfl hS (fun w hS => q_neq_tk (e := x.ticks.l.getD j default) (q := y.ticks.l.getD j default) rfl rfl (tk_in hx.tin (by omega)) (tk_in hy.tin (by omega))) ?_
        refine p_end (by kernel_rfl) ?_
        refine c_cond rfl ?_ ?_
        · intro hc9
          have hD : ¬ x.vw = y.vw := fun h => by
            have hn : (x.ticks.l.getD j default).ints ≠ (y.ticks.l.getD j default).ints := by simpa using hc9
            have hs := sameTk_at (a := x.ticks.l) (b := y.ticks.l) (j := j) (by omega) (by omega) hn
            have he := (ru_iff.1 h).2.1
            rw [show sameTk x.ticks.l y.ticks.l = true from decide_eq_true he] at hs
            cases hs
          refine c_seq ?_
          refine c_region ?_
          refine t_q (q_assign) ?_
          refine t_nil ?_
          refine c_ret ?_
          refine r_one rfl rfl ?_
          have hN := hS.nil
          clear hS
          refine ⟨congrArg (fun b => Ending.returned (.bool b)) ?_, hN⟩
          clear hN
          first
            | exact (decide_eq_false hD).symm
            | (rw [Bool.eq_iff_iff, decide_eq_true_iff (p := x.vw = y.vw), ru_iff]
               clear hx hy
               simp_all)
        · intro hc9
          have hyes : (x.ticks.l.getD j default).ints = (y.ticks.l.getD j default).ints := by simpa using hc9
          refine c_skip ?_
          refine c_region ?_
          refine t_q (q_mv (.int _ _) rfl) ?_
          refine t_q (q_add_i64 rfl rfl (by omega)) ?_
          refine t_q (q_as (.int _ _) rfl) ?_
          refine t_nil ?_
          exact ⟨k - 1, by omega, j + 1, rfl, by omega, by omega, (fun i hi => by
            rcases Nat.lt_or_ge i j with h | h
            · exact hall i h
            · obtain rfl : i = j := by omega
              exact hyes), (((hS.pick (A := blkA g3 42 [.int .i64 y.version, .slice y.ticks.A y.ticks.l.length y.ticks.c, .int .i64 y.lot, .int .i64 y.band, .slice y.fees.A y.fees.l.length y.fees.c, .int .i64 y.round, .int .i64 y.priority, .int .i64 y.self, .int .i64 y.layout]) (by repeat first | exact .here _ _ | assumption | apply Pick.there)).pick (A := blkA g2 42 [.int .i64 x.version, .slice x.ticks.A x.ticks.l.length x.ticks.c, .int .i64 x.lot, .int .i64 x.band, .slice x.fees.A x.fees.l.length x.fees.c, .int .i64 x.round, .int .i64 x.priority, .int .i64 x.self, .int .i64 x.layout]) (by repeat first | exact .here _ _ | assumption | apply Pick.there))).front2⟩
      · intro hc6
        have hc6d := of_decide_eq_false hc6
        obtain rfl : j = x.ticks.l.length := by omega
        have hT1 : x.ticks.l.map Tk.ints = y.ticks.l.map Tk.ints := of_decide_eq_true (sameTk_all (by omega) hall)
        clear hall
        refine c_exit ?_
        refine ite_t rfl ?_
        refine c_seq ?_
        refine c_seq ?_
        refine c_region ?_
        refine t_q (q_assign) ?_
        refine t_nil ?_
        refine c_block ?_
        refine c_loop [4, 6, 41, 42, 43, 44, 45, 46, 47, 48, 49, 50, 51, 52, 53, 54, 55, 56, 57, 58] (fun k σ w => ∃ j : Nat, σ 6 = .int .i64 (j : Int) ∧ j ≤ x.fees.l.length ∧ x.fees.l.length - j ≤ k ∧ (∀ i, i < j → (x.fees.l.getD i default).ints = (y.fees.l.getD i default).ints) ∧ St W w [blkA g2 42 [.int .i64 x.version, .slice x.ticks.A x.ticks.l.length x.ticks.c, .int .i64 x.lot, .int .i64 x.band, .slice x.fees.A x.fees.l.length x.fees.c, .int .i64 x.round, .int .i64 x.priority, .int .i64 x.self, .int .i64 x.layout], blkA g3 42 [.int .i64 y.version, .slice y.ticks.A y.ticks.l.length y.ticks.c, .int .i64 y.lot, .int .i64 y.band, .slice y.fees.A y.fees.l.length y.fees.c, .int .i64 y.round, .int .i64 y.priority, .int .i64 y.self, .int .i64 y.layout]]) (x.fees.l.length) rfl (⟨0, rfl, by omega, by omega, (fun i h => absurd h (by omega)), (((hS.pick (A := blkA g3 42 [.int .i64 y.version, .slice y.ticks.A y.ticks.l.length y.ticks.c, .int .i64 y.lot, .int .i64 y.band, .slice y.fees.A y.fees.l.length y.fees.c, .int .i64 y.round, .int .i64 y.priority, .int .i64 y.self, .int .i64 y.layout]) (by repeat first | exact .here _ _ | assumption | apply Pick.there)).pick (A := blkA g2 42 [.int .i64 x.version, .slice x.ticks.A x.ticks.l.length x.ticks.c, .int .i64 x.lot, .int .i64 x.band, .slice x.fees.A x.fees.l.length x.fees.c, .int .i64 x.round, .int .i64 x.priority, .int .i64 x.self, .int .i64 x.layout]) (by repeat first | exact .here _ _ | assumption | apply Pick.there))).front2⟩) ?_
        skip
        rintro k σ w ⟨j, hj0, hj, hk, hall, hS⟩
        refine c_know 6 hj0 ?_
        clear hj0
        refine c_seq ?_
        refine c_seq ?_
        refine c_region ?_
        refine t_q (q_mv (.int _ _) rfl) ?_
        refine t_q (q_fieldAddr 4 Tryd.runUnderlying42 rfl Tryd.sizeOf40 (by decide) rfl rfl) ?_
        refine t_q (q_load1 Tryd.isAgg40 rfl (hS.cell (by repeat first | exact .here _ _ | assumption | apply Pick.there) rfl)) ?_
        refine t_q (q_len_slice Tryd.runUnderlying40 rfl) ?_
        refine t_q (q_lss rfl rfl) ?_
        refine t_nil ?_
        refine c_cond rfl ?_ ?_
        · intro hc11
          have hc11d := of_decide_eq_true hc11
          refine c_skip ?_
          refine c_seq ?_
          refine c_block ?_
          refine c_seq ?_
          refine c_draw ?_
          refine d_quiet 11 [0, 1, 2, 3, 4, 5, 6, 7, 8, 9, 10] [0, 1, 2, 3, 4, 5, 6, 7, 8, 9, 10] hS rfl (by kernel_rfl) (by kernel_rfl) (by kernel_rfl) (by kernel_rfl) (fun hap hsel w hS => ?_)
          refine p_q hap hsel 0 rfl rfl hS (fun w hS => q_fieldAddr 4 Tryd.runUnderlying42 rfl Tryd.sizeOf40 (by decide) rfl rfl) ?_
          refine p_q hap hsel 1 rfl rfl hS (fun w hS => q_load1 Tryd.isAgg40 rfl (hS.cell (by repeat first | exact .here _ _ | assumption | apply Pick.there) rfl)) ?_
          refine p_q hap hsel 2 rfl rfl hS (fun w hS => q_mv (.int _ _) rfl) ?_
          refine p_index hap hsel 3 rfl rfl hS Tryd.runUnderlying40 Tryd.sizeOf56 (fun w hS => hx.frd.st hS) rfl rfl (by omega) (fun ad12 hl12 hx12 => ?_)
          refine p_q hap hsel 4 rfl rfl hS (fun w hS => q_loadN Tryd.isAgg56 Tryd.sizeOf56 rfl hl12 (hx12 w hS)) ?_
          refine p_q hap hsel 5 rfl rfl hS (fun w hS => q_fieldAddr 4 Tryd.runUnderlying42 rfl Tryd.sizeOf40 (by decide) rfl rfl) ?_
          refine p_q hap hsel 6 rfl rfl hS (fun w hS => q_load1 Tryd.isAgg40 rfl (hS.cell (by repeat first | exact .here _ _ | assumption | apply Pick.there) rfl)) ?_
          refine p_q hap hsel 7 rfl rfl hS (fun w hS => q_mv (.int _ _) rfl) ?_
          refine p_index hap hsel 8 rfl rfl hS Tryd.runUnderlying40 Tryd.sizeOf56 (fun w hS => hy.frd.st hS) rfl rfl (by omega) (fun ad13 hl13 hx13 => ?_)
          refine p_q hap hsel 9 rfl rfl hS (fun w hS => q_loadN Tryd.isAgg56 Tryd.sizeOf56 rfl hl13 (hx13 w hS)) ?_
          refine p_q hap hsel 10 rfl rfl hS (fun w hS => q_neq_tr (e := x.fees.l.getD j default) (q := y.fees.l.getD j default) rfl rfl (tr_in hx.fin (by omega)) (tr_in hy.fin (by omega))) ?_
          refine p_end (by kernel_rfl) ?_
          refine c_cond rfl ?_ ?_
          · intro hc14
            have hD : ¬ x.vw = y.vw := fun h => by
              have hn : (x.fees.l.getD j default).ints ≠ (y.fees.l.getD j default).ints := by simpa using hc14
              have hs := sameTr_at (a := x.fees.l) (b := y.fees.l) (j := j) (by omega) (by omega) hn
              have he := (ru_iff.1 h).2.2.2.2.1
              rw [show sameTr x.fees.l y.fees.l = true from decide_eq_true he] at hs
              cases hs
            refine c_seq ?_
            refine c_region ?_
            refine t_q (q_assign) ?_
            refine t_nil ?_
            refine c_ret ?_
            refine r_one rfl rfl ?_
            have hN := hS.nil
            clear hS
            refine ⟨congrArg (fun b => Ending.returned (.bool b)) ?_, hN⟩
            clear hN
            first
              | exact (decide_eq_false hD).symm
              | (rw [Bool.eq_iff_iff, decide_eq_true_iff (p := x.vw = y.vw), ru_iff]
                 clear hx hy
                 simp_all)
          · intro hc14
            have hyes : (x.fees.l.getD j default).ints = (y.fees.l.getD j default).ints := by simpa using hc14
            refine c_skip ?_
            refine c_region ?_
            refine t_q (q_mv (.int _ _) rfl) ?_
            refine t_q (q_add_i64 rfl rfl (by omega)) ?_
            refine t_q (q_as (.int _ _) rfl) ?_
            refine t_nil ?_
            exact ⟨k - 1, by omega, j + 1, rfl, by omega, by omega, (fun i hi => by
              rcases Nat.lt_or_ge i j with h | h
              · exact hall i h
              · obtain rfl : i = j := by omega
                exact hyes), (((hS.pick (A := blkA g3 42 [.int .i64 y.version, .slice y.ticks.A y.ticks.l.length y.ticks.c, .int .i64 y.lot, .int .i64 y.band, .slice y.fees.A y.fees.l.length y.fees.c, .int .i64 y.round, .int .i64 y.priority, .int .i64 y.self, .int .i64 y.layout]) (by repeat first | exact .here _ _ | assumption | apply Pick.there)).pick (A := blkA g2 42 [.int .i64 x.version, .slice x.ticks.A x.ticks.l.length x.ticks.c, .int .i64 x.lot, .int .i64 x.band, .slice x.fees.A x.fees.l.length x.fees.c, .int .i64 x.round, .int .i64 x.priority, .int .i64 x.self, .int .i64 x.layout]) (by repeat first | exact .here _ _ | assumption | apply Pick.there))).front2⟩
        · intro hc11
          have hc11d := of_decide_eq_false hc11
          obtain rfl : j = x.fees.l.length := by omega
          have hT2 : x.fees.l.map Tr.ints = y.fees.l.map Tr.ints := of_decide_eq_true (sameTr_all (by omega) hall)
          clear hall
          refine c_exit ?_
          refine ite_t rfl ?_
          refine c_seq ?_
          refine c_region ?_
          refine t_q (q_fieldAddr 0 Tryd.runUnderlying42 rfl Tryd.sizeOf3 (by decide) rfl rfl) ?_
          refine t_q (q_load1 Tryd.isAgg3 rfl (hS.cell (by repeat first | exact .here _ _ | assumption | apply Pick.there) rfl)) ?_
          refine t_q (q_fieldAddr 0 Tryd.runUnderlying42 rfl Tryd.sizeOf3 (by decide) rfl rfl) ?_
          refine t_q (q_load1 Tryd.isAgg3 rfl (hS.cell (by repeat first | exact .here _ _ | assumption | apply Pick.there) rfl)) ?_
          refine t_q (q_eql rfl rfl) ?_
          refine t_q (q_mv (.bool _) rfl) ?_
          refine t_case 64 rfl ?_ ?_
          · intro hg16
            have hg16d := of_decide_eq_true hg16
            refine t_yes rfl rfl hg16 ?_
            refine t_q (q_fieldAddr 2 Tryd.runUnderlying42 rfl Tryd.sizeOf2 (by decide) rfl rfl) ?_
            refine t_yes rfl rfl hg16 ?_
            refine t_q (q_load1 Tryd.isAgg2 rfl (hS.cell (by repeat first | exact .here _ _ | assumption | apply Pick.there) rfl)) ?_
            refine t_yes rfl rfl hg16 ?_
            refine t_q (q_fieldAddr 2 Tryd.runUnderlying42 rfl Tryd.sizeOf2 (by decide) rfl rfl) ?_
            refine t_yes rfl rfl hg16 ?_
            refine t_q (q_load1 Tryd.isAgg2 rfl (hS.cell (by repeat first | exact .here _ _ | assumption | apply Pick.there) rfl)) ?_
            refine t_yes rfl rfl hg16 ?_
            refine t_q (q_eql rfl rfl) ?_
            refine t_q (q_pick_t rfl hg16) ?_
            refine t_q (q_mv (.bool _) rfl) ?_
            refine t_case 71 rfl ?_ ?_
            · intro hg18
              have hg18d := of_decide_eq_true hg18
              refine t_yes rfl rfl hg18 ?_
              refine t_q (q_fieldAddr 3 Tryd.runUnderlying42 rfl Tryd.sizeOf2 (by decide) rfl rfl) ?_
              refine t_yes rfl rfl hg18 ?_
              refine t_q (q_load1 Tryd.isAgg2 rfl (hS.cell (by repeat first | exact .here _ _ | assumption | apply Pick.there) rfl)) ?_
              refine t_yes rfl rfl hg18 ?_
              refine t_q (q_fieldAddr 3 Tryd.runUnderlying42 rfl Tryd.sizeOf2 (by decide) rfl rfl) ?_
              refine t_yes rfl rfl hg18 ?_
              refine t_q (q_load1 Tryd.isAgg2 rfl (hS.cell (by repeat first | exact .here _ _ | assumption | apply Pick.there) rfl)) ?_
              refine t_yes rfl rfl hg18 ?_
              refine t_q (q_eql rfl rfl) ?_
              refine t_q (q_pick_t rfl hg18) ?_
              refine t_q (q_mv (.bool _) rfl) ?_
              refine t_case 78 rfl ?_ ?_
              · intro hg20
                have hg20d := of_decide_eq_true hg20
                refine t_yes rfl rfl hg20 ?_
                refine t_q (q_fieldAddr 5 Tryd.runUnderlying42 rfl Tryd.sizeOf3 (by decide) rfl rfl) ?_
                refine t_yes rfl rfl hg20 ?_
                refine t_q (q_load1 Tryd.isAgg3 rfl (hS.cell (by repeat first | exact .here _ _ | assumption | apply Pick.there) rfl)) ?_
                refine t_yes rfl rfl hg20 ?_
                refine t_q (q_fieldAddr 5 Tryd.runUnderlying42 rfl Tryd.sizeOf3 (by decide) rfl rfl) ?_
                refine t_yes rfl rfl hg20 ?_
                refine t_q (q_load1 Tryd.isAgg3 rfl (hS.cell (by repeat first | exact .here _ _ | assumption | apply Pick.there) rfl)) ?_
                refine t_yes rfl rfl hg20 ?_
                refine t_q (q_eql rfl rfl) ?_
                refine t_q (q_pick_t rfl hg20) ?_
                refine t_q (q_mv (.bool _) rfl) ?_
                refine t_case 85 rfl ?_ ?_
                · intro hg22
                  have hg22d := of_decide_eq_true hg22
                  refine t_yes rfl rfl hg22 ?_
                  refine t_q (q_fieldAddr 6 Tryd.runUnderlying42 rfl Tryd.sizeOf3 (by decide) rfl rfl) ?_
                  refine t_yes rfl rfl hg22 ?_
                  refine t_q (q_load1 Tryd.isAgg3 rfl (hS.cell (by repeat first | exact .here _ _ | assumption | apply Pick.there) rfl)) ?_
                  refine t_yes rfl rfl hg22 ?_
                  refine t_q (q_fieldAddr 6 Tryd.runUnderlying42 rfl Tryd.sizeOf3 (by decide) rfl rfl) ?_
                  refine t_yes rfl rfl hg22 ?_
                  refine t_q (q_load1 Tryd.isAgg3 rfl (hS.cell (by repeat first | exact .here _ _ | assumption | apply Pick.there) rfl)) ?_
                  refine t_yes rfl rfl hg22 ?_
                  refine t_q (q_eql rfl rfl) ?_
                  refine t_q (q_pick_t rfl hg22) ?_
                  refine t_q (q_mv (.bool _) rfl) ?_
                  refine t_case 92 rfl ?_ ?_
                  · intro hg24
                    have hg24d := of_decide_eq_true hg24
                    refine t_yes rfl rfl hg24 ?_
                    refine t_q (q_fieldAddr 7 Tryd.runUnderlying42 rfl Tryd.sizeOf3 (by decide) rfl rfl) ?_
                    refine t_yes rfl rfl hg24 ?_
                    refine t_q (q_load1 Tryd.isAgg3 rfl (hS.cell (by repeat first | exact .here _ _ | assumption | apply Pick.there) rfl)) ?_
                    refine t_yes rfl rfl hg24 ?_
                    refine t_q (q_fieldAddr 7 Tryd.runUnderlying42 rfl Tryd.sizeOf3 (by decide) rfl rfl) ?_
                    refine t_yes rfl rfl hg24 ?_
                    refine t_q (q_load1 Tryd.isAgg3 rfl (hS.cell (by repeat first | exact .here _ _ | assumption | apply Pick.there) rfl)) ?_
                    refine t_yes rfl rfl hg24 ?_
                    refine t_q (q_eql rfl rfl) ?_
                    refine t_q (q_pick_t rfl hg24) ?_
                    refine t_q (q_mv (.bool _) rfl) ?_
                    refine t_case 99 rfl ?_ ?_
                    · intro hg26
                      have hg26d := of_decide_eq_true hg26
                      refine t_yes rfl rfl hg26 ?_
                      refine t_q (q_fieldAddr 8 Tryd.runUnderlying42 rfl Tryd.sizeOf3 (by decide) rfl rfl) ?_
                      refine t_yes rfl rfl hg26 ?_
                      refine t_q (q_load1 Tryd.isAgg3 rfl (hS.cell (by repeat first | exact .here _ _ | assumption | apply Pick.there) rfl)) ?_
                      refine t_yes rfl rfl hg26 ?_
                      refine t_q (q_fieldAddr 8 Tryd.runUnderlying42 rfl Tryd.sizeOf3 (by decide) rfl rfl) ?_
                      refine t_yes rfl rfl hg26 ?_
                      refine t_q (q_load1 Tryd.isAgg3 rfl (hS.cell (by repeat first | exact .here _ _ | assumption | apply Pick.there) rfl)) ?_
                      refine t_yes rfl rfl hg26 ?_
                      refine t_q (q_eql rfl rfl) ?_
                      refine t_q (q_pick_t rfl hg26) ?_
                      refine t_q (q_as (.bool _) rfl) ?_
                      refine t_nil ?_
                      refine c_ret ?_
                      refine r_one rfl rfl ?_
                      have hN := hS.nil
                      clear hS
                      refine ⟨congrArg (fun b => Ending.returned (.bool b)) ?_, hN⟩
                      clear hN
                      first
                        | exact (decide_eq_false hD).symm
                        | (rw [Bool.eq_iff_iff, decide_eq_true_iff (p := x.vw = y.vw), ru_iff]
                           clear hx hy
                           simp_all)
                    · intro hg26
                      have hg26d := of_decide_eq_false hg26
                      refine t_no rfl rfl (by rw [hg26]; decide) ?_
                      refine t_no rfl rfl (by rw [hg26]; decide) ?_
                      refine t_no rfl rfl (by rw [hg26]; decide) ?_
                      refine t_no rfl rfl (by rw [hg26]; decide) ?_
                      refine t_no rfl rfl (by rw [hg26]; decide) ?_
                      refine t_q (q_pick_f rfl hg26) ?_
                      refine t_q (q_as (.bool _) rfl) ?_
                      refine t_nil ?_
                      refine c_ret ?_
                      refine r_one rfl rfl ?_
                      have hN := hS.nil
                      clear hS
                      refine ⟨congrArg (fun b => Ending.returned (.bool b)) ?_, hN⟩
                      clear hN
                      first
                        | exact (decide_eq_false hD).symm
                        | (rw [Bool.eq_iff_iff, decide_eq_true_iff (p := x.vw = y.vw), ru_iff]
                           clear hx hy
                           simp_all)
                  · intro hg24
                    have hg24d := of_decide_eq_false hg24
                    refine t_no rfl rfl (by rw [hg24]; decide) ?_
                    refine t_no rfl rfl (by rw [hg24]; decide) ?_
                    refine t_no rfl rfl (by rw [hg24]; decide) ?_
                    refine t_no rfl rfl (by rw [hg24]; decide) ?_
                    refine t_no rfl rfl (by rw [hg24]; decide) ?_
                    refine t_q (q_pick_f rfl hg24) ?_
                    refine t_q (q_mv (.bool _) rfl) ?_
                    refine t_no rfl rfl (by decide) ?_
                    refine t_no rfl rfl (by decide) ?_
                    refine t_no rfl rfl (by decide) ?_
                    refine t_no rfl rfl (by decide) ?_
                    refine t_no rfl rfl (by decide) ?_
                    refine t_q (q_pick_f rfl rfl) ?_
                    refine t_q (q_as (.bool _) rfl) ?_
                    refine t_nil ?_
                    refine c_ret ?_
                    refine r_one rfl rfl ?_
                    have hN := hS.nil
                    clear hS
                    refine ⟨congrArg (fun b => Ending.returned (.bool b)) ?_, hN⟩
                    clear hN
                    first
                      | exact (decide_eq_false hD).symm
                      | (rw [Bool.eq_iff_iff, decide_eq_true_iff (p := x.vw = y.vw), ru_iff]
                         clear hx hy
                         simp_all)
                · intro hg22
                  have hg22d := of_decide_eq_false hg22
                  refine t_no rfl rfl (by rw [hg22]; decide) ?_
                  refine t_no rfl rfl (by rw [hg22]; decide) ?_
                  refine t_no rfl rfl (by rw [hg22]; decide) ?_
                  refine t_no rfl rfl (by rw [hg22]; decide) ?_
                  refine t_no rfl rfl (by rw [hg22]; decide) ?_
                  refine t_q (q_pick_f rfl hg22) ?_
                  refine t_q (q_mv (.bool _) rfl) ?_
                  refine t_no rfl rfl (by decide) ?_
                  refine t_no rfl rfl (by decide) ?_
                  refine t_no rfl rfl (by decide) ?_
                  refine t_no rfl rfl (by decide) ?_
                  refine t_no rfl rfl (by decide) ?_
                  refine t_q (q_pick_f rfl rfl) ?_
                  refine t_q (q_mv (.bool _) rfl) ?_
                  refine t_no rfl rfl (by decide) ?_
                  refine t_no rfl rfl (by decide) ?_
                  refine t_no rfl rfl (by decide) ?_
                  refine t_no rfl rfl (by decide) ?_
                  refine t_no rfl rfl (by decide) ?_
                  refine t_q (q_pick_f rfl rfl) ?_
                  refine t_q (q_as (.bool _) rfl) ?_
                  refine t_nil ?_
                  refine c_ret ?_
                  refine r_one rfl rfl ?_
                  have hN := hS.nil
                  clear hS
                  refine ⟨congrArg (fun b => Ending.returned (.bool b)) ?_, hN⟩
                  clear hN
                  first
                    | exact (decide_eq_false hD).symm
                    | (rw [Bool.eq_iff_iff, decide_eq_true_iff (p := x.vw = y.vw), ru_iff]
                       clear hx hy
                       simp_all)
              · intro hg20
                have hg20d := of_decide_eq_false hg20
                refine t_no rfl rfl (by rw [hg20]; decide) ?_
                refine t_no rfl rfl (by rw [hg20]; decide) ?_
                refine t_no rfl rfl (by rw [hg20]; decide) ?_
                refine t_no rfl rfl (by rw [hg20]; decide) ?_
                refine t_no rfl rfl (by rw [hg20]; decide) ?_
                refine t_q (q_pick_f rfl hg20) ?_
                refine t_q (q_mv (.bool _) rfl) ?_
                refine t_no rfl rfl (by decide) ?_
                refine t_no rfl rfl (by decide) ?_
                refine t_no rfl rfl (by decide) ?_
                refine t_no rfl rfl (by decide) ?_
                refine t_no rfl rfl (by decide) ?_
                refine t_q (q_pick_f rfl rfl) ?_
                refine t_q (q_mv (.bool _) rfl) ?_
                refine t_no rfl rfl (by decide) ?_
                refine t_no rfl rfl (by decide) ?_
                refine t_no rfl rfl (by decide) ?_
                refine t_no rfl rfl (by decide) ?_
                refine t_no rfl rfl (by decide) ?_
                refine t_q (q_pick_f rfl rfl) ?_
                refine t_q (q_mv (.bool _) rfl) ?_
                refine t_no rfl rfl (by decide) ?_
                refine t_no rfl rfl (by decide) ?_
                refine t_no rfl rfl (by decide) ?_
                refine t_no rfl rfl (by decide) ?_
                refine t_no rfl rfl (by decide) ?_
                refine t_q (q_pick_f rfl rfl) ?_
                refine t_q (q_as (.bool _) rfl) ?_
                refine t_nil ?_
                refine c_ret ?_
                refine r_one rfl rfl ?_
                have hN := hS.nil
                clear hS
                refine ⟨congrArg (fun b => Ending.returned (.bool b)) ?_, hN⟩
                clear hN
                first
                  | exact (decide_eq_false hD).symm
                  | (rw [Bool.eq_iff_iff, decide_eq_true_iff (p := x.vw = y.vw), ru_iff]
                     clear hx hy
                     simp_all)
            · intro hg18
              have hg18d := of_decide_eq_false hg18
              refine t_no rfl rfl (by rw [hg18]; decide) ?_
              refine t_no rfl rfl (by rw [hg18]; decide) ?_
              refine t_no rfl rfl (by rw [hg18]; decide) ?_
              refine t_no rfl rfl (by rw [hg18]; decide) ?_
              refine t_no rfl rfl (by rw [hg18]; decide) ?_
              refine t_q (q_pick_f rfl hg18) ?_
              refine t_q (q_mv (.bool _) rfl) ?_
              refine t_no rfl rfl (by decide) ?_
              refine t_no rfl rfl (by decide) ?_
              refine t_no rfl rfl (by decide) ?_
              refine t_no rfl rfl (by decide) ?_
              refine t_no rfl rfl (by decide) ?_
              refine t_q (q_pick_f rfl rfl) ?_
              refine t_q (q_mv (.bool _) rfl) ?_
              refine t_no rfl rfl (by decide) ?_
              refine t_no rfl rfl (by decide) ?_
              refine t_no rfl rfl (by decide) ?_
              refine t_no rfl rfl (by decide) ?_
              refine t_no rfl rfl (by decide) ?_
              refine t_q (q_pick_f rfl rfl) ?_
              refine t_q (q_mv (.bool _) rfl) ?_
              refine t_no rfl rfl (by decide) ?_
              refine t_no rfl rfl (by decide) ?_
              refine t_no rfl rfl (by decide) ?_
              refine t_no rfl rfl (by decide) ?_
              refine t_no rfl rfl (by decide) ?_
              refine t_q (q_pick_f rfl rfl) ?_
              refine t_q (q_mv (.bool _) rfl) ?_
              refine t_no rfl rfl (by decide) ?_
              refine t_no rfl rfl (by decide) ?_
              refine t_no rfl rfl (by decide) ?_
              refine t_no rfl rfl (by decide) ?_
              refine t_no rfl rfl (by decide) ?_
              refine t_q (q_pick_f rfl rfl) ?_
              refine t_q (q_as (.bool _) rfl) ?_
              refine t_nil ?_
              refine c_ret ?_
              refine r_one rfl rfl ?_
              have hN := hS.nil
              clear hS
              refine ⟨congrArg (fun b => Ending.returned (.bool b)) ?_, hN⟩
              clear hN
              first
                | exact (decide_eq_false hD).symm
                | (rw [Bool.eq_iff_iff, decide_eq_true_iff (p := x.vw = y.vw), ru_iff]
                   clear hx hy
                   simp_all)
          · intro hg16
            have hg16d := of_decide_eq_false hg16
            refine t_no rfl rfl (by rw [hg16]; decide) ?_
            refine t_no rfl rfl (by rw [hg16]; decide) ?_
            refine t_no rfl rfl (by rw [hg16]; decide) ?_
            refine t_no rfl rfl (by rw [hg16]; decide) ?_
            refine t_no rfl rfl (by rw [hg16]; decide) ?_
            refine t_q (q_pick_f rfl hg16) ?_
            refine t_q (q_mv (.bool _) rfl) ?_
            refine t_no rfl rfl (by decide) ?_
            refine t_no rfl rfl (by decide) ?_
            refine t_no rfl rfl (by decide) ?_
            refine t_no rfl rfl (by decide) ?_
            refine t_no rfl rfl (by decide) ?_
            refine t_q (q_pick_f rfl rfl) ?_
            refine t_q (q_mv (.bool _) rfl) ?_
            refine t_no rfl rfl (by decide) ?_
            refine t_no rfl rfl (by decide) ?_
            refine t_no rfl rfl (by decide) ?_
            refine t_no rfl rfl (by decide) ?_
            refine t_no rfl rfl (by decide) ?_
            refine t_q (q_pick_f rfl rfl) ?_
            refine t_q (q_mv (.bool _) rfl) ?_
            refine t_no rfl rfl (by decide) ?_
            refine t_no rfl rfl (by decide) ?_
            refine t_no rfl rfl (by decide) ?_
            refine t_no rfl rfl (by decide) ?_
            refine t_no rfl rfl (by decide) ?_
            refine t_q (q_pick_f rfl rfl) ?_
            refine t_q (q_mv (.bool _) rfl) ?_
            refine t_no rfl rfl (by decide) ?_
            refine t_no rfl rfl (by decide) ?_
            refine t_no rfl rfl (by decide) ?_
            refine t_no rfl rfl (by decide) ?_
            refine t_no rfl rfl (by decide) ?_
            refine t_q (q_pick_f rfl rfl) ?_
            refine t_q (q_mv (.bool _) rfl) ?_
            refine t_no rfl rfl (by decide) ?_
            refine t_no rfl rfl (by decide) ?_
            refine t_no rfl rfl (by decide) ?_
            refine t_no rfl rfl (by decide) ?_
            refine t_no rfl rfl (by decide) ?_
            refine t_q (q_pick_f rfl rfl) ?_
            refine t_q (q_as (.bool _) rfl) ?_
            refine t_nil ?_
            refine c_ret ?_
            refine r_one rfl rfl ?_
            have hN := hS.nil
            clear hS
            refine ⟨congrArg (fun b => Ending.returned (.bool b)) ?_, hN⟩
            clear hN
            first
              | exact (decide_eq_false hD).symm
              | (rw [Bool.eq_iff_iff, decide_eq_true_iff (p := x.vw = y.vw), ru_iff]
                 clear hx hy
                 simp_all)
set_option maxRecDepth 100000 in
theorem clt_calls {A : Option Addr} {c : Nat} {l : List Tk} (hR : RdTk W A l) (hm : l.length ≤ 1000000) : Calls Tryd.prog 61 #[.slice A l.length c] W fun e w' => ∃ A' c', e = .returned (.slice A' l.length c') ∧ St W w' [rowA 54 2 A' l.length c' (l.flatMap Tk.cells)] := by
  have hS := St.init W
  refine calls_of_wpE (args := [_]) Tryd.func61 rfl rfl rfl ?_
  refine c_seq ?_
  refine c_region ?_
  refine t_q (q_assign) ?_
  refine t_nil ?_
  refine c_seq ?_
  refine c_seq ?_
  refine c_region ?_
  refine t_q (q_mv (.slice _ _ _) rfl) ?_
  refine t_q (q_eql_slice_nil Tryd.runUnderlying39 rfl rfl) ?_
  refine t_nil ?_
  refine c_cond rfl ?_ ?_
  · intro hc2
    have hb0 : l = [] := by
      cases l with
      | nil => rfl
      | cons x l =>
        obtain ⟨ad, hA, _⟩ := hR (by simp)
        rw [hA] at hc2; cases hc2
    refine c_seq ?_
    refine c_region ?_
    refine t_q (q_assign) ?_
    refine t_nil ?_
    refine c_ret ?_
    refine r_one rfl rfl ?_
    first
      | (subst hb0; exact ⟨none, 0, rfl, (hS.nilrow 54 2).front1⟩)
      | exact ⟨A7, c7, congrArg (fun n => Ending.returned (Value.slice A7 n c7)) (Nat.zero_add _), hS⟩
  · intro hc2
    refine c_skip ?_
    refine c_seq ?_
    refine c_region ?_
    refine t_buildSlice Tryd.runUnderlying39 Tryd.sizeOf54 Tryd.zeroValue54 rfl rfl (by intro v hv; simp at hv; try (first | (subst hv; rfl) | (rcases hv with rfl | rfl <;> rfl))) (by decide) (by decide) hS (fun g5 w hS => ?_)
    refine t_q (q_mv (.slice _ _ _) rfl) ?_
    refine t_append (size := 2) (bytes := 16) Tryd.underlying39 (info_of Tryd.type54) rfl rfl rfl rfl (by decide) hS (by repeat first | exact .here _ _ | assumption | apply Pick.there) (hR.st hS) rfl rfl (fun _ _ => rfl) (by unfold maxLen; omega) (by omega) (fun A7 c7 w hS => ?_)
    replace hS := hS.recast (congrArg (rowA 54 2 A7 _ c7) (show _ = l.flatMap Tk.cells from flat_range (cells := Tk.cells) l))
    rw [Nat.zero_add] at hS
    refine t_q (q_as (.slice _ _ _) rfl) ?_
    refine t_nil ?_
    refine c_ret ?_
    refine r_one rfl rfl ?_
    first
      | (subst hb0; exact ⟨none, 0, rfl, (hS.nilrow 54 2).front1⟩)
      | exact ⟨A7, c7, congrArg (fun n => Ending.returned (Value.slice A7 n c7)) (Nat.zero_add _), hS⟩
set_option maxRecDepth 100000 in
theorem clf_calls {A : Option Addr} {c : Nat} {l : List Tr} (hR : RdTr W A l) (hm : l.length ≤ 1000000) : Calls Tryd.prog 62 #[.slice A l.length c] W fun e w' => ∃ A' c', e = .returned (.slice A' l.length c') ∧ St W w' [rowA 56 3 A' l.length c' (l.flatMap Tr.cells)] := by
  have hS := St.init W
  refine calls_of_wpE (args := [_]) Tryd.func62 rfl rfl rfl ?_
  refine c_seq ?_
  refine c_region ?_
  refine t_q (q_assign) ?_
  refine t_nil ?_
  refine c_seq ?_
  refine c_seq ?_
  refine c_region ?_
  refine t_q (q_mv (.slice _ _ _) rfl) ?_
  refine t_q (q_eql_slice_nil Tryd.runUnderlying40 rfl rfl) ?_
  refine t_nil ?_
  refine c_cond rfl ?_ ?_
  · intro hc2
    have hb0 : l = [] := by
      cases l with
      | nil => rfl
      | cons x l =>
        obtain ⟨ad, hA, _⟩ := hR (by simp)
        rw [hA] at hc2; cases hc2
    refine c_seq ?_
    refine c_region ?_
    refine t_q (q_assign) ?_
    refine t_nil ?_
    refine c_ret ?_
    refine r_one rfl rfl ?_
    first
      | (subst hb0; exact ⟨none, 0, rfl, (hS.nilrow 56 3).front1⟩)
      | exact ⟨A7, c7, congrArg (fun n => Ending.returned (Value.slice A7 n c7)) (Nat.zero_add _), hS⟩
  · intro hc2
    refine c_skip ?_
    refine c_seq ?_
    refine c_region ?_
    refine t_buildSlice Tryd.runUnderlying40 Tryd.sizeOf56 Tryd.zeroValue56 rfl rfl (by intro v hv; simp at hv; try (first | (subst hv; rfl) | (rcases hv with rfl | rfl <;> rfl))) (by decide) (by decide) hS (fun g5 w hS => ?_)
    refine t_q (q_mv (.slice _ _ _) rfl) ?_
    refine t_append (size := 3) (bytes := 24) Tryd.underlying40 (info_of Tryd.type56) rfl rfl rfl rfl (by decide) hS (by repeat first | exact .here _ _ | assumption | apply Pick.there) (hR.st hS) rfl rfl (fun _ _ => rfl) (by unfold maxLen; omega) (by omega) (fun A7 c7 w hS => ?_)
    replace hS := hS.recast (congrArg (rowA 56 3 A7 _ c7) (show _ = l.flatMap Tr.cells from flat_range (cells := Tr.cells) l))
    rw [Nat.zero_add] at hS
    refine t_q (q_as (.slice _ _ _) rfl) ?_
    refine t_nil ?_
    refine c_ret ?_
    refine r_one rfl rfl ?_
    first
      | (subst hb0; exact ⟨none, 0, rfl, (hS.nilrow 56 3).front1⟩)
      | exact ⟨A7, c7, congrArg (fun n => Ending.returned (Value.slice A7 n c7)) (Nat.zero_add _), hS⟩
def RuV.own (x : RuV) (A : Option Addr) (c : Nat) (B : Option Addr) (d : Nat) : RuV := { x with ticks := ⟨A, c, x.ticks.l⟩, fees := ⟨B, d, x.fees.l⟩ }
theorem RuV.Gd.own {w : World} {x : RuV} {A B : Option Addr} {c d : Nat} (h : x.Gd W) (h1 : RdTk w A x.ticks.l) (h2 : RdTr w B x.fees.l) : (x.own A c B d).Gd w := ⟨h.version, h.lot, h.band, h.round, h.priority, h.self, h.layout, h1, h.tin, h.tle, h2, h.fin, h.fle⟩
set_option maxHeartbeats 1000000 in
set_option maxRecDepth 100000 in
theorem rcopy_calls {x : RuV} (hx : x.Gd W) : Calls Tryd.prog 28 #[.agg x.cells.toArray] W fun e w' => ∃ A' c' B' d', e = .returned (.agg (x.own A' c' B' d').cells.toArray) ∧ St W w' [rowA 54 2 A' x.ticks.l.length c' (x.ticks.l.flatMap Tk.cells), rowA 56 3 B' x.fees.l.length d' (x.fees.l.flatMap Tr.cells)] := by
  have hS := St.init W
  refine calls_of_wpE (args := [_]) Tryd.func28 rfl rfl rfl ?_
  refine c_seq ?_
  refine c_region ?_
  refine t_box (v := (.agg _)) rfl rfl hS (fun g1 w hS => ?_)
  replace hS := hS.recast (show _ = blkA g1 42 [.int .i64 x.version, .slice x.ticks.A x.ticks.l.length x.ticks.c, .int .i64 x.lot, .int .i64 x.band, .slice x.fees.A x.fees.l.length x.fees.c, .int .i64 x.round, .int .i64 x.priority, .int .i64 x.self, .int .i64 x.layout] from rfl)
  refine t_alloc Tryd.zeroValue42 rfl hS (fun g2 w hS => ?_)
  refine t_nil ?_
  refine c_seq ?_
  refine c_draw ?_
  refine d_free 10 [0, 1, 2, 3, 4, 5, 6, 7, 8, 9] [0, 1, 2, 3, 4, 5, 6, 7, 8, 9] hS rfl (by kernel_rfl) (by kernel_rfl) (by kernel_rfl) (by kernel_rfl) (fun hap hsel w hS => ?_)
  refine p_q hap hsel 0 rfl rfl ⟨_, hS⟩ (fun w hI => q_fieldAddr 1 Tryd.runUnderlying42 rfl Tryd.sizeOf39 (by decide) rfl rfl) ?_
  refine p_q hap hsel 3 rfl rfl ⟨_, hS⟩ (fun w hI => q_fieldAddr 4 Tryd.runUnderlying42 rfl Tryd.sizeOf40 (by decide) rfl rfl) ?_
  refine p_two 1 4 rfl rfl (by kernel_rfl) ?_ ?_
  ·
    refine t_q (q_load1 Tryd.isAgg39 rfl (hS.cell (by repeat first | exact .here _ _ | assumption | apply Pick.there) rfl)) ?_
    refine t_nil ?_
    refine ⟨.inr ⟨_, hS⟩, ?_⟩
    refine p_two 2 4 rfl rfl (by kernel_rfl) ?_ ?_
    ·
      refine t_call Tryd.call61 (clt_calls (hx.trd.st hS) hx.tle) rfl ?_
      rintro e w ⟨A5, c5, rfl, hT⟩
      refine ⟨_, rfl, ?_⟩
      have hS : St W w (_ :: _) := hS.lift hT
      refine t_nil ?_
      refine ⟨.inr ⟨_, hS⟩, ?_⟩
      refine p_one 4 rfl (by kernel_rfl) ?_
      refine t_q (q_load1 Tryd.isAgg40 rfl (hS.cell (by repeat first | exact .here _ _ | assumption | apply Pick.there) rfl)) ?_
      refine t_nil ?_
      refine ⟨.inr ⟨_, hS⟩, ?_⟩
      refine p_q hap hsel 6 rfl rfl ⟨_, hS⟩ (fun w hI => q_fieldAddr 1 Tryd.runUnderlying42 rfl Tryd.sizeOf39 (by decide) rfl rfl) ?_
      refine p_one 5 rfl (by kernel_rfl) ?_
      refine t_call Tryd.call62 (clf_calls (hx.frd.st hS) hx.fle) rfl ?_
      rintro e w ⟨A8, c8, rfl, hT⟩
      refine ⟨_, rfl, ?_⟩
      have hS : St W w (_ :: _) := hS.lift hT
      refine t_nil ?_
      refine ⟨.inr ⟨_, hS⟩, ?_⟩
      refine p_one 7 rfl (by kernel_rfl) ?_
      refine t_store (v := (.slice _ _ _)) Tryd.sizeOf39 hS (by repeat first | exact .here _ _ | assumption | apply Pick.there) rfl rfl rfl rfl rfl rfl (fun w hS => ?_)
      refine t_nil ?_
      refine ⟨.inr ⟨_, hS⟩, ?_⟩
      refine p_q hap hsel 8 rfl rfl ⟨_, hS⟩ (fun w hI => q_fieldAddr 4 Tryd.runUnderlying42 rfl Tryd.sizeOf40 (by decide) rfl rfl) ?_
      refine p_one 9 rfl (by kernel_rfl) ?_
      refine t_store (v := (.slice _ _ _)) Tryd.sizeOf40 hS (by repeat first | exact .here _ _ | assumption | apply Pick.there) rfl rfl rfl rfl rfl rfl (fun w hS => ?_)
      refine t_nil ?_
      refine ⟨.inl (by kernel_rfl), ?_⟩
      refine p_end (by kernel_rfl) ?_
      refine c_seq ?_
      refine c_region ?_
      refine t_q (q_cast (v' := .agg (x.own A5 c5 A8 c8).cells.toArray) (q_load_blk Tryd.isAgg42 Tryd.sizeOf42 rfl (hS.blk (by repeat first | exact .here _ _ | assumption | apply Pick.there)) rfl) (by rfl)) ?_
      refine t_store (v := (.agg _)) Tryd.sizeOf42 hS (by repeat first | exact .here _ _ | assumption | apply Pick.there) rfl rfl rfl rfl rfl rfl (fun w hS => ?_)
      refine t_nil ?_
      refine c_ret ?_
      refine r_one rfl (res1_cellN Tryd.isAgg42 Tryd.sizeOf42 rfl (hS.blk (by repeat first | exact .here _ _ | assumption | apply Pick.there)) rfl) ?_
      exact ⟨A5, c5, A8, c8, rfl, (((hS.pick (A := rowA 56 3 A8 _ c8 _) (by repeat first | exact .here _ _ | assumption | apply Pick.there)).pick (A := rowA 54 2 A5 _ c5 _) (by repeat first | exact .here _ _ | assumption | apply Pick.there))).front2⟩
    ·
      refine t_q (q_load1 Tryd.isAgg40 rfl (hS.cell (by repeat first | exact .here _ _ | assumption | apply Pick.there) rfl)) ?_
      refine t_nil ?_
      refine ⟨.inr ⟨_, hS⟩, ?_⟩
      refine p_one 2 rfl (by kernel_rfl) ?_
      refine t_call Tryd.call61 (clt_calls (hx.trd.st hS) hx.tle) rfl ?_
      rintro e w ⟨A5, c5, rfl, hT⟩
      refine ⟨_, rfl, ?_⟩
      have hS : St W w (_ :: _) := hS.lift hT
      refine t_nil ?_
      refine ⟨.inr ⟨_, hS⟩, ?_⟩
      refine p_q hap hsel 6 rfl rfl ⟨_, hS⟩ (fun w hI => q_fieldAddr 1 Tryd.runUnderlying42 rfl Tryd.sizeOf39 (by decide) rfl rfl) ?_
      refine p_one 5 rfl (by kernel_rfl) ?_
      refine t_call Tryd.call62 (clf_calls (hx.frd.st hS) hx.fle) rfl ?_
      rintro e w ⟨A8, c8, rfl, hT⟩
      refine ⟨_, rfl, ?_⟩
      have hS : St W w (_ :: _) := hS.lift hT
      refine t_nil ?_
      refine ⟨.inr ⟨_, hS⟩, ?_⟩
      refine p_one 7 rfl (by kernel_rfl) ?_
      refine t_store (v := (.slice _ _ _)) Tryd.sizeOf39 hS (by repeat first | exact .here _ _ | assumption | apply Pick.there) rfl rfl rfl rfl rfl rfl (fun w hS => ?_)
      refine t_nil ?_
      refine ⟨.inr ⟨_, hS⟩, ?_⟩
      refine p_q hap hsel 8 rfl rfl ⟨_, hS⟩ (fun w hI => q_fieldAddr 4 Tryd.runUnderlying42 rfl Tryd.sizeOf40 (by decide) rfl rfl) ?_
      refine p_one 9 rfl (by kernel_rfl) ?_
      refine t_store (v := (.slice _ _ _)) Tryd.sizeOf40 hS (by repeat first | exact .here _ _ | assumption | apply Pick.there) rfl rfl rfl rfl rfl rfl (fun w hS => ?_)
      refine t_nil ?_
      refine ⟨.inl (by kernel_rfl), ?_⟩
      refine p_end (by kernel_rfl) ?_
      refine c_seq ?_
      refine c_region ?_
      refine t_q (q_cast (v' := .agg (x.own A5 c5 A8 c8).cells.toArray) (q_load_blk Tryd.isAgg42 Tryd.sizeOf42 rfl (hS.blk (by repeat first | exact .here _ _ | assumption | apply Pick.there)) rfl) (by rfl)) ?_
      refine t_store (v := (.agg _)) Tryd.sizeOf42 hS (by repeat first | exact .here _ _ | assumption | apply Pick.there) rfl rfl rfl rfl rfl rfl (fun w hS => ?_)
      refine t_nil ?_
      refine c_ret ?_
      refine r_one rfl (res1_cellN Tryd.isAgg42 Tryd.sizeOf42 rfl (hS.blk (by repeat first | exact .here _ _ | assumption | apply Pick.there)) rfl) ?_
      exact ⟨A5, c5, A8, c8, rfl, (((hS.pick (A := rowA 56 3 A8 _ c8 _) (by repeat first | exact .here _ _ | assumption | apply Pick.there)).pick (A := rowA 54 2 A5 _ c5 _) (by repeat first | exact .here _ _ | assumption | apply Pick.there))).front2⟩
  ·
    refine t_q (q_load1 Tryd.isAgg40 rfl (hS.cell (by repeat first | exact .here _ _ | assumption | apply Pick.there) rfl)) ?_
    refine t_nil ?_
    refine ⟨.inr ⟨_, hS⟩, ?_⟩
    refine p_one 1 rfl (by kernel_rfl) ?_
    refine t_q (q_load1 Tryd.isAgg39 rfl (hS.cell (by repeat first | exact .here _ _ | assumption | apply Pick.there) rfl)) ?_
    refine t_nil ?_
    refine ⟨.inr ⟨_, hS⟩, ?_⟩
    refine p_one 2 rfl (by kernel_rfl) ?_
    refine t_call Tryd.call61 (clt_calls (hx.trd.st hS) hx.tle) rfl ?_
    rintro e w ⟨A5, c5, rfl, hT⟩
    refine ⟨_, rfl, ?_⟩
    have hS : St W w (_ :: _) := hS.lift hT
    refine t_nil ?_
    refine ⟨.inr ⟨_, hS⟩, ?_⟩
    refine p_q hap hsel 6 rfl rfl ⟨_, hS⟩ (fun w hI => q_fieldAddr 1 Tryd.runUnderlying42 rfl Tryd.sizeOf39 (by decide) rfl rfl) ?_
    refine p_one 5 rfl (by kernel_rfl) ?_
    refine t_call Tryd.call62 (clf_calls (hx.frd.st hS) hx.fle) rfl ?_
    rintro e w ⟨A8, c8, rfl, hT⟩
    refine ⟨_, rfl, ?_⟩
    have hS : St W w (_ :: _) := hS.lift hT
    refine t_nil ?_
    refine ⟨.inr ⟨_, hS⟩, ?_⟩
    refine p_one 7 rfl (by kernel_rfl) ?_
    refine t_store (v := (.slice _ _ _)) Tryd.sizeOf39 hS (by repeat first | exact .here _ _ | assumption | apply Pick.there) rfl rfl rfl rfl rfl rfl (fun w hS => ?_)
    refine t_nil ?_
    refine ⟨.inr ⟨_, hS⟩, ?_⟩
    refine p_q hap hsel 8 rfl rfl ⟨_, hS⟩ (fun w hI => q_fieldAddr 4 Tryd.runUnderlying42 rfl Tryd.sizeOf40 (by decide) rfl rfl) ?_
    refine p_one 9 rfl (by kernel_rfl) ?_
    refine t_store (v := (.slice _ _ _)) Tryd.sizeOf40 hS (by repeat first | exact .here _ _ | assumption | apply Pick.there) rfl rfl rfl rfl rfl rfl (fun w hS => ?_)
    refine t_nil ?_
    refine ⟨.inl (by kernel_rfl), ?_⟩
    refine p_end (by kernel_rfl) ?_
    refine c_seq ?_
    refine c_region ?_
    refine t_q (q_cast (v' := .agg (x.own A5 c5 A8 c8).cells.toArray) (q_load_blk Tryd.isAgg42 Tryd.sizeOf42 rfl (hS.blk (by repeat first | exact .here _ _ | assumption | apply Pick.there)) rfl) (by rfl)) ?_
    refine t_store (v := (.agg _)) Tryd.sizeOf42 hS (by repeat first | exact .here _ _ | assumption | apply Pick.there) rfl rfl rfl rfl rfl rfl (fun w hS => ?_)
    refine t_nil ?_
    refine c_ret ?_
    refine r_one rfl (res1_cellN Tryd.isAgg42 Tryd.sizeOf42 rfl (hS.blk (by repeat first | exact .here _ _ | assumption | apply Pick.there)) rfl) ?_
    exact ⟨A5, c5, A8, c8, rfl, (((hS.pick (A := rowA 56 3 A8 _ c8 _) (by repeat first | exact .here _ _ | assumption | apply Pick.there)).pick (A := rowA 54 2 A5 _ c5 _) (by repeat first | exact .here _ _ | assumption | apply Pick.there))).front2⟩
end Go.Proofs.YtcgagmojgjbfpaaDoor
