/- Rule sets: when two are the same; copies. -/
import Derived.Test.YtmgobaojioaioaaDoorUc
import Derived.Test.YtmgobaojioaioaaDoorR
namespace Go.Proofs.YtmgobaojioaioaaDoor
open Go Go.RowKit Go.Lib
variable {W : World}
attribute [local irreducible] blkA rowA
set_option maxHeartbeats 2000000 in
set_option maxRecDepth 100000 in
theorem qrsame_calls {x y : RuV} (hx : x.Gd W) (hy : y.Gd W) : Calls Tryd.prog 17 #[.agg x.cells.toArray, .agg y.cells.toArray] W fun e w' => e = .returned (.bool (decide (x.vw = y.vw))) ∧ St W w' [] := by
  have hS := St.init W
  have hle1 := hx.tle
  have hle2 := hx.fle
  have hle3 := hy.tle
  have hle4 := hy.fle
  refine calls_of_wpE (args := [_, _]) Tryd.func17 rfl rfl rfl ?_
  refine c_seq ?_
  refine c_region ?_
  refine t_box (v := (.agg _)) rfl rfl hS (fun g2 w hS => ?_)
  replace hS := hS.recast (show _ = blkA g2 25 [.int .i64 x.version, .slice x.ticks.A x.ticks.l.length x.ticks.c, .int .i64 x.lot, .int .i64 x.band, .slice x.fees.A x.fees.l.length x.fees.c, .int .i64 x.round, .int .i64 x.priority, .int .i64 x.self, .int .i64 x.layout] from rfl)
  refine t_box (v := (.agg _)) rfl rfl hS (fun g3 w hS => ?_)
  replace hS := hS.recast (show _ = blkA g3 25 [.int .i64 y.version, .slice y.ticks.A y.ticks.l.length y.ticks.c, .int .i64 y.lot, .int .i64 y.band, .slice y.fees.A y.fees.l.length y.fees.c, .int .i64 y.round, .int .i64 y.priority, .int .i64 y.self, .int .i64 y.layout] from rfl)
  refine t_q (q_assign) ?_
  refine t_nil ?_
  refine c_seq ?_
  refine c_seq ?_
  refine c_region ?_
  refine t_q (q_fieldAddr 1 Tryd.runUnderlying25 rfl Tryd.sizeOf22 (by decide) rfl rfl) ?_
  refine t_q (q_load1 Tryd.isAgg22 rfl (hS.cell (by repeat first | exact .here _ _ | assumption | apply Pick.there) rfl)) ?_
  refine t_q (q_len_slice Tryd.runUnderlying22 rfl) ?_
  refine t_q (q_fieldAddr 1 Tryd.runUnderlying25 rfl Tryd.sizeOf22 (by decide) rfl rfl) ?_
  refine t_q (q_load1 Tryd.isAgg22 rfl (hS.cell (by repeat first | exact .here _ _ | assumption | apply Pick.there) rfl)) ?_
  refine t_q (q_len_slice Tryd.runUnderlying22 rfl) ?_
  refine t_q (q_neq rfl rfl) ?_
  refine t_q (q_mv (.bool _) rfl) ?_
  refine t_case 14 rfl ?_ ?_
  · intro hg2
    have hg2d := of_decide_eq_true hg2
    refine t_no rfl rfl (by rw [hg2]; decide) ?_
    refine t_no rfl rfl (by rw [hg2]; decide) ?_
    refine t_no rfl rfl (by rw [hg2]; decide) ?_
    refine t_no rfl rfl (by rw [hg2]; decide) ?_
    refine t_no rfl rfl (by rw [hg2]; decide) ?_
    refine t_no rfl rfl (by rw [hg2]; decide) ?_
    refine t_no rfl rfl (by rw [hg2]; decide) ?_
    refine t_q (q_pick_t rfl hg2) ?_
    refine t_nil ?_
    refine c_cond_t rfl rfl ?_
    have hD : ¬ x.vw = y.vw := fun h => by
      have h1 := congrArg List.length (ru_iff.1 h).2.1
      have h2 := congrArg List.length (ru_iff.1 h).2.2.2.2.1
      rw [List.length_map, List.length_map] at h1 h2
      omega
    refine c_seq ?_
    refine c_region ?_
    refine t_q (q_assign) ?_
    refine t_nil ?_
    refine c_ret ?_
    refine r_one rfl rfl ?_
    have hN := hS.nil
    clear hS
    refine ⟨congrArg (fun b => Ending.returned (.bool b)) ?_, hN⟩
    clear hN
    first
      | exact (decide_eq_false hD).symm
      | (rw [Bool.eq_iff_iff, decide_eq_true_iff (p := x.vw = y.vw), ru_iff]
         clear hx hy
         simp_all)
  · intro hg2
    have hg2d := of_decide_eq_false hg2
    refine t_yes rfl rfl hg2 ?_
    refine t_q (q_fieldAddr 4 Tryd.runUnderlying25 rfl Tryd.sizeOf23 (by decide) rfl rfl) ?_
    refine t_yes rfl rfl hg2 ?_
    refine t_q (q_load1 Tryd.isAgg23 rfl (hS.cell (by repeat first | exact .here _ _ | assumption | apply Pick.there) rfl)) ?_
    refine t_yes rfl rfl hg2 ?_
    refine t_q (q_len_slice Tryd.runUnderlying23 rfl) ?_
    refine t_yes rfl rfl hg2 ?_
    refine t_q (q_fieldAddr 4 Tryd.runUnderlying25 rfl Tryd.sizeOf23 (by decide) rfl rfl) ?_
    refine t_yes rfl rfl hg2 ?_
    refine t_q (q_load1 Tryd.isAgg23 rfl (hS.cell (by repeat first | exact .here _ _ | assumption | apply Pick.there) rfl)) ?_
    refine t_yes rfl rfl hg2 ?_
    refine t_q (q_len_slice Tryd.runUnderlying23 rfl) ?_
    refine t_yes rfl rfl hg2 ?_
    refine t_q (q_neq rfl rfl) ?_
    refine t_q (q_pick_f rfl hg2) ?_
    refine t_nil ?_
    refine c_cond rfl ?_ ?_
    · intro hc4
      have hc4d := of_decide_eq_true hc4
      have hD : ¬ x.vw = y.vw := fun h => by
        have h1 := congrArg List.length (ru_iff.1 h).2.1
        have h2 := congrArg List.length (ru_iff.1 h).2.2.2.2.1
        rw [List.length_map, List.length_map] at h1 h2
        omega
      refine c_seq ?_
      refine c_region ?_
      refine t_q (q_assign) ?_
      refine t_nil ?_
      refine c_ret ?_
      refine r_one rfl rfl ?_
      have hN := hS.nil
      clear hS
      refine ⟨congrArg (fun b => Ending.returned (.bool b)) ?_, hN⟩
      clear hN
      first
        | exact (decide_eq_false hD).symm
        | (rw [Bool.eq_iff_iff, decide_eq_true_iff (p := x.vw = y.vw), ru_iff]
           clear hx hy
           simp_all)
    · intro hc4
      have hc4d := of_decide_eq_false hc4
      refine c_skip ?_
      refine c_seq ?_
      refine c_seq ?_
      refine c_region ?_
      refine t_q (q_assign) ?_
      refine t_nil ?_
      refine c_block ?_
      refine c_loop [4, 5, 23, 24, 25, 26, 27, 28, 29, 30, 31, 32, 33, 34, 35, 36, 37, 38, 39, 40] (fun k σ w => ∃ j : Nat, σ 5 = .int .i64 (j : Int) ∧ j ≤ x.ticks.l.length ∧ x.ticks.l.length - j ≤ k ∧ (∀ i, i < j → (x.ticks.l.getD i default).ints = (y.ticks.l.getD i default).ints) ∧ St W w [blkA g2 25 [.int .i64 x.version, .slice x.ticks.A x.ticks.l.length x.ticks.c, .int .i64 x.lot, .int .i64 x.band, .slice x.fees.A x.fees.l.length x.fees.c, .int .i64 x.round, .int .i64 x.priority, .int .i64 x.self, .int .i64 x.layout], blkA g3 25 [.int .i64 y.version, .slice y.ticks.A y.ticks.l.length y.ticks.c, .int .i64 y.lot, .int .i64 y.band, .slice y.fees.A y.fees.l.length y.fees.c, .int .i64 y.round, .int .i64 y.priority, .int .i64 y.self, .int .i64 y.layout]]) (x.ticks.l.length) rfl (⟨0, rfl, by omega, by omega, (fun i h => absurd h (by omega)), (((hS.pick (A := blkA g3 25 [.int .i64 y.version, .slice y.ticks.A y.ticks.l.length y.ticks.c, .int .i64 y.lot, .int .i64 y.band, .slice y.fees.A y.fees.l.length y.fees.c, .int .i64 y.round, .int .i64 y.priority, .int .i64 y.self, .int .i64 y.layout]) (by repeat first | exact .here _ _ | assumption | apply Pick.there)).pick (A := blkA g2 25 [.int .i64 x.version, .slice x.ticks.A x.ticks.l.length x.ticks.c, .int .i64 x.lot, .int .i64 x.band, .slice x.fees.A x.fees.l.length x.fees.c, .int .i64 x.round, .int .i64 x.priority, .int .i64 x.self, .int .i64 x.layout]) (by repeat first | exact .here _ _ | assumption | apply Pick.there))).front2⟩) ?_
      skip
      rintro k σ w ⟨j, hj0, hj, hk, hall, hS⟩
      refine c_know 5 hj0 ?_
      clear hj0
      refine c_seq ?_
      refine c_seq ?_
      refine c_region ?_
      refine t_q (q_mv (.int _ _) rfl) ?_
      refine t_q (q_fieldAddr 1 Tryd.runUnderlying25 rfl Tryd.sizeOf22 (by decide) rfl rfl) ?_
      refine t_q (q_load1 Tryd.isAgg22 rfl (hS.cell (by repeat first | exact .here _ _ | assumption | apply Pick.there) rfl)) ?_
      refine t_q (q_len_slice Tryd.runUnderlying22 rfl) ?_
      refine t_q (q_lss rfl rfl) ?_
      refine t_nil ?_
      refine c_cond rfl ?_ ?_
      · intro hc6
        have hc6d := of_decide_eq_true hc6
        refine c_skip ?_
        refine c_seq ?_
        refine c_block ?_
        refine c_seq ?_
        refine c_draw ?_
        refine d_quiet 11 [0, 1, 2, 3, 4, 5, 6, 7, 8, 9, 10] [0, 1, 2, 3, 4, 5, 6, 7, 8, 9, 10] hS rfl (by kernel_rfl) (by kernel_rfl) (by kernel_rfl) (by kernel_rfl) (fun hap hsel w hS => ?_)
        refine p_q hap hsel 0 rfl rfl hS (fun w hS => q_fieldAddr 1 Tryd.runUnderlying25 rfl Tryd.sizeOf22 (by decide) rfl rfl) ?_
        refine p_q hap hsel 1 rfl rfl hS (fun w hS => q_load1 Tryd.isAgg22 rfl (hS.cell (by repeat first | exact .here _ _ | assumption | apply Pick.there) rfl)) ?_
        refine p_q hap hsel 2 rfl rfl hS (fun w hS => q_mv (.int _ _) rfl) ?_
        refine p_index hap hsel 3 rfl rfl hS Tryd.runUnderlying22 Tryd.sizeOf40 (fun w hS => hx.trd.st hS) rfl rfl (by omega) (fun ad7 hl7 hx7 => ?_)
        refine p_q hap hsel 4 rfl rfl hS (fun w hS => q_loadN Tryd.isAgg40 Tryd.sizeOf40 rfl hl7 (hx7 w hS)) ?_
        refine p_q hap hsel 5 rfl rfl hS (fun w hS => q_fieldAddr 1 Tryd.runUnderlying25 rfl Tryd.sizeOf22 (by decide) rfl rfl) ?_
        refine p_q hap hsel 6 rfl rfl hS (fun w hS => q_load1 Tryd.isAgg22 rfl (hS.cell (by repeat first | exact .here _ _ | assumption | apply Pick.there) rfl)) ?_
        refine p_q hap hsel 7 rfl rfl hS (fun w hS => q_mv (.int _ _) rfl) ?_
        refine p_index hap hsel 8 rfl rfl hS Tryd.runUnderlying22 Tryd.sizeOf40 (fun w hS => hy.trd.st hS) rfl rfl (by omega) (fun ad8 hl8 hx8 => ?_)
        refine p_q hap hsel 9 rfl rfl hS (fun w hS => q_loadN Tryd.isAgg40 Tryd.sizeOf40 rfl hl8 (hx8 w hS)) ?_
        refine p_q hap hsel 10 rfl rfl hS (fun w hS => q_neq_tk (e := x.ticks.l.getD j default) (q := y.ticks.l.getD j default) rfl rfl (tk_in hx.tin (by omega)) (tk_in hy.tin (by omega))) ?_
        refine p_end (by kernel_rfl) ?_
        refine c_cond rfl ?_ ?_
        · intro hc9
          have hD : ¬ x.vw = y.vw := fun h => by
            have hn : (x.ticks.l.getD j default).ints ≠ (y.ticks.l.getD j default).ints := by simpa using hc9
            have hs := sameTk_at (a := x.ticks.l) (b := y.ticks.l) (j := j) (by omega) (by omega) hn
            have he := (ru_iff.1 h).2.1
            rw [show sameTk x.ticks.l y.ticks.l = true from decide_eq_true he] at hs
            cases hs
          refine c_seq ?_
          refine c_region ?_
          refine t_q (q_assign) ?_
          refine t_nil ?_
          refine c_ret ?_
          refine r_one rfl rfl ?_
          have hN := hS.nil
          clear hS
          refine ⟨congrArg (fun b => Ending.returned (.bool b)) ?_, hN⟩
          clear hN
          first
            | exact (decide_eq_false hD).symm
            | (rw [Bool.eq_iff_iff, decide_eq_true_iff (p := x.vw = y.vw), ru_iff]
               clear hx hy
               simp_all)
        · intro hc9
          have hyes : (x.ticks.l.getD j default).ints = (y.ticks.l.getD j default).ints := by simpa using hc9
          refine c_skip ?_
          refine c_region ?_
          refine t_q (q_mv (.int _ _) rfl) ?_
          refine t_q (q_add_i64 rfl rfl (by omega)) ?_
          refine t_q (q_as (.int _ _) rfl) ?_
          refine t_nil ?_
          exact ⟨k - 1, by omega, j + 1, rfl, by omega, by omega, (fun i hi => by
            rcases Nat.lt_or_ge i j with h | h
            · exact hall i h
            · obtain rfl : i = j := by omega
              exact hyes), (((hS.pick (A := blkA g3 25 [.int .i64 y.version, .slice y.ticks.A y.ticks.l.length y.ticks.c, .int .i64 y.lot, .int .i64 y.band, .slice y.fees.A y.fees.l.length y.fees.c, .int .i64 y.round, .int .i64 y.priority, .int .i64 y.self, .int .i64 y.layout]) (by repeat first | exact .here _ _ | assumption | apply Pick.there)).pick (A := blkA g2 25 [.int .i64 x.version, .slice x.ticks.A x.ticks.l.length x.ticks.c, .int .i64 x.lot, .int .i64 x.band, .slice x.fees.A x.fees.l.length x.fees.c, .int .i64 x.round, .int .i64 x.priority, .int .i64 x.self, .int .i64 x.layout]) (by repeat first | exact .here _ _ | assumption | apply Pick.there))).front2⟩
      · intro hc6
        have hc6d := of_decide_eq_false hc6
        obtain rfl : j = x.ticks.l.length := by omega
        have hT1 : x.ticks.l.map Tk.ints = y.ticks.l.map Tk.ints := of_decide_eq_true (sameTk_all (by omega) hall)
        clear hall
        refine c_exit ?_
        refine ite_t rfl ?_
        refine c_seq ?_
        refine c_seq ?_
        refine c_region ?_
        refine t_q (q_assign) ?_
        refine t_nil ?_
        refine c_block ?_
        refine c_loop [4, 6, 41, 42, 43, 44, 45, 46, 47, 48, 49, 50, 51, 52, 53, 54, 55, 56, 57, 58] (fun k σ w => ∃ j : Nat, σ 6 = .int .i64 (j : Int) ∧ j ≤ x.fees.l.length ∧ x.fees.l.length - j ≤ k ∧ (∀ i, i < j → (x.fees.l.getD i default).ints = (y.fees.l.getD i default).ints) ∧ St W w [blkA g2 25 [.int .i64 x.version, .slice x.ticks.A x.ticks.l.length x.ticks.c, .int .i64 x.lot, .int .i64 x.band, .slice x.fees.A x.fees.l.length x.fees.c, .int .i64 x.round, .int .i64 x.priority, .int .i64 x.self, .int .i64 x.layout], blkA g3 25 [.int .i64 y.version, .slice y.ticks.A y.ticks.l.length y.ticks.c, .int .i64 y.lot, .int .i64 y.band, .slice y.fees.A y.fees.l.length y.fees.c, .int .i64 y.round, .int .i64 y.priority, .int .i64 y.self, .int .i64 y.layout]]) (x.fees.l.length) rfl (⟨0, rfl, by omega, by omega, (fun i h => absurd h (by omega)), (((hS.pick (A := blkA g3 25 [.int .i64 y.version, .slice y.ticks.A y.ticks.l.length y.ticks.c, .int .i64 y.lot, .int .i64 y.band, .slice y.fees.A y.fees.l.length y.fees.c, .int .i64 y.round, .int .i64 y.priority, .int .i64 y.self, .int .i64 y.layout]) (by repeat first | exact .here _ _ | assumption | apply Pick.there)).pick (A := blkA g2 25 [.int .i64 x.version, .slice x.ticks.A x.ticks.l.length x.ticks.c, .int .i64 x.lot, .int .i64 x.band, .slice x.fees.A x.fees.l.length x.fees.c, .int .i64 x.round, .int .i64 x.priority, .int .i64 x.self, .int .i64 x.layout]) (by repeat first | exact .here _ _ | assumption | apply Pick.there))).front2⟩) ?_
        skip
        rintro k σ w ⟨j, hj0, hj, hk, hall, hS⟩
        refine c_know 6 hj0 ?_
        clear hj0
        refine c_seq ?_
        refine c_seq ?_
        refine c_region ?_
        refine t_q (q_mv (.int _ _) rfl) ?_
        refine t_q (q_fieldAddr 4 Tryd.runUnderlying25 rfl Tryd.sizeOf23 (by decide) rfl rfl) ?_
        refine t_q (q_load1 Tryd.isAgg23 rfl (hS.cell (by repeat first | exact .here _ _ | assumption | apply Pick.there) rfl)) ?_
        refine t_q (q_len_slice Tryd.runUnderlying23 rfl) ?_
        refine t_q (q_lss rfl rfl) ?_
        refine t_nil ?_
        refine c_cond rfl ?_ ?_
        · intro hc11
          have hc11d := of_decide_eq_true hc11
          refine c_skip ?_
          refine c_seq ?_
          refine c_block ?_
          refine c_seq ?_
          refine c_draw ?_
          refine d_quiet 11 [0, 1, 2, 3, 4, 5, 6, 7, 8, 9, 10] [0, 1, 2, 3, 4, 5, 6, 7, 8, 9, 10] hS rfl (by kernel_rfl) (by kernel_rfl) (by kernel_rfl) (by kernel_rfl) (fun hap hsel w hS => ?_)
          refine p_q hap hsel 0 rfl rfl hS (fun w hS => q_fieldAddr 4 Tryd.runUnderlying25 rfl Tryd.sizeOf23 (by decide) rfl rfl) ?_
          refine p_q hap hsel 1 rfl rfl hS (fun w hS => q_load1 Tryd.isAgg23 rfl (hS.cell (by repeat first | exact .here _ _ | assumption | apply Pick.there) rfl)) ?_
          refine p_q hap hsel 2 rfl rfl hS (fun w hS => q_mv (.int _ _) rfl) ?_
          refine p_index hap hsel 3 rfl rfl hS Tryd.runUnderlying23 Tryd.sizeOf42 (fun w hS => hx.frd.st hS) rfl rfl (by omega) (fun ad12 hl12 hx12 => ?_)
          refine p_q hap hsel 4 rfl rfl hS (fun w hS => q_loadN Tryd.isAgg42 Tryd.sizeOf42 rfl hl12 (hx12 w hS)) ?_
          refine p_q hap hsel 5 rfl rfl hS (fun w hS => q_fieldAddr 4 Tryd.runUnderlying25 rfl Tryd.sizeOf23 (by decide) rfl rfl) ?_
          refine p_q hap hsel 6 rfl rfl hS (fun w hS => q_load1 Tryd.isAgg23 rfl (hS.cell (by repeat first | exact .here _ _ | assumption | apply Pick.there) rfl)) ?_
          refine p_q hap hsel 7 rfl rfl hS (fun w hS => q_mv (.int _ _) rfl) ?_
          refine p_index hap hsel 8 rfl rfl hS Tryd.runUnderlying23 Tryd.sizeOf42 (fun w hS => hy.frd.st hS) rfl rfl (by omega) (fun ad13 hl13 hx13 => ?_)
          refine p_q hap hsel 9 rfl rfl hS (fun w hS => q_loadN Tryd.isAgg42 Tryd.sizeOf42 rfl hl13 (hx13 w hS)) ?_
          refine p_q hap hsel 10 rfl rfl hS (fun w hS => q_neq_tr (e := x.fees.l.getD j default) (q := y.fees.l.getD j default) rfl rfl (tr_in hx.fin (by omega)) (tr_in hy.fin (by omega))) ?_
          refine p_end (by kernel_rfl) ?_
          refine c_cond rfl ?_ ?_
          · intro hc14
            have hD : ¬ x.vw = y.vw := fun h => by
              have hn : (x.fees.l.getD j default).ints ≠ (y.fees.l.getD j default).ints := by simpa using hc14
              have hs := sameTr_at (a := x.fees.l) (b := y.fees.l) (j := j) (by omega) (by omega) hn
              have he := (ru_iff.1 h).2.2.2.2.1
              rw [show sameTr x.fees.l y.fees.l = true from decide_eq_true he] at hs
              cases hs
            refine c_seq ?_
            refine c_region ?_
            refine t_q (q_assign) ?_
            refine t_nil ?_
            refine c_ret ?_
            refine r_one rfl rfl ?_
            have hN := hS.nil
            clear hS
            refine ⟨congrArg (fun b => Ending.returned (.bool b)) ?_, hN⟩
            clear hN
            first
              | exact (decide_eq_false hD).symm
              | (rw [Bool.eq_iff_iff, decide_eq_true_iff (p := x.vw = y.vw), ru_iff]
                 clear hx hy
                 simp_all)
          · intro hc14
            have hyes : (x.fees.l.getD j default).ints = (y.fees.l.getD j default).ints := by simpa using hc14
            refine c_skip ?_
            refine c_region ?_
            refine t_q (q_mv (.int _ _) rfl) ?_
            refine t_q (q_add_i64 rfl rfl (by omega)) ?_
            refine t_q (q_as (.int _ _) rfl) ?_
            refine t_nil ?_
            exact ⟨k - 1, by omega, j + 1, rfl, by omega, by omega, (fun i hi => by
              rcases Nat.lt_or_ge i j with h | h
              · exact hall i h
              · obtain rfl : i = j := by omega
                exact hyes), (((hS.pick (A := blkA g3 25 [.int .i64 y.version, .slice y.ticks.A y.ticks.l.length y.ticks.c, .int .i64 y.lot, .int .i64 y.band, .slice y.fees.A y.fees.l.length y.fees.c, .int .i64 y.round, .int .i64 y.priority, .int .i64 y.self, .int .i64 y.layout]) (by repeat first | exact .here _ _ | assumption | apply Pick.there)).pick (A := blkA g2 25 [.int .i64 x.version, .slice x.ticks.A x.ticks.l.length x.ticks.c, .int .i64 x.lot, .int .i64 x.band, .slice x.fees.A x.fees.l.length x.fees.c, .int .i64 x.round, .int .i64 x.priority, .int .i64 x.self, .int .i64 x.layout]) (by repeat first | exact .here _ _ | assumption | apply Pick.there))).front2⟩
        · intro hc11
          have hc11d := of_decide_eq_false hc11
          obtain rfl : j = x.fees.l.length := by omega
          have hT2 : x.fees.l.map Tr.ints = y.fees.l.map Tr.ints := of_decide_eq_true (sameTr_all (by omega) hall)
          clear hall
          refine c_exit ?_
          refine ite_t rfl ?_
          refine c_seq ?_
          refine c_region ?_
          refine t_q (q_fieldAddr 0 Tryd.runUnderlying25 rfl Tryd.sizeOf3 (by decide) rfl rfl) ?_
          refine t_q (q_load1 Tryd.isAgg3 rfl (hS.cell (by repeat first | exact .here _ _ | assumption | apply Pick.there) rfl)) ?_
          refine t_q (q_fieldAddr 0 Tryd.runUnderlying25 rfl Tryd.sizeOf3 (by decide) rfl rfl) ?_
          refine t_q (q_load1 Tryd.isAgg3 rfl (hS.cell (by repeat first | exact .here _ _ | assumption | apply Pick.there) rfl)) ?_
          refine t_q (q_eql rfl rfl) ?_
          refine t_q (q_mv (.bool _) rfl) ?_
          refine t_case 64 rfl ?_ ?_
          · intro hg16
            have hg16d := of_decide_eq_true hg16
            refine t_yes rfl rfl hg16 ?_
            refine t_q (q_fieldAddr 2 Tryd.runUnderlying25 rfl Tryd.sizeOf2 (by decide) rfl rfl) ?_
            refine t_yes rfl rfl hg16 ?_
            refine t_q (q_load1 Tryd.isAgg2 rfl (hS.cell (by repeat first | exact .here _ _ | assumption | apply Pick.there) rfl)) ?_
            refine t_yes rfl rfl hg16 ?_
            refine t_q (q_fieldAddr 2 Tryd.runUnderlying25 rfl Tryd.sizeOf2 (by decide) rfl rfl) ?_
            refine t_yes rfl rfl hg16 ?_
            refine t_q (q_load1 Tryd.isAgg2 rfl (hS.cell (by repeat first | exact .here _ _ | assumption | apply Pick.there) rfl)) ?_
            refine t_yes rfl rfl hg16 ?_
            refine t_q (q_eql rfl rfl) ?_
            refine t_q (q_pick_t rfl hg16) ?_
            refine t_q (q_mv (.bool _) rfl) ?_
            refine t_case 71 rfl ?_ ?_
            · intro hg18
              have hg18d := of_decide_eq_true hg18
              refine t_yes rfl rfl hg18 ?_
              refine t_q (q_fieldAddr 3 Tryd.runUnderlying25 rfl Tryd.sizeOf2 (by decide) rfl rfl) ?_
              refine t_yes rfl rfl hg18 ?_
              refine t_q (q_load1 Tryd.isAgg2 rfl (hS.cell (by repeat first | exact .here _ _ | assumption | apply Pick.there) rfl)) ?_
              refine t_yes rfl rfl hg18 ?_
              refine t_q (q_fieldAddr 3 Tryd.runUnderlying25 rfl Tryd.sizeOf2 (by decide) rfl rfl) ?_
              refine t_yes rfl rfl hg18 ?_
              refine t_q (q_load1 Tryd.isAgg2 rfl (hS.cell (by repeat first | exact .here _ _ | assumption | apply Pick.there) rfl)) ?_
              refine t_yes rfl rfl hg18 ?_
              refine t_q (q_eql rfl rfl) ?_
              refine t_q (q_pick_t rfl hg18) ?_
              refine t_q (q_mv (.bool _) rfl) ?_
              refine t_case 78 rfl ?_ ?_
              · intro hg20
                have hg20d := of_decide_eq_true hg20
                refine t_yes rfl rfl hg20 ?_
                refine t_q (q_fieldAddr 5 Tryd.runUnderlying25 rfl Tryd.sizeOf3 (by decide) rfl rfl) ?_
                refine t_yes rfl rfl hg20 ?_
                refine t_q (q_load1 Tryd.isAgg3 rfl (hS.cell (by repeat first | exact .here _ _ | assumption | apply Pick.there) rfl)) ?_
                refine t_yes rfl rfl hg20 ?_
                refine t_q (q_fieldAddr 5 Tryd.runUnderlying25 rfl Tryd.sizeOf3 (by decide) rfl rfl) ?_
                refine t_yes rfl rfl hg20 ?_
                refine t_q (q_load1 Tryd.isAgg3 rfl (hS.cell (by repeat first | exact .here _ _ | assumption | apply Pick.there) rfl)) ?_
                refine t_yes rfl rfl hg20 ?_
                refine t_q (q_eql rfl rfl) ?_
                refine t_q (q_pick_t rfl hg20) ?_
                refine t_q (q_mv (.bool _) rfl) ?_
                refine t_case 85 rfl ?_ ?_
                · intro hg22
                  have hg22d := of_decide_eq_true hg22
                  refine t_yes rfl rfl hg22 ?_
                  refine t_q (q_fieldAddr 6 Tryd.runUnderlying25 rfl Tryd.sizeOf3 (by decide) rfl rfl) ?_
                  refine t_yes rfl rfl hg22 ?_
                  refine t_q (q_load1 Tryd.isAgg3 rfl (hS.cell (by repeat first | exact .here _ _ | assumption | apply Pick.there) rfl)) ?_
                  refine t_yes rfl rfl hg22 ?_
                  refine t_q (q_fieldAddr 6 Tryd.runUnderlying25 rfl Tryd.sizeOf3 (by decide) rfl rfl) ?_
                  refine t_yes rfl rfl hg22 ?_
                  refine t_q (q_load1 Tryd.isAgg3 rfl (hS.cell (by repeat first | exact .here _ _ | assumption | apply Pick.there) rfl)) ?_
                  refine t_yes rfl rfl hg22 ?_
                  refine t_q (q_eql rfl rfl) ?_
                  refine t_q (q_pick_t rfl hg22) ?_
                  refine t_q (q_mv (.bool _) rfl) ?_
                  refine t_case 92 rfl ?_ ?_
                  · intro hg24
                    have hg24d := of_decide_eq_true hg24
                    refine t_yes rfl rfl hg24 ?_
                    refine t_q (q_fieldAddr 7 Tryd.runUnderlying25 rfl Tryd.sizeOf3 (by decide) rfl rfl) ?_
                    refine t_yes rfl rfl hg24 ?_
                    refine t_q (q_load1 Tryd.isAgg3 rfl (hS.cell (by repeat first | exact .here _ _ | assumption | apply Pick.there) rfl)) ?_
                    refine t_yes rfl rfl hg24 ?_
                    refine t_q (q_fieldAddr 7 Tryd.runUnderlying25 rfl Tryd.sizeOf3 (by decide) rfl rfl) ?_
                    refine t_yes rfl rfl hg24 ?_
                    refine t_q (q_load1 Tryd.isAgg3 rfl (hS.cell (by repeat first | exact .here _ _ | assumption | apply Pick.there) rfl)) ?_
                    refine t_yes rfl rfl hg24 ?_
                    refine t_q (q_eql rfl rfl) ?_
                    refine t_q (q_pick_t rfl hg24) ?_
                    refine t_q (q_mv (.bool _) rfl) ?_
                    refine t_case 99 rfl ?_ ?_
                    · intro hg26
                      have hg26d := of_decide_eq_true hg26
                      refine t_yes rfl rfl hg26 ?_
                      refine t_q (q_fieldAddr 8 Tryd.runUnderlying25 rfl Tryd.sizeOf3 (by decide) rfl rfl) ?_
                      refine t_yes rfl rfl hg26 ?_
                      refine t_q (q_load1 Tryd.isAgg3 rfl (hS.cell (by repeat first | exact .here _ _ | assumption | apply Pick.there) rfl)) ?_
                      refine t_yes rfl rfl hg26 ?_
                      refine t_q (q_fieldAddr 8 Tryd.runUnderlying25 rfl Tryd.sizeOf3 (by decide) rfl rfl) ?_
                      refine t_yes rfl rfl hg26 ?_
                      refine t_q (q_load1 Tryd.isAgg3 rfl (hS.cell (by repeat first | exact .here _ _ | assumption | apply Pick.there) rfl)) ?_
                      refine t_yes rfl rfl hg26 ?_
                      refine t_q (q_eql rfl rfl) ?_
                      refine t_q (q_pick_t rfl hg26) ?_
                      refine t_q (q_as (.bool _) rfl) ?_
                      refine t_nil ?_
                      refine c_ret ?_
                      refine r_one rfl rfl ?_
                      have hN := hS.nil
                      clear hS
                      refine ⟨congrArg (fun b => Ending.returned (.bool b)) ?_, hN⟩
                      clear hN
                      first
                        | exact (decide_eq_false hD).symm
                        | (rw [Bool.eq_iff_iff, decide_eq_true_iff (p := x.vw = y.vw), ru_iff]
                           clear hx hy
                           simp_all)
                    · intro hg26
                      have hg26d := of_decide_eq_false hg26
                      refine t_no rfl rfl (by rw [hg26]; decide) ?_
                      refine t_no rfl rfl (by rw [hg26]; decide) ?_
                      refine t_no rfl rfl (by rw [hg26]; decide) ?_
                      refine t_no rfl rfl (by rw [hg26]; decide) ?_
                      refine t_no rfl rfl (by rw [hg26]; decide) ?_
                      refine t_q (q_pick_f rfl hg26) ?_
                      refine t_q (q_as (.bool _) rfl) ?_
                      refine t_nil ?_
                      refine c_ret ?_
                      refine r_one rfl rfl ?_
                      have hN := hS.nil
                      clear hS
                      refine ⟨congrArg (fun b => Ending.returned (.bool b)) ?_, hN⟩
                      clear hN
                      first
                        | exact (decide_eq_false hD).symm
                        | (rw [Bool.eq_iff_iff, decide_eq_true_iff (p := x.vw = y.vw), ru_iff]
                           clear hx hy
                           simp_all)
                  · intro hg24
                    have hg24d := of_decide_eq_false hg24
                    refine t_no rfl rfl (by rw [hg24]; decide) ?_
                    refine t_no rfl rfl (by rw [hg24]; decide) ?_
                    refine t_no rfl rfl (by rw [hg24]; decide) ?_
                    refine t_no rfl rfl (by rw [hg24]; decide) ?_
                    refine t_no rfl rfl (by rw [hg24]; decide) ?_
                    refine t_q (q_pick_f rfl hg24) ?_
                    refine t_q (q_mv (.bool _) rfl) ?_
                    refine t_no rfl rfl (by decide) ?_
                    refine t_no rfl rfl (by decide) ?_
                    refine t_no rfl rfl (by decide) ?_
                    refine t_no rfl rfl (by decide) ?_
                    refine t_no rfl rfl (by decide) ?_
                    refine t_q (q_pick_f rfl rfl) ?_
                    refine t_q (q_as (.bool _) rfl) ?_
                    refine t_nil ?_
                    refine c_ret ?_
                    refine r_one rfl rfl ?_
                    have hN := hS.nil
                    clear hS
                    refine ⟨congrArg (fun b => Ending.returned (.bool b)) ?_, hN⟩
                    clear hN
                    first
                      | exact (decide_eq_false hD).symm
                      | (rw [Bool.eq_iff_iff, decide_eq_true_iff (p := x.vw = y.vw), ru_iff]
                         clear hx hy
                         simp_all)
                · intro hg22
                  have hg22d := of_decide_eq_false hg22
                  refine t_no rfl rfl (by rw [hg22]; decide) ?_
                  refine t_no rfl rfl (by rw [hg22]; decide) ?_
                  refine t_no rfl rfl (by rw [hg22]; decide) ?_
                  refine t_no rfl rfl (by rw [hg22]; decide) ?_
                  refine t_no rfl rfl (by rw [hg22]; decide) ?_
                  refine t_q (q_pick_f rfl hg22) ?_
                  refine t_q (q_mv (.bool _) rfl) ?_
                  refine t_no rfl rfl (by decide) ?_
                  refine t_no rfl rfl (by decide) ?_
                  refine t_no rfl rfl (by decide) ?_
                  refine t_no rfl rfl (by decide) ?_
                  refine t_no rfl rfl (by decide) ?_
                  refine t_q (q_pick_f rfl rfl) ?_
                  refine t_q (q_mv (.bool _) rfl) ?_
                  refine t_no rfl rfl (by decide) ?_
                  refine t_no rfl rfl (by decide) ?_
                  refine t_no rfl rfl (by decide) ?_
                  refine t_no rfl rfl (by decide) ?_
                  refine t_no rfl rfl (by decide) ?_
                  refine t_q (q_pick_f rfl rfl) ?_
                  refine t_q (q_as (.bool _) rfl) ?_
                  refine t_nil ?_
                  refine c_ret ?_
                  refine r_one rfl rfl ?_
                  have hN := hS.nil
                  clear hS
                  refine ⟨congrArg (fun b => Ending.returned (.bool b)) ?_, hN⟩
                  clear hN
                  first
                    | exact (decide_eq_false hD).symm
                    | (rw [Bool.eq_iff_iff, decide_eq_true_iff (p := x.vw = y.vw), ru_iff]
                       clear hx hy
                       simp_all)
              · intro hg20
                have hg20d := of_decide_eq_false hg20
                refine t_no rfl rfl (by rw [hg20]; decide) ?_
                refine t_no rfl rfl (by rw [hg20]; decide) ?_
                refine t_no rfl rfl (by rw [hg20]; decide) ?_
                refine t_no rfl rfl (by rw [hg20]; decide) ?_
                refine t_no rfl rfl (by rw [hg20]; decide) ?_
                refine t_q (q_pick_f rfl hg20) ?_
                refine t_q (q_mv (.bool _) rfl) ?_
                refine t_no rfl rfl (by decide) ?_
                refine t_no rfl rfl (by decide) ?_
                refine t_no rfl rfl (by decide) ?_
                refine t_no rfl rfl (by decide) ?_
                refine t_no rfl rfl (by decide) ?_
                refine t_q (q_pick_f rfl rfl) ?_
                refine t_q (q_mv (.bool _) rfl) ?_
                refine t_no rfl rfl (by decide) ?_
                refine t_no rfl rfl (by decide) ?_
                refine t_no rfl rfl (by decide) ?_
                refine t_no rfl rfl (by decide) ?_
                refine t_no rfl rfl (by decide) ?_
                refine t_q (q_pick_f rfl rfl) ?_
                refine t_q (q_mv (.bool _) rfl) ?_
                refine t_no rfl rfl (by decide) ?_
                refine t_no rfl rfl (by decide) ?_
                refine t_no rfl rfl (by decide) ?_
                refine t_no rfl rfl (by decide) ?_
                refine t_no rfl rfl (by decide) ?_
                refine t_q (q_pick_f rfl rfl) ?_
                refine t_q (q_as (.bool _) rfl) ?_
                refine t_nil ?_
                refine c_ret ?_
                refine r_one rfl rfl ?_
                have hN := hS.nil
                clear hS
                refine ⟨congrArg (fun b => Ending.returned (.bool b)) ?_, hN⟩
                clear hN
                first
                  | exact (decide_eq_false hD).symm
                  | (rw [Bool.eq_iff_iff, decide_eq_true_iff (p := x.vw = y.vw), ru_iff]
                     clear hx hy
                     simp_all)
            · intro hg18
              have hg18d := of_decide_eq_false hg18
              refine t_no rfl rfl (by rw [hg18]; decide) ?_
              refine t_no rfl rfl (by rw [hg18]; decide) ?_
              refine t_no rfl rfl (by rw [hg18]; decide) ?_
              refine t_no rfl rfl (by rw [hg18]; decide) ?_
              refine t_no rfl rfl (by rw [hg18]; decide) ?_
              refine t_q (q_pick_f rfl hg18) ?_
              refine t_q (q_mv (.bool _) rfl) ?_
              refine t_no rfl rfl (by decide) ?_
              refine t_no rfl rfl (by decide) ?_
              refine t_no rfl rfl (by decide) ?_
              refine t_no rfl rfl (by decide) ?_
              refine t_no rfl rfl (by decide) ?_
              refine t_q (q_pick_f rfl rfl) ?_
              refine t_q (q_mv (.bool _) rfl) ?_
              refine t_no rfl rfl (by decide) ?_
              refine t_no rfl rfl (by decide) ?_
              refine t_no rfl rfl (by decide) ?_
              refine t_no rfl rfl (by decide) ?_
              refine t_no rfl rfl (by decide) ?_
              refine t_q (q_pick_f rfl rfl) ?_
              refine t_q (q_mv (.bool _) rfl) ?_
              refine t_no rfl rfl (by decide) ?_
              refine t_no rfl rfl (by decide) ?_
              refine t_no rfl rfl (by decide) ?_
              refine t_no rfl rfl (by decide) ?_
              refine t_no rfl rfl (by decide) ?_
              refine t_q (q_pick_f rfl rfl) ?_
              refine t_q (q_mv (.bool _) rfl) ?_
              refine t_no rfl rfl (by decide) ?_
              refine t_no rfl rfl (by decide) ?_
              refine t_no rfl rfl (by decide) ?_
              refine t_no rfl rfl (by decide) ?_
              refine t_no rfl rfl (by decide) ?_
              refine t_q (q_pick_f rfl rfl) ?_
              refine t_q (q_as (.bool _) rfl) ?_
              refine t_nil ?_
              refine c_ret ?_
              refine r_one rfl rfl ?_
              have hN := hS.nil
              clear hS
              refine ⟨congrArg (fun b => Ending.returned (.bool b)) ?_, hN⟩
              clear hN
              first
                | exact (decide_eq_false hD).symm
                | (rw [Bool.eq_iff_iff, decide_eq_true_iff (p := x.vw = y.vw), ru_iff]
                   clear hx hy
                   simp_all)
          · intro hg16
            have hg16d := of_decide_eq_false hg16
            refine t_no rfl rfl (by rw [hg16]; decide) ?_
            refine t_no rfl rfl (by rw [hg16]; decide) ?_
            refine t_no rfl rfl (by rw [hg16]; decide) ?_
            refine t_no rfl rfl (by rw [hg16]; decide) ?_
            refine t_no rfl rfl (by rw [hg16]; decide) ?_
            refine t_q (q_pick_f rfl hg16) ?_
            refine t_q (q_mv (.bool _) rfl) ?_
            refine t_no rfl rfl (by decide) ?_
            refine t_no rfl rfl (by decide) ?_
            refine t_no rfl rfl (by decide) ?_
            refine t_no rfl rfl (by decide) ?_
            refine t_no rfl rfl (by decide) ?_
            refine t_q (q_pick_f rfl rfl) ?_
            refine t_q (q_mv (.bool _) rfl) ?_
            refine t_no rfl rfl (by decide) ?_
            refine t_no rfl rfl (by decide) ?_
            refine t_no rfl rfl (by decide) ?_
            refine t_no rfl rfl (by decide) ?_
            refine t_no rfl rfl (by decide) ?_
            refine t_q (q_pick_f rfl rfl) ?_
            refine t_q (q_mv (.bool _) rfl) ?_
            refine t_no rfl rfl (by decide) ?_
            refine t_no rfl rfl (by decide) ?_
            refine t_no rfl rfl (by decide) ?_
            refine t_no rfl rfl (by decide) ?_
            refine t_no rfl rfl (by decide) ?_
            refine t_q (q_pick_f rfl rfl) ?_
            refine t_q (q_mv (.bool _) rfl) ?_
            refine t_no rfl rfl (by decide) ?_
            refine t_no rfl rfl (by decide) ?_
            refine t_no rfl rfl (by decide) ?_
            refine t_no rfl rfl (by decide) ?_
            refine t_no rfl rfl (by decide) ?_
            refine t_q (q_pick_f rfl rfl) ?_
            refine t_q (q_mv (.bool _) rfl) ?_
            refine t_no rfl rfl (by decide) ?_
            refine t_no rfl rfl (by decide) ?_
            refine t_no rfl rfl (by decide) ?_
            refine t_no rfl rfl (by decide) ?_
            refine t_no rfl rfl (by decide) ?_
            refine t_q (q_pick_f rfl rfl) ?_
            refine t_q (q_as (.bool _) rfl) ?_
            refine t_nil ?_
            refine c_ret ?_
            refine r_one rfl rfl ?_
            have hN := hS.nil
            clear hS
            refine ⟨congrArg (fun b => Ending.returned (.bool b)) ?_, hN⟩
            clear hN
            first
              | exact (decide_eq_false hD).symm
              | (rw [Bool.eq_iff_iff, decide_eq_true_iff (p := x.vw = y.vw), ru_iff]
                 clear hx hy
                 simp_all)
def RuV.own (x : RuV) (A : Option Addr) (c : Nat) (B : Option Addr) (d : Nat) : RuV := { x with ticks := ⟨A, c, x.ticks.l⟩, fees := ⟨B, d, x.fees.l⟩ }
theorem RuV.Gd.own {w : World} {x : RuV} {A B : Option Addr} {c d : Nat} (h : x.Gd W) (h1 : RdTk w A x.ticks.l) (h2 : RdTr w B x.fees.l) : (x.own A c B d).Gd w := ⟨h.version, h.lot, h.band, h.round, h.priority, h.self, h.layout, h1, h.tin, h.tle, h2, h.fin, h.fle⟩
end Go.Proofs.YtmgobaojioaioaaDoor
