/- Messages: when two are the same, the document's; the program's as the document's. -/
import Derived.Test.YtlppgpidakfnlaaXa
namespace Go.Proofs.Ytlppgpidakfnlaa
open Go Go.RowKit Go.Lib
variable {W : World}
theorem str_eq {a b : List UInt8} (h : ¬ (a ≠ b)) : a = b := by simpa using h
attribute [local irreducible] blkA rowA
set_option maxHeartbeats 2000000 in
set_option maxRecDepth 100000 in
theorem qwsame_calls {x y : MsgV} (hx : x.Gd W) (hy : y.Gd W) : Calls Try.prog 63 #[.agg x.cells.toArray, .agg y.cells.toArray] W fun e w' => e = .returned (.bool (decide (x.vw = y.vw))) ∧ St W w' [] := by
 have hS := St.init W
 refine calls_of_wpE (args := [_, _]) Try.func63 rfl rfl rfl ?_
 refine c_seq (c_region ?_)
 refine t_box (v := (.agg _)) rfl rfl hS (fun g2 w hS => ?_)
 replace hS := hS.recast (show _ = bmA g2 119 x from rfl)
 refine t_box (v := (.agg _)) rfl rfl hS (fun g3 w hS => ?_)
 replace hS := hS.recast (show _ = bmA g3 119 y from rfl)
 refine t_q (q_assign) ?_
 refine t_nil (c_seq (c_seq (c_region ?_)))
 refine t_q (q_fieldAddr 8 Try.runUnderlying119 rfl Try.sizeOf117 (by decide) rfl rfl) ?_
 refine t_q (q_load1 Try.isAgg117 rfl (hS.cell (by repeat constructor) rfl)) ?_
 refine t_q (q_len_slice Try.runUnderlying117 rfl) ?_
 refine t_q (q_fieldAddr 8 Try.runUnderlying119 rfl Try.sizeOf117 (by decide) rfl rfl) ?_
 refine t_q (q_load1 Try.isAgg117 rfl (hS.cell (by repeat constructor) rfl)) ?_
 refine t_q (q_len_slice Try.runUnderlying117 rfl) ?_
 refine t_q (q_neq rfl rfl) ?_
 refine t_nil ?_
 refine c_cond rfl ?_ ?_
 ·
  intro hc2
  have hc2d := of_decide_eq_true hc2
  have hL : ¬ (x.entries.l.map EntV.vw = y.entries.l.map EntV.vw) := agree_len (by omega)
  refine c_seq (c_region ?_)
  refine t_q (q_assign) ?_
  refine t_nil (c_ret ?_)
  refine r_one rfl rfl ?_
  have hN := hS.nil
  clear hS
  refine ⟨congrArg (fun b => Ending.returned (.bool b)) ?_, hN⟩
  clear hN
  rw [Bool.eq_iff_iff, decide_eq_true_iff (p := x.vw = y.vw), vw_iff]
  clear hx hy
  simp_all [sameB]
 ·
  intro hc2
  have hc2d := of_decide_eq_false hc2
  refine c_skip (c_seq (c_seq (c_region ?_)))
  refine t_q (q_assign) ?_
  refine t_nil (c_block ?_)
  refine c_loop [4, 5, 6, 7, 16, 17, 18, 19, 20, 21, 22, 23, 24, 25, 26, 27, 28, 29, 30, 31, 32, 33, 34, 35, 36, 37, 38, 39, 40, 41, 42, 43, 44, 45, 46, 47, 48, 49, 50, 51, 52, 53] (fun k σ w => ∃ j : Nat, σ 5 = .int .i64 (j : Int) ∧ j ≤ x.entries.l.length ∧ x.entries.l.length - j ≤ k ∧ agree x.entries.l y.entries.l j ∧ St W w [bmA g2 119 x, bmA g3 119 y]) (x.entries.l.length) rfl (⟨0, rfl, by omega, by omega, (fun i h => absurd h (by omega)), (((hS.pick (A := bmA g3 119 y) (by repeat constructor)).pick (A := bmA g2 119 x) (by repeat constructor)))⟩) ?_
  skip
  rintro k σ w ⟨j, h5, hj, hk, hag, hS⟩
  refine c_know 5 h5 ?_
  clear h5
  have hele := hx.ele
  refine c_seq (c_seq (c_region ?_))
  refine t_q (q_mv (.int _ _) rfl) ?_
  refine t_q (q_fieldAddr 8 Try.runUnderlying119 rfl Try.sizeOf117 (by decide) rfl rfl) ?_
  refine t_q (q_load1 Try.isAgg117 rfl (hS.cell (by repeat constructor) rfl)) ?_
  refine t_q (q_len_slice Try.runUnderlying117 rfl) ?_
  refine t_q (q_lss rfl rfl) ?_
  refine t_nil ?_
  refine c_cond rfl ?_ ?_
  ·
   intro hc4
   have hc4d := of_decide_eq_true hc4
   refine c_skip (c_seq (c_block (c_seq (c_draw ?_))))
   refine d_keep2 (bmA g2 119 x) (bmA g3 119 y) 14 [0, 1, 2, 3, 4, 5, 6, 7, 8, 9, 10, 11, 12, 13] [0, 1, 2, 3, 4, 10, 11, 12, 5, 6, 7, 8, 9, 13] hS rfl (by kernel_rfl) (by kernel_rfl) (by kernel_rfl) (by kernel_rfl) (fun hap hsel w hS => ?_)
   refine p_q hap hsel 0 rfl rfl ⟨_, ((hS.pick (A := bmA g3 119 y) (by repeat constructor)).pick (A := bmA g2 119 x) (by repeat constructor))⟩ (fun w hI => q_fieldAddr 8 Try.runUnderlying119 rfl Try.sizeOf117 (by decide) rfl rfl) ?_
   refine p_q hap hsel 1 rfl rfl ⟨_, ((hS.pick (A := bmA g3 119 y) (by repeat constructor)).pick (A := bmA g2 119 x) (by repeat constructor))⟩ (fun w hI => q_load1 Try.isAgg117 rfl (hI.choose_spec.cell (by repeat constructor) rfl)) ?_
   refine p_q hap hsel 2 rfl rfl ⟨_, ((hS.pick (A := bmA g3 119 y) (by repeat constructor)).pick (A := bmA g2 119 x) (by repeat constructor))⟩ (fun w hI => q_mv (.int _ _) rfl) ?_
   refine p_index hap hsel 3 rfl rfl ⟨_, ((hS.pick (A := bmA g3 119 y) (by repeat constructor)).pick (A := bmA g2 119 x) (by repeat constructor))⟩ Try.runUnderlying117 Try.sizeOf174 (fun w hI => Rd.st hx.erd hI.choose_spec) rfl rfl (by omega) (fun ad5 hl5 hx5 => ?_)
   refine p_q hap hsel 4 rfl rfl ⟨_, ((hS.pick (A := bmA g3 119 y) (by repeat constructor)).pick (A := bmA g2 119 x) (by repeat constructor))⟩ (fun w hI => q_loadN Try.isAgg174 Try.sizeOf174 rfl hl5 (hx5 w hI)) ?_
   refine p_q hap hsel 5 rfl rfl ⟨_, ((hS.pick (A := bmA g3 119 y) (by repeat constructor)).pick (A := bmA g2 119 x) (by repeat constructor))⟩ (fun w hI => q_fieldAddr 8 Try.runUnderlying119 rfl Try.sizeOf117 (by decide) rfl rfl) ?_
   refine p_q hap hsel 6 rfl rfl ⟨_, ((hS.pick (A := bmA g3 119 y) (by repeat constructor)).pick (A := bmA g2 119 x) (by repeat constructor))⟩ (fun w hI => q_load1 Try.isAgg117 rfl (hI.choose_spec.cell (by repeat constructor) rfl)) ?_
   refine p_q hap hsel 7 rfl rfl ⟨_, ((hS.pick (A := bmA g3 119 y) (by repeat constructor)).pick (A := bmA g2 119 x) (by repeat constructor))⟩ (fun w hI => q_mv (.int _ _) rfl) ?_
   refine p_index hap hsel 8 rfl rfl ⟨_, ((hS.pick (A := bmA g3 119 y) (by repeat constructor)).pick (A := bmA g2 119 x) (by repeat constructor))⟩ Try.runUnderlying117 Try.sizeOf174 (fun w hI => Rd.st hy.erd hI.choose_spec) rfl rfl (by omega) (fun ad6 hl6 hx6 => ?_)
   refine p_q hap hsel 9 rfl rfl ⟨_, ((hS.pick (A := bmA g3 119 y) (by repeat constructor)).pick (A := bmA g2 119 x) (by repeat constructor))⟩ (fun w hI => q_loadN Try.isAgg174 Try.sizeOf174 rfl hl6 (hx6 w hI)) ?_
   refine p_two 10 11 rfl rfl (by kernel_rfl) ?_ ?_
   ·
    refine t_alloc Try.zeroValue174 rfl hS (fun g6 w hS => ?_)
    refine t_nil ?_
    refine ⟨.inr ⟨_, ((hS.pick (A := bmA g3 119 y) (by repeat constructor)).pick (A := bmA g2 119 x) (by repeat constructor))⟩, ?_⟩
    refine p_one 11 rfl (by kernel_rfl) ?_
    refine t_alloc Try.zeroValue174 rfl hS (fun g7 w hS => ?_)
    refine t_nil ?_
    refine ⟨.inr ⟨_, ((hS.pick (A := bmA g3 119 y) (by repeat constructor)).pick (A := bmA g2 119 x) (by repeat constructor))⟩, ?_⟩
    refine p_one 12 rfl (by kernel_rfl) ?_
    refine t_store (v := (.agg _)) Try.sizeOf174 hS (by repeat constructor) rfl rfl rfl rfl rfl rfl (fun w hS => ?_)
    replace hS := hS.recast (show blkA g6 174 _ = blkA g6 174 [.int .u64 (x.entries.l.getD j default).index, .int .u64 (x.entries.l.getD j default).term, .slice (x.entries.l.getD j default).body.A (x.entries.l.getD j default).body.l.length (x.entries.l.getD j default).body.c] from rfl)
    refine t_nil ?_
    refine ⟨.inr ⟨_, ((hS.pick (A := bmA g3 119 y) (by repeat constructor)).pick (A := bmA g2 119 x) (by repeat constructor))⟩, ?_⟩
    refine p_one 13 rfl (by kernel_rfl) ?_
    refine t_store (v := (.agg _)) Try.sizeOf174 hS (by repeat constructor) rfl rfl rfl rfl rfl rfl (fun w hS => ?_)
    replace hS := hS.recast (show blkA g7 174 _ = blkA g7 174 [.int .u64 (y.entries.l.getD j default).index, .int .u64 (y.entries.l.getD j default).term, .slice (y.entries.l.getD j default).body.A (y.entries.l.getD j default).body.l.length (y.entries.l.getD j default).body.c] from rfl)
    refine t_nil ?_
    refine ⟨.inl (by kernel_rfl), ?_⟩
    refine p_end (by kernel_rfl) ?_
    refine c_seq (c_region ?_)
    refine t_q (q_fieldAddr 0 Try.runUnderlying174 rfl Try.sizeOf43 (by decide) rfl rfl) ?_
    refine t_q (q_load1 Try.isAgg43 rfl (hS.cell (by repeat constructor) rfl)) ?_
    refine t_q (q_fieldAddr 0 Try.runUnderlying174 rfl Try.sizeOf43 (by decide) rfl rfl) ?_
    refine t_q (q_load1 Try.isAgg43 rfl (hS.cell (by repeat constructor) rfl)) ?_
    refine t_q (q_neq rfl rfl) ?_
    refine t_q (q_mv (.bool _) rfl) ?_
    refine t_case 38 rfl ?_ ?_
    ·
     intro hg8
     have hg8d := of_decide_eq_true hg8
     refine t_no rfl rfl (by rw [hg8]; decide) ?_
     refine t_no rfl rfl (by rw [hg8]; decide) ?_
     refine t_no rfl rfl (by rw [hg8]; decide) ?_
     refine t_no rfl rfl (by rw [hg8]; decide) ?_
     refine t_no rfl rfl (by rw [hg8]; decide) ?_
     refine t_q (q_pick_t rfl hg8) ?_
     refine t_q (q_mv (.bool _) rfl) ?_
     refine t_no rfl rfl (by decide) ?_
     refine t_no rfl rfl (by decide) ?_
     refine t_no rfl rfl (by decide) ?_
     refine t_no rfl rfl (by decide) ?_
     refine t_no rfl rfl (by decide) ?_
     refine t_no rfl rfl (by decide) ?_
     refine t_no rfl rfl (by decide) ?_
     refine t_q (q_pick_t rfl rfl) ?_
     refine t_nil ?_
     refine c_cond_t rfl rfl ?_
     have hL : ¬ (x.entries.l.map EntV.vw = y.entries.l.map EntV.vw) := agree_not (j := j) (by omega) (by omega) (fun he => by
       unfold EntV.vw at he
       rw [Prod.mk.injEq, Prod.mk.injEq] at he
       first
         | omega
         | exact (by assumption : (x.entries.l.getD j default).body.l ≠ (y.entries.l.getD j default).body.l) he.2.2)
     refine c_seq (c_region ?_)
     refine t_q (q_assign) ?_
     refine t_nil (c_ret ?_)
     refine r_one rfl rfl ?_
     have hN := hS.nil
     clear hS
     refine ⟨congrArg (fun b => Ending.returned (.bool b)) ?_, hN⟩
     clear hN
     rw [Bool.eq_iff_iff, decide_eq_true_iff (p := x.vw = y.vw), vw_iff]
     clear hx hy
     simp_all [sameB]
    ·
     intro hg8
     have hg8d := of_decide_eq_false hg8
     refine t_yes rfl rfl hg8 ?_
     refine t_q (q_fieldAddr 1 Try.runUnderlying174 rfl Try.sizeOf43 (by decide) rfl rfl) ?_
     refine t_yes rfl rfl hg8 ?_
     refine t_q (q_load1 Try.isAgg43 rfl (hS.cell (by repeat constructor) rfl)) ?_
     refine t_yes rfl rfl hg8 ?_
     refine t_q (q_fieldAddr 1 Try.runUnderlying174 rfl Try.sizeOf43 (by decide) rfl rfl) ?_
     refine t_yes rfl rfl hg8 ?_
     refine t_q (q_load1 Try.isAgg43 rfl (hS.cell (by repeat constructor) rfl)) ?_
     refine t_yes rfl rfl hg8 ?_
     refine t_q (q_neq rfl rfl) ?_
     refine t_q (q_pick_f rfl hg8) ?_
     refine t_q (q_mv (.bool _) rfl) ?_
     refine t_case 45 rfl ?_ ?_
     ·
      intro hg10
      have hg10d := of_decide_eq_true hg10
      refine t_no rfl rfl (by rw [hg10]; decide) ?_
      refine t_no rfl rfl (by rw [hg10]; decide) ?_
      refine t_no rfl rfl (by rw [hg10]; decide) ?_
      refine t_no rfl rfl (by rw [hg10]; decide) ?_
      refine t_no rfl rfl (by rw [hg10]; decide) ?_
      refine t_no rfl rfl (by rw [hg10]; decide) ?_
      refine t_no rfl rfl (by rw [hg10]; decide) ?_
      refine t_q (q_pick_t rfl hg10) ?_
      refine t_nil ?_
      refine c_cond_t rfl rfl ?_
      have hL : ¬ (x.entries.l.map EntV.vw = y.entries.l.map EntV.vw) := agree_not (j := j) (by omega) (by omega) (fun he => by
        unfold EntV.vw at he
        rw [Prod.mk.injEq, Prod.mk.injEq] at he
        first
          | omega
          | exact (by assumption : (x.entries.l.getD j default).body.l ≠ (y.entries.l.getD j default).body.l) he.2.2)
      refine c_seq (c_region ?_)
      refine t_q (q_assign) ?_
      refine t_nil (c_ret ?_)
      refine r_one rfl rfl ?_
      have hN := hS.nil
      clear hS
      refine ⟨congrArg (fun b => Ending.returned (.bool b)) ?_, hN⟩
      clear hN
      rw [Bool.eq_iff_iff, decide_eq_true_iff (p := x.vw = y.vw), vw_iff]
      clear hx hy
      simp_all [sameB]
     ·
      intro hg10
      have hg10d := of_decide_eq_false hg10
      refine t_yes rfl rfl hg10 ?_
      refine t_q (q_fieldAddr 2 Try.runUnderlying174 rfl Try.sizeOf25 (by decide) rfl rfl) ?_
      refine t_yes rfl rfl hg10 ?_
      refine t_q (q_load1 Try.isAgg25 rfl (hS.cell (by repeat constructor) rfl)) ?_
      refine t_yes rfl rfl hg10 ?_
      refine t_q (q_string Try.runUnderlying25 Try.runUnderlying5 Try.runUnderlying9 rfl rfl (Rd.st (hx.eok _ (getD_mem (l := x.entries.l) (d := default) (by omega))).rd hS)) ?_
      refine t_yes rfl rfl hg10 ?_
      refine t_q (q_fieldAddr 2 Try.runUnderlying174 rfl Try.sizeOf25 (by decide) rfl rfl) ?_
      refine t_yes rfl rfl hg10 ?_
      refine t_q (q_load1 Try.isAgg25 rfl (hS.cell (by repeat constructor) rfl)) ?_
      refine t_yes rfl rfl hg10 ?_
      refine t_q (q_string Try.runUnderlying25 Try.runUnderlying5 Try.runUnderlying9 rfl rfl (Rd.st (hy.eok _ (getD_mem (l := y.entries.l) (d := default) (by omega))).rd hS)) ?_
      refine t_yes rfl rfl hg10 ?_
      refine t_q (q_neq_string rfl rfl) ?_
      refine t_q (q_pick_f rfl hg10) ?_
      refine t_nil ?_
      refine c_cond rfl ?_ ?_
      ·
       intro hc12
       have hc12d := of_decide_eq_true hc12
       have hL : ¬ (x.entries.l.map EntV.vw = y.entries.l.map EntV.vw) := agree_not (j := j) (by omega) (by omega) (fun he => by
         unfold EntV.vw at he
         rw [Prod.mk.injEq, Prod.mk.injEq] at he
         first
           | omega
           | exact (by assumption : (x.entries.l.getD j default).body.l ≠ (y.entries.l.getD j default).body.l) he.2.2)
       refine c_seq (c_region ?_)
       refine t_q (q_assign) ?_
       refine t_nil (c_ret ?_)
       refine r_one rfl rfl ?_
       have hN := hS.nil
       clear hS
       refine ⟨congrArg (fun b => Ending.returned (.bool b)) ?_, hN⟩
       clear hN
       rw [Bool.eq_iff_iff, decide_eq_true_iff (p := x.vw = y.vw), vw_iff]
       clear hx hy
       simp_all [sameB]
      ·
       intro hc12
       have hc12d := of_decide_eq_false hc12
       have heq : (x.entries.l.getD j default).vw = (y.entries.l.getD j default).vw := by
         unfold EntV.vw
         rw [Prod.mk.injEq, Prod.mk.injEq]
         refine ⟨by omega, by omega, str_eq (by assumption)⟩
       refine c_skip (c_region ?_)
       refine t_q (q_mv (.int _ _) rfl) ?_
       refine t_q (q_add_i64 rfl rfl (by omega)) ?_
       refine t_q (q_as (.int _ _) rfl) ?_
       refine t_nil ?_
       exact ⟨k - 1, by omega, j + 1, rfl, by omega, by omega, agree_succ hag heq, (((hS.pick (A := bmA g3 119 y) (by repeat constructor)).pick (A := bmA g2 119 x) (by repeat constructor))).front2⟩
   ·
    refine t_alloc Try.zeroValue174 rfl hS (fun g7 w hS => ?_)
    refine t_nil ?_
    refine ⟨.inr ⟨_, ((hS.pick (A := bmA g3 119 y) (by repeat constructor)).pick (A := bmA g2 119 x) (by repeat constructor))⟩, ?_⟩
    refine p_one 10 rfl (by kernel_rfl) ?_
    refine t_alloc Try.zeroValue174 rfl hS (fun g6 w hS => ?_)
    refine t_nil ?_
    refine ⟨.inr ⟨_, ((hS.pick (A := bmA g3 119 y) (by repeat constructor)).pick (A := bmA g2 119 x) (by repeat constructor))⟩, ?_⟩
    refine p_one 12 rfl (by kernel_rfl) ?_
    refine t_store (v := (.agg _)) Try.sizeOf174 hS (by repeat constructor) rfl rfl rfl rfl rfl rfl (fun w hS => ?_)
    replace hS := hS.recast (show blkA g6 174 _ = blkA g6 174 [.int .u64 (x.entries.l.getD j default).index, .int .u64 (x.entries.l.getD j default).term, .slice (x.entries.l.getD j default).body.A (x.entries.l.getD j default).body.l.length (x.entries.l.getD j default).body.c] from rfl)
    refine t_nil ?_
    refine ⟨.inr ⟨_, ((hS.pick (A := bmA g3 119 y) (by repeat constructor)).pick (A := bmA g2 119 x) (by repeat constructor))⟩, ?_⟩
    refine p_one 13 rfl (by kernel_rfl) ?_
    refine t_store (v := (.agg _)) Try.sizeOf174 hS (by repeat constructor) rfl rfl rfl rfl rfl rfl (fun w hS => ?_)
    replace hS := hS.recast (show blkA g7 174 _ = blkA g7 174 [.int .u64 (y.entries.l.getD j default).index, .int .u64 (y.entries.l.getD j default).term, .slice (y.entries.l.getD j default).body.A (y.entries.l.getD j default).body.l.length (y.entries.l.getD j default).body.c] from rfl)
    refine t_nil ?_
    refine ⟨.inl (by kernel_rfl), ?_⟩
    refine p_end (by kernel_rfl) ?_
    refine c_seq (c_region ?_)
    refine t_q (q_fieldAddr 0 Try.runUnderlying174 rfl Try.sizeOf43 (by decide) rfl rfl) ?_
    refine t_q (q_load1 Try.isAgg43 rfl (hS.cell (by repeat constructor) rfl)) ?_
    refine t_q (q_fieldAddr 0 Try.runUnderlying174 rfl Try.sizeOf43 (by decide) rfl rfl) ?_
    refine t_q (q_load1 Try.isAgg43 rfl (hS.cell (by repeat constructor) rfl)) ?_
    refine t_q (q_neq rfl rfl) ?_
    refine t_q (q_mv (.bool _) rfl) ?_
    refine t_case 38 rfl ?_ ?_
    ·
     intro hg14
     have hg14d := of_decide_eq_true hg14
     refine t_no rfl rfl (by rw [hg14]; decide) ?_
     refine t_no rfl rfl (by rw [hg14]; decide) ?_
     refine t_no rfl rfl (by rw [hg14]; decide) ?_
     refine t_no rfl rfl (by rw [hg14]; decide) ?_
     refine t_no rfl rfl (by rw [hg14]; decide) ?_
     refine t_q (q_pick_t rfl hg14) ?_
     refine t_q (q_mv (.bool _) rfl) ?_
     refine t_no rfl rfl (by decide) ?_
     refine t_no rfl rfl (by decide) ?_
     refine t_no rfl rfl (by decide) ?_
     refine t_no rfl rfl (by decide) ?_
     refine t_no rfl rfl (by decide) ?_
     refine t_no rfl rfl (by decide) ?_
     refine t_no rfl rfl (by decide) ?_
     refine t_q (q_pick_t rfl rfl) ?_
     refine t_nil ?_
     refine c_cond_t rfl rfl ?_
     have hL : ¬ (x.entries.l.map EntV.vw = y.entries.l.map EntV.vw) := agree_not (j := j) (by omega) (by omega) (fun he => by
       unfold EntV.vw at he
       rw [Prod.mk.injEq, Prod.mk.injEq] at he
       first
         | omega
         | exact (by assumption : (x.entries.l.getD j default).body.l ≠ (y.entries.l.getD j default).body.l) he.2.2)
     refine c_seq (c_region ?_)
     refine t_q (q_assign) ?_
     refine t_nil (c_ret ?_)
     refine r_one rfl rfl ?_
     have hN := hS.nil
     clear hS
     refine ⟨congrArg (fun b => Ending.returned (.bool b)) ?_, hN⟩
     clear hN
     rw [Bool.eq_iff_iff, decide_eq_true_iff (p := x.vw = y.vw), vw_iff]
     clear hx hy
     simp_all [sameB]
    ·
     intro hg14
     have hg14d := of_decide_eq_false hg14
     refine t_yes rfl rfl hg14 ?_
     refine t_q (q_fieldAddr 1 Try.runUnderlying174 rfl Try.sizeOf43 (by decide) rfl rfl) ?_
     refine t_yes rfl rfl hg14 ?_
     refine t_q (q_load1 Try.isAgg43 rfl (hS.cell (by repeat constructor) rfl)) ?_
     refine t_yes rfl rfl hg14 ?_
     refine t_q (q_fieldAddr 1 Try.runUnderlying174 rfl Try.sizeOf43 (by decide) rfl rfl) ?_
     refine t_yes rfl rfl hg14 ?_
     refine t_q (q_load1 Try.isAgg43 rfl (hS.cell (by repeat constructor) rfl)) ?_
     refine t_yes rfl rfl hg14 ?_
     refine t_q (q_neq rfl rfl) ?_
     refine t_q (q_pick_f rfl hg14) ?_
     refine t_q (q_mv (.bool _) rfl) ?_
     refine t_case 45 rfl ?_ ?_
     ·
      intro hg16
      have hg16d := of_decide_eq_true hg16
      refine t_no rfl rfl (by rw [hg16]; decide) ?_
      refine t_no rfl rfl (by rw [hg16]; decide) ?_
      refine t_no rfl rfl (by rw [hg16]; decide) ?_
      refine t_no rfl rfl (by rw [hg16]; decide) ?_
      refine t_no rfl rfl (by rw [hg16]; decide) ?_
      refine t_no rfl rfl (by rw [hg16]; decide) ?_
      refine t_no rfl rfl (by rw [hg16]; decide) ?_
      refine t_q (q_pick_t rfl hg16) ?_
      refine t_nil ?_
      refine c_cond_t rfl rfl ?_
      have hL : ¬ (x.entries.l.map EntV.vw = y.entries.l.map EntV.vw) := agree_not (j := j) (by omega) (by omega) (fun he => by
        unfold EntV.vw at he
        rw [Prod.mk.injEq, Prod.mk.injEq] at he
        first
          | omega
          | exact (by assumption : (x.entries.l.getD j default).body.l ≠ (y.entries.l.getD j default).body.l) he.2.2)
      refine c_seq (c_region ?_)
      refine t_q (q_assign) ?_
      refine t_nil (c_ret ?_)
      refine r_one rfl rfl ?_
      have hN := hS.nil
      clear hS
      refine ⟨congrArg (fun b => Ending.returned (.bool b)) ?_, hN⟩
      clear hN
      rw [Bool.eq_iff_iff, decide_eq_true_iff (p := x.vw = y.vw), vw_iff]
      clear hx hy
      simp_all [sameB]
     ·
      intro hg16
      have hg16d := of_decide_eq_false hg16
      refine t_yes rfl rfl hg16 ?_
      refine t_q (q_fieldAddr 2 Try.runUnderlying174 rfl Try.sizeOf25 (by decide) rfl rfl) ?_
      refine t_yes rfl rfl hg16 ?_
      refine t_q (q_load1 Try.isAgg25 rfl (hS.cell (by repeat constructor) rfl)) ?_
      refine t_yes rfl rfl hg16 ?_
      refine t_q (q_string Try.runUnderlying25 Try.runUnderlying5 Try.runUnderlying9 rfl rfl (Rd.st (hx.eok _ (getD_mem (l := x.entries.l) (d := default) (by omega))).rd hS)) ?_
      refine t_yes rfl rfl hg16 ?_
      refine t_q (q_fieldAddr 2 Try.runUnderlying174 rfl Try.sizeOf25 (by decide) rfl rfl) ?_
      refine t_yes rfl rfl hg16 ?_
      refine t_q (q_load1 Try.isAgg25 rfl (hS.cell (by repeat constructor) rfl)) ?_
      refine t_yes rfl rfl hg16 ?_
      refine t_q (q_string Try.runUnderlying25 Try.runUnderlying5 Try.runUnderlying9 rfl rfl (Rd.st (hy.eok _ (getD_mem (l := y.entries.l) (d := default) (by omega))).rd hS)) ?_
      refine t_yes rfl rfl hg16 ?_
      refine t_q (q_neq_string rfl rfl) ?_
      refine t_q (q_pick_f rfl hg16) ?_
      refine t_nil ?_
      refine c_cond rfl ?_ ?_
      ·
       intro hc18
       have hc18d := of_decide_eq_true hc18
       have hL : ¬ (x.entries.l.map EntV.vw = y.entries.l.map EntV.vw) := agree_not (j := j) (by omega) (by omega) (fun he => by
         unfold EntV.vw at he
         rw [Prod.mk.injEq, Prod.mk.injEq] at he
         first
           | omega
           | exact (by assumption : (x.entries.l.getD j default).body.l ≠ (y.entries.l.getD j default).body.l) he.2.2)
       refine c_seq (c_region ?_)
       refine t_q (q_assign) ?_
       refine t_nil (c_ret ?_)
       refine r_one rfl rfl ?_
       have hN := hS.nil
       clear hS
       refine ⟨congrArg (fun b => Ending.returned (.bool b)) ?_, hN⟩
       clear hN
       rw [Bool.eq_iff_iff, decide_eq_true_iff (p := x.vw = y.vw), vw_iff]
       clear hx hy
       simp_all [sameB]
      ·
       intro hc18
       have hc18d := of_decide_eq_false hc18
       have heq : (x.entries.l.getD j default).vw = (y.entries.l.getD j default).vw := by
         unfold EntV.vw
         rw [Prod.mk.injEq, Prod.mk.injEq]
         refine ⟨by omega, by omega, str_eq (by assumption)⟩
       refine c_skip (c_region ?_)
       refine t_q (q_mv (.int _ _) rfl) ?_
       refine t_q (q_add_i64 rfl rfl (by omega)) ?_
       refine t_q (q_as (.int _ _) rfl) ?_
       refine t_nil ?_
       exact ⟨k - 1, by omega, j + 1, rfl, by omega, by omega, agree_succ hag heq, (((hS.pick (A := bmA g3 119 y) (by repeat constructor)).pick (A := bmA g2 119 x) (by repeat constructor))).front2⟩
  ·
   intro hc4
   have hc4d := of_decide_eq_false hc4
   obtain rfl : j = x.entries.l.length := by omega
   have hL : x.entries.l.map EntV.vw = y.entries.l.map EntV.vw := agree_all (by omega) hag
   refine c_exit ?_
   refine ite_t rfl ?_
   refine c_seq (c_region ?_)
   refine t_q (q_fieldAddr 0 Try.runUnderlying119 rfl Try.sizeOf3 (by decide) rfl rfl) ?_
   refine t_q (q_load1 Try.isAgg3 rfl (hS.cell (by repeat constructor) rfl)) ?_
   refine t_q (q_fieldAddr 0 Try.runUnderlying119 rfl Try.sizeOf3 (by decide) rfl rfl) ?_
   refine t_q (q_load1 Try.isAgg3 rfl (hS.cell (by repeat constructor) rfl)) ?_
   refine t_q (q_eql rfl rfl) ?_
   refine t_q (q_mv (.bool _) rfl) ?_
   refine t_case 59 rfl ?_ ?_
   ·
    intro hg20
    have hg20d := of_decide_eq_true hg20
    refine t_yes rfl rfl hg20 ?_
    refine t_q (q_fieldAddr 1 Try.runUnderlying119 rfl Try.sizeOf3 (by decide) rfl rfl) ?_
    refine t_yes rfl rfl hg20 ?_
    refine t_q (q_load1 Try.isAgg3 rfl (hS.cell (by repeat constructor) rfl)) ?_
    refine t_yes rfl rfl hg20 ?_
    refine t_q (q_fieldAddr 1 Try.runUnderlying119 rfl Try.sizeOf3 (by decide) rfl rfl) ?_
    refine t_yes rfl rfl hg20 ?_
    refine t_q (q_load1 Try.isAgg3 rfl (hS.cell (by repeat constructor) rfl)) ?_
    refine t_yes rfl rfl hg20 ?_
    refine t_q (q_eql rfl rfl) ?_
    refine t_q (q_pick_t rfl hg20) ?_
    refine t_q (q_mv (.bool _) rfl) ?_
    refine t_case 66 rfl ?_ ?_
    ·
     intro hg22
     have hg22d := of_decide_eq_true hg22
     refine t_yes rfl rfl hg22 ?_
     refine t_q (q_fieldAddr 2 Try.runUnderlying119 rfl Try.sizeOf3 (by decide) rfl rfl) ?_
     refine t_yes rfl rfl hg22 ?_
     refine t_q (q_load1 Try.isAgg3 rfl (hS.cell (by repeat constructor) rfl)) ?_
     refine t_yes rfl rfl hg22 ?_
     refine t_q (q_fieldAddr 2 Try.runUnderlying119 rfl Try.sizeOf3 (by decide) rfl rfl) ?_
     refine t_yes rfl rfl hg22 ?_
     refine t_q (q_load1 Try.isAgg3 rfl (hS.cell (by repeat constructor) rfl)) ?_
     refine t_yes rfl rfl hg22 ?_
     refine t_q (q_eql rfl rfl) ?_
     refine t_q (q_pick_t rfl hg22) ?_
     refine t_q (q_mv (.bool _) rfl) ?_
     refine t_case 73 rfl ?_ ?_
     ·
      intro hg24
      have hg24d := of_decide_eq_true hg24
      refine t_yes rfl rfl hg24 ?_
      refine t_q (q_fieldAddr 3 Try.runUnderlying119 rfl Try.sizeOf43 (by decide) rfl rfl) ?_
      refine t_yes rfl rfl hg24 ?_
      refine t_q (q_load1 Try.isAgg43 rfl (hS.cell (by repeat constructor) rfl)) ?_
      refine t_yes rfl rfl hg24 ?_
      refine t_q (q_fieldAddr 3 Try.runUnderlying119 rfl Try.sizeOf43 (by decide) rfl rfl) ?_
      refine t_yes rfl rfl hg24 ?_
      refine t_q (q_load1 Try.isAgg43 rfl (hS.cell (by repeat constructor) rfl)) ?_
      refine t_yes rfl rfl hg24 ?_
      refine t_q (q_eql rfl rfl) ?_
      refine t_q (q_pick_t rfl hg24) ?_
      refine t_q (q_mv (.bool _) rfl) ?_
      refine t_case 80 rfl ?_ ?_
      ·
       intro hg26
       have hg26d := of_decide_eq_true hg26
       refine t_yes rfl rfl hg26 ?_
       refine t_q (q_fieldAddr 4 Try.runUnderlying119 rfl Try.sizeOf43 (by decide) rfl rfl) ?_
       refine t_yes rfl rfl hg26 ?_
       refine t_q (q_load1 Try.isAgg43 rfl (hS.cell (by repeat constructor) rfl)) ?_
       refine t_yes rfl rfl hg26 ?_
       refine t_q (q_fieldAddr 4 Try.runUnderlying119 rfl Try.sizeOf43 (by decide) rfl rfl) ?_
       refine t_yes rfl rfl hg26 ?_
       refine t_q (q_load1 Try.isAgg43 rfl (hS.cell (by repeat constructor) rfl)) ?_
       refine t_yes rfl rfl hg26 ?_
       refine t_q (q_eql rfl rfl) ?_
       refine t_q (q_pick_t rfl hg26) ?_
       refine t_q (q_mv (.bool _) rfl) ?_
       refine t_case 87 rfl ?_ ?_
       ·
        intro hg28
        have hg28d := of_decide_eq_true hg28
        refine t_yes rfl rfl hg28 ?_
        refine t_q (q_fieldAddr 5 Try.runUnderlying119 rfl Try.sizeOf43 (by decide) rfl rfl) ?_
        refine t_yes rfl rfl hg28 ?_
        refine t_q (q_load1 Try.isAgg43 rfl (hS.cell (by repeat constructor) rfl)) ?_
        refine t_yes rfl rfl hg28 ?_
        refine t_q (q_fieldAddr 5 Try.runUnderlying119 rfl Try.sizeOf43 (by decide) rfl rfl) ?_
        refine t_yes rfl rfl hg28 ?_
        refine t_q (q_load1 Try.isAgg43 rfl (hS.cell (by repeat constructor) rfl)) ?_
        refine t_yes rfl rfl hg28 ?_
        refine t_q (q_eql rfl rfl) ?_
        refine t_q (q_pick_t rfl hg28) ?_
        refine t_q (q_as (.bool _) rfl) ?_
        refine t_nil (c_seq (c_region ?_))
        refine t_q (q_mv (.bool _) rfl) ?_
        refine t_q (q_mv (.bool _) rfl) ?_
        refine t_case 95 rfl ?_ ?_
        ·
         intro hg30
         have hg30d := of_decide_eq_true hg30
         refine t_yes rfl rfl hg30 ?_
         refine t_q (q_fieldAddr 6 Try.runUnderlying119 rfl Try.sizeOf43 (by decide) rfl rfl) ?_
         refine t_yes rfl rfl hg30 ?_
         refine t_q (q_load1 Try.isAgg43 rfl (hS.cell (by repeat constructor) rfl)) ?_
         refine t_yes rfl rfl hg30 ?_
         refine t_q (q_fieldAddr 6 Try.runUnderlying119 rfl Try.sizeOf43 (by decide) rfl rfl) ?_
         refine t_yes rfl rfl hg30 ?_
         refine t_q (q_load1 Try.isAgg43 rfl (hS.cell (by repeat constructor) rfl)) ?_
         refine t_yes rfl rfl hg30 ?_
         refine t_q (q_eql rfl rfl) ?_
         refine t_q (q_pick_t rfl hg30) ?_
         refine t_q (q_mv (.bool _) rfl) ?_
         refine t_case 102 rfl ?_ ?_
         ·
          intro hg32
          have hg32d := of_decide_eq_true hg32
          refine t_yes rfl rfl hg32 ?_
          refine t_q (q_fieldAddr 7 Try.runUnderlying119 rfl Try.sizeOf4 (by decide) rfl rfl) ?_
          refine t_yes rfl rfl hg32 ?_
          refine t_q (q_load1 Try.isAgg4 rfl (hS.cell (by repeat constructor) rfl)) ?_
          refine t_yes rfl rfl hg32 ?_
          refine t_q (q_fieldAddr 7 Try.runUnderlying119 rfl Try.sizeOf4 (by decide) rfl rfl) ?_
          refine t_yes rfl rfl hg32 ?_
          refine t_q (q_load1 Try.isAgg4 rfl (hS.cell (by repeat constructor) rfl)) ?_
          refine t_yes rfl rfl hg32 ?_
          refine t_q (q_eql_bool Try.runUnderlying4 rfl rfl) ?_
          refine t_q (q_pick_t rfl hg32) ?_
          refine t_q (q_mv (.bool _) rfl) ?_
          refine t_case 109 rfl ?_ ?_
          ·
           intro hg36
           have hg36d := of_decide_eq_true hg36
           refine t_yes rfl rfl hg36 ?_
           refine t_q (q_fieldAddr 9 Try.runUnderlying119 rfl Try.sizeOf25 (by decide) rfl rfl) ?_
           refine t_yes rfl rfl hg36 ?_
           refine t_q (q_load1 Try.isAgg25 rfl (hS.cell (by repeat constructor) rfl)) ?_
           refine t_yes rfl rfl hg36 ?_
           refine t_q (q_string Try.runUnderlying25 Try.runUnderlying5 Try.runUnderlying9 rfl rfl (Rd.st hx.brd hS)) ?_
           refine t_yes rfl rfl hg36 ?_
           refine t_q (q_fieldAddr 9 Try.runUnderlying119 rfl Try.sizeOf25 (by decide) rfl rfl) ?_
           refine t_yes rfl rfl hg36 ?_
           refine t_q (q_load1 Try.isAgg25 rfl (hS.cell (by repeat constructor) rfl)) ?_
           refine t_yes rfl rfl hg36 ?_
           refine t_q (q_string Try.runUnderlying25 Try.runUnderlying5 Try.runUnderlying9 rfl rfl (Rd.st hy.brd hS)) ?_
           refine t_yes rfl rfl hg36 ?_
           refine t_q (q_eql_string rfl rfl) ?_
           refine t_q (q_pick_t rfl hg36) ?_
           refine t_q (q_mv (.bool _) rfl) ?_
           refine t_case 118 rfl ?_ ?_
           ·
            intro hg38
            have hg38d := of_decide_eq_true hg38
            refine t_yes rfl rfl hg38 ?_
            refine t_q (q_fieldAddr 10 Try.runUnderlying119 rfl Try.sizeOf43 (by decide) rfl rfl) ?_
            refine t_yes rfl rfl hg38 ?_
            refine t_q (q_load1 Try.isAgg43 rfl (hS.cell (by repeat constructor) rfl)) ?_
            refine t_yes rfl rfl hg38 ?_
            refine t_q (q_fieldAddr 10 Try.runUnderlying119 rfl Try.sizeOf43 (by decide) rfl rfl) ?_
            refine t_yes rfl rfl hg38 ?_
            refine t_q (q_load1 Try.isAgg43 rfl (hS.cell (by repeat constructor) rfl)) ?_
            refine t_yes rfl rfl hg38 ?_
            refine t_q (q_eql rfl rfl) ?_
            refine t_q (q_pick_t rfl hg38) ?_
            refine t_q (q_mv (.bool _) rfl) ?_
            refine t_case 125 rfl ?_ ?_
            ·
             intro hg40
             have hg40d := of_decide_eq_true hg40
             refine t_yes rfl rfl hg40 ?_
             refine t_q (q_fieldAddr 11 Try.runUnderlying119 rfl Try.sizeOf43 (by decide) rfl rfl) ?_
             refine t_yes rfl rfl hg40 ?_
             refine t_q (q_load1 Try.isAgg43 rfl (hS.cell (by repeat constructor) rfl)) ?_
             refine t_yes rfl rfl hg40 ?_
             refine t_q (q_fieldAddr 11 Try.runUnderlying119 rfl Try.sizeOf43 (by decide) rfl rfl) ?_
             refine t_yes rfl rfl hg40 ?_
             refine t_q (q_load1 Try.isAgg43 rfl (hS.cell (by repeat constructor) rfl)) ?_
             refine t_yes rfl rfl hg40 ?_
             refine t_q (q_eql rfl rfl) ?_
             refine t_q (q_pick_t rfl hg40) ?_
             refine t_q (q_mv (.bool _) rfl) ?_
             refine t_case 132 rfl ?_ ?_
             ·
              intro hg42
              have hg42d := of_decide_eq_true hg42
              refine t_yes rfl rfl hg42 ?_
              refine t_q (q_fieldAddr 12 Try.runUnderlying119 rfl Try.sizeOf112 (by decide) rfl rfl) ?_
              refine t_yes rfl rfl hg42 ?_
              refine t_q (q_load1 Try.isAgg112 rfl (hS.cell (by repeat constructor) rfl)) ?_
              refine t_yes rfl rfl hg42 ?_
              refine t_q (q_fieldAddr 12 Try.runUnderlying119 rfl Try.sizeOf112 (by decide) rfl rfl) ?_
              refine t_yes rfl rfl hg42 ?_
              refine t_q (q_load1 Try.isAgg112 rfl (hS.cell (by repeat constructor) rfl)) ?_
              refine t_yes rfl rfl hg42 ?_
              refine t_call Try.call113 (same_calls (a := x.events.l) (b := y.events.l) (Rd.st hx.vrd hS) (Rd.st hy.vrd hS) hx.vin hy.vin hx.vle hy.vle) rfl ?_
              rintro e w ⟨rfl, hT⟩
              refine ⟨_, rfl, ?_⟩
              replace hS := hS.after hT
              refine t_q (q_pick_t rfl hg42) ?_
              refine t_q (q_as (.bool _) rfl) ?_
              refine t_nil (c_ret ?_)
              refine r_one rfl rfl ?_
              have hN := hS.nil
              clear hS
              refine ⟨congrArg (fun b => Ending.returned (.bool b)) ?_, hN⟩
              clear hN
              rw [Bool.eq_iff_iff, decide_eq_true_iff (p := x.vw = y.vw), vw_iff]
              clear hx hy
              simp_all [sameB]
             ·
              intro hg42
              have hg42d := of_decide_eq_false hg42
              refine t_no rfl rfl (by rw [hg42]; decide) ?_
              refine t_no rfl rfl (by rw [hg42]; decide) ?_
              refine t_no rfl rfl (by rw [hg42]; decide) ?_
              refine t_no rfl rfl (by rw [hg42]; decide) ?_
              refine t_no rfl rfl (by rw [hg42]; decide) ?_
              refine t_q (q_pick_f rfl hg42) ?_
              refine t_q (q_as (.bool _) rfl) ?_
              refine t_nil (c_ret ?_)
              refine r_one rfl rfl ?_
              have hN := hS.nil
              clear hS
              refine ⟨congrArg (fun b => Ending.returned (.bool b)) ?_, hN⟩
              clear hN
              rw [Bool.eq_iff_iff, decide_eq_true_iff (p := x.vw = y.vw), vw_iff]
              clear hx hy
              simp_all [sameB]
            ·
             intro hg40
             have hg40d := of_decide_eq_false hg40
             refine t_no rfl rfl (by rw [hg40]; decide) ?_
             refine t_no rfl rfl (by rw [hg40]; decide) ?_
             refine t_no rfl rfl (by rw [hg40]; decide) ?_
             refine t_no rfl rfl (by rw [hg40]; decide) ?_
             refine t_no rfl rfl (by rw [hg40]; decide) ?_
             refine t_q (q_pick_f rfl hg40) ?_
             refine t_q (q_mv (.bool _) rfl) ?_
             refine t_no rfl rfl (by decide) ?_
             refine t_no rfl rfl (by decide) ?_
             refine t_no rfl rfl (by decide) ?_
             refine t_no rfl rfl (by decide) ?_
             refine t_no rfl rfl (by decide) ?_
             refine t_q (q_pick_f rfl rfl) ?_
             refine t_q (q_as (.bool _) rfl) ?_
             refine t_nil (c_ret ?_)
             refine r_one rfl rfl ?_
             have hN := hS.nil
             clear hS
             refine ⟨congrArg (fun b => Ending.returned (.bool b)) ?_, hN⟩
             clear hN
             rw [Bool.eq_iff_iff, decide_eq_true_iff (p := x.vw = y.vw), vw_iff]
             clear hx hy
             simp_all [sameB]
           ·
            intro hg38
            have hg38d := of_decide_eq_false hg38
            refine t_no rfl rfl (by rw [hg38]; decide) ?_
            refine t_no rfl rfl (by rw [hg38]; decide) ?_
            refine t_no rfl rfl (by rw [hg38]; decide) ?_
            refine t_no rfl rfl (by rw [hg38]; decide) ?_
            refine t_no rfl rfl (by rw [hg38]; decide) ?_
            refine t_q (q_pick_f rfl hg38) ?_
            refine t_q (q_mv (.bool _) rfl) ?_
            refine t_no rfl rfl (by decide) ?_
            refine t_no rfl rfl (by decide) ?_
            refine t_no rfl rfl (by decide) ?_
            refine t_no rfl rfl (by decide) ?_
            refine t_no rfl rfl (by decide) ?_
            refine t_q (q_pick_f rfl rfl) ?_
            refine t_q (q_mv (.bool _) rfl) ?_
            refine t_no rfl rfl (by decide) ?_
            refine t_no rfl rfl (by decide) ?_
            refine t_no rfl rfl (by decide) ?_
            refine t_no rfl rfl (by decide) ?_
            refine t_no rfl rfl (by decide) ?_
            refine t_q (q_pick_f rfl rfl) ?_
            refine t_q (q_as (.bool _) rfl) ?_
            refine t_nil (c_ret ?_)
            refine r_one rfl rfl ?_
            have hN := hS.nil
            clear hS
            refine ⟨congrArg (fun b => Ending.returned (.bool b)) ?_, hN⟩
            clear hN
            rw [Bool.eq_iff_iff, decide_eq_true_iff (p := x.vw = y.vw), vw_iff]
            clear hx hy
            simp_all [sameB]
          ·
           intro hg36
           have hg36d := of_decide_eq_false hg36
           refine t_no rfl rfl (by rw [hg36]; decide) ?_
           refine t_no rfl rfl (by rw [hg36]; decide) ?_
           refine t_no rfl rfl (by rw [hg36]; decide) ?_
           refine t_no rfl rfl (by rw [hg36]; decide) ?_
           refine t_no rfl rfl (by rw [hg36]; decide) ?_
           refine t_no rfl rfl (by rw [hg36]; decide) ?_
           refine t_no rfl rfl (by rw [hg36]; decide) ?_
           refine t_q (q_pick_f rfl hg36) ?_
           refine t_q (q_mv (.bool _) rfl) ?_
           refine t_no rfl rfl (by decide) ?_
           refine t_no rfl rfl (by decide) ?_
           refine t_no rfl rfl (by decide) ?_
           refine t_no rfl rfl (by decide) ?_
           refine t_no rfl rfl (by decide) ?_
           refine t_q (q_pick_f rfl rfl) ?_
           refine t_q (q_mv (.bool _) rfl) ?_
           refine t_no rfl rfl (by decide) ?_
           refine t_no rfl rfl (by decide) ?_
           refine t_no rfl rfl (by decide) ?_
           refine t_no rfl rfl (by decide) ?_
           refine t_no rfl rfl (by decide) ?_
           refine t_q (q_pick_f rfl rfl) ?_
           refine t_q (q_mv (.bool _) rfl) ?_
           refine t_no rfl rfl (by decide) ?_
           refine t_no rfl rfl (by decide) ?_
           refine t_no rfl rfl (by decide) ?_
           refine t_no rfl rfl (by decide) ?_
           refine t_no rfl rfl (by decide) ?_
           refine t_q (q_pick_f rfl rfl) ?_
           refine t_q (q_as (.bool _) rfl) ?_
           refine t_nil (c_ret ?_)
           refine r_one rfl rfl ?_
           have hN := hS.nil
           clear hS
           refine ⟨congrArg (fun b => Ending.returned (.bool b)) ?_, hN⟩
           clear hN
           rw [Bool.eq_iff_iff, decide_eq_true_iff (p := x.vw = y.vw), vw_iff]
           clear hx hy
           simp_all [sameB]
         ·
          intro hg32
          have hg32d := of_decide_eq_false hg32
          refine t_no rfl rfl (by rw [hg32]; decide) ?_
          refine t_no rfl rfl (by rw [hg32]; decide) ?_
          refine t_no rfl rfl (by rw [hg32]; decide) ?_
          refine t_no rfl rfl (by rw [hg32]; decide) ?_
          refine t_no rfl rfl (by rw [hg32]; decide) ?_
          refine t_q (q_pick_f rfl hg32) ?_
          refine t_q (q_mv (.bool _) rfl) ?_
          refine t_no rfl rfl (by decide) ?_
          refine t_no rfl rfl (by decide) ?_
          refine t_no rfl rfl (by decide) ?_
          refine t_no rfl rfl (by decide) ?_
          refine t_no rfl rfl (by decide) ?_
          refine t_no rfl rfl (by decide) ?_
          refine t_no rfl rfl (by decide) ?_
          refine t_q (q_pick_f rfl rfl) ?_
          refine t_q (q_mv (.bool _) rfl) ?_
          refine t_no rfl rfl (by decide) ?_
          refine t_no rfl rfl (by decide) ?_
          refine t_no rfl rfl (by decide) ?_
          refine t_no rfl rfl (by decide) ?_
          refine t_no rfl rfl (by decide) ?_
          refine t_q (q_pick_f rfl rfl) ?_
          refine t_q (q_mv (.bool _) rfl) ?_
          refine t_no rfl rfl (by decide) ?_
          refine t_no rfl rfl (by decide) ?_
          refine t_no rfl rfl (by decide) ?_
          refine t_no rfl rfl (by decide) ?_
          refine t_no rfl rfl (by decide) ?_
          refine t_q (q_pick_f rfl rfl) ?_
          refine t_q (q_mv (.bool _) rfl) ?_
          refine t_no rfl rfl (by decide) ?_
          refine t_no rfl rfl (by decide) ?_
          refine t_no rfl rfl (by decide) ?_
          refine t_no rfl rfl (by decide) ?_
          refine t_no rfl rfl (by decide) ?_
          refine t_q (q_pick_f rfl rfl) ?_
          refine t_q (q_as (.bool _) rfl) ?_
          refine t_nil (c_ret ?_)
          refine r_one rfl rfl ?_
          have hN := hS.nil
          clear hS
          refine ⟨congrArg (fun b => Ending.returned (.bool b)) ?_, hN⟩
          clear hN
          rw [Bool.eq_iff_iff, decide_eq_true_iff (p := x.vw = y.vw), vw_iff]
          clear hx hy
          simp_all [sameB]
        ·
         intro hg30
         have hg30d := of_decide_eq_false hg30
         refine t_no rfl rfl (by rw [hg30]; decide) ?_
         refine t_no rfl rfl (by rw [hg30]; decide) ?_
         refine t_no rfl rfl (by rw [hg30]; decide) ?_
         refine t_no rfl rfl (by rw [hg30]; decide) ?_
         refine t_no rfl rfl (by rw [hg30]; decide) ?_
         refine t_q (q_pick_f rfl hg30) ?_
         refine t_q (q_mv (.bool _) rfl) ?_
         refine t_no rfl rfl (by decide) ?_
         refine t_no rfl rfl (by decide) ?_
         refine t_no rfl rfl (by decide) ?_
         refine t_no rfl rfl (by decide) ?_
         refine t_no rfl rfl (by decide) ?_
         refine t_q (q_pick_f rfl rfl) ?_
         refine t_q (q_mv (.bool _) rfl) ?_
         refine t_no rfl rfl (by decide) ?_
         refine t_no rfl rfl (by decide) ?_
         refine t_no rfl rfl (by decide) ?_
         refine t_no rfl rfl (by decide) ?_
         refine t_no rfl rfl (by decide) ?_
         refine t_no rfl rfl (by decide) ?_
         refine t_no rfl rfl (by decide) ?_
         refine t_q (q_pick_f rfl rfl) ?_
         refine t_q (q_mv (.bool _) rfl) ?_
         refine t_no rfl rfl (by decide) ?_
         refine t_no rfl rfl (by decide) ?_
         refine t_no rfl rfl (by decide) ?_
         refine t_no rfl rfl (by decide) ?_
         refine t_no rfl rfl (by decide) ?_
         refine t_q (q_pick_f rfl rfl) ?_
         refine t_q (q_mv (.bool _) rfl) ?_
         refine t_no rfl rfl (by decide) ?_
         refine t_no rfl rfl (by decide) ?_
         refine t_no rfl rfl (by decide) ?_
         refine t_no rfl rfl (by decide) ?_
         refine t_no rfl rfl (by decide) ?_
         refine t_q (q_pick_f rfl rfl) ?_
         refine t_q (q_mv (.bool _) rfl) ?_
         refine t_no rfl rfl (by decide) ?_
         refine t_no rfl rfl (by decide) ?_
         refine t_no rfl rfl (by decide) ?_
         refine t_no rfl rfl (by decide) ?_
         refine t_no rfl rfl (by decide) ?_
         refine t_q (q_pick_f rfl rfl) ?_
         refine t_q (q_as (.bool _) rfl) ?_
         refine t_nil (c_ret ?_)
         refine r_one rfl rfl ?_
         have hN := hS.nil
         clear hS
         refine ⟨congrArg (fun b => Ending.returned (.bool b)) ?_, hN⟩
         clear hN
         rw [Bool.eq_iff_iff, decide_eq_true_iff (p := x.vw = y.vw), vw_iff]
         clear hx hy
         simp_all [sameB]
       ·
        intro hg28
        have hg28d := of_decide_eq_false hg28
        refine t_no rfl rfl (by rw [hg28]; decide) ?_
        refine t_no rfl rfl (by rw [hg28]; decide) ?_
        refine t_no rfl rfl (by rw [hg28]; decide) ?_
        refine t_no rfl rfl (by rw [hg28]; decide) ?_
        refine t_no rfl rfl (by rw [hg28]; decide) ?_
        refine t_q (q_pick_f rfl hg28) ?_
        refine t_q (q_as (.bool _) rfl) ?_
        refine t_nil (c_seq (c_region ?_))
        refine t_q (q_mv (.bool _) rfl) ?_
        refine t_q (q_mv (.bool _) rfl) ?_
        refine t_no rfl rfl (by decide) ?_
        refine t_no rfl rfl (by decide) ?_
        refine t_no rfl rfl (by decide) ?_
        refine t_no rfl rfl (by decide) ?_
        refine t_no rfl rfl (by decide) ?_
        refine t_q (q_pick_f rfl rfl) ?_
        refine t_q (q_mv (.bool _) rfl) ?_
        refine t_no rfl rfl (by decide) ?_
        refine t_no rfl rfl (by decide) ?_
        refine t_no rfl rfl (by decide) ?_
        refine t_no rfl rfl (by decide) ?_
        refine t_no rfl rfl (by decide) ?_
        refine t_q (q_pick_f rfl rfl) ?_
        refine t_q (q_mv (.bool _) rfl) ?_
        refine t_no rfl rfl (by decide) ?_
        refine t_no rfl rfl (by decide) ?_
        refine t_no rfl rfl (by decide) ?_
        refine t_no rfl rfl (by decide) ?_
        refine t_no rfl rfl (by decide) ?_
        refine t_no rfl rfl (by decide) ?_
        refine t_no rfl rfl (by decide) ?_
        refine t_q (q_pick_f rfl rfl) ?_
        refine t_q (q_mv (.bool _) rfl) ?_
        refine t_no rfl rfl (by decide) ?_
        refine t_no rfl rfl (by decide) ?_
        refine t_no rfl rfl (by decide) ?_
        refine t_no rfl rfl (by decide) ?_
        refine t_no rfl rfl (by decide) ?_
        refine t_q (q_pick_f rfl rfl) ?_
        refine t_q (q_mv (.bool _) rfl) ?_
        refine t_no rfl rfl (by decide) ?_
        refine t_no rfl rfl (by decide) ?_
        refine t_no rfl rfl (by decide) ?_
        refine t_no rfl rfl (by decide) ?_
        refine t_no rfl rfl (by decide) ?_
        refine t_q (q_pick_f rfl rfl) ?_
        refine t_q (q_mv (.bool _) rfl) ?_
        refine t_no rfl rfl (by decide) ?_
        refine t_no rfl rfl (by decide) ?_
        refine t_no rfl rfl (by decide) ?_
        refine t_no rfl rfl (by decide) ?_
        refine t_no rfl rfl (by decide) ?_
        refine t_q (q_pick_f rfl rfl) ?_
        refine t_q (q_as (.bool _) rfl) ?_
        refine t_nil (c_ret ?_)
        refine r_one rfl rfl ?_
        have hN := hS.nil
        clear hS
        refine ⟨congrArg (fun b => Ending.returned (.bool b)) ?_, hN⟩
        clear hN
        rw [Bool.eq_iff_iff, decide_eq_true_iff (p := x.vw = y.vw), vw_iff]
        clear hx hy
        simp_all [sameB]
      ·
       intro hg26
       have hg26d := of_decide_eq_false hg26
       refine t_no rfl rfl (by rw [hg26]; decide) ?_
       refine t_no rfl rfl (by rw [hg26]; decide) ?_
       refine t_no rfl rfl (by rw [hg26]; decide) ?_
       refine t_no rfl rfl (by rw [hg26]; decide) ?_
       refine t_no rfl rfl (by rw [hg26]; decide) ?_
       refine t_q (q_pick_f rfl hg26) ?_
       refine t_q (q_mv (.bool _) rfl) ?_
       refine t_no rfl rfl (by decide) ?_
       refine t_no rfl rfl (by decide) ?_
       refine t_no rfl rfl (by decide) ?_
       refine t_no rfl rfl (by decide) ?_
       refine t_no rfl rfl (by decide) ?_
       refine t_q (q_pick_f rfl rfl) ?_
       refine t_q (q_as (.bool _) rfl) ?_
       refine t_nil (c_seq (c_region ?_))
       refine t_q (q_mv (.bool _) rfl) ?_
       refine t_q (q_mv (.bool _) rfl) ?_
       refine t_no rfl rfl (by decide) ?_
       refine t_no rfl rfl (by decide) ?_
       refine t_no rfl rfl (by decide) ?_
       refine t_no rfl rfl (by decide) ?_
       refine t_no rfl rfl (by decide) ?_
       refine t_q (q_pick_f rfl rfl) ?_
       refine t_q (q_mv (.bool _) rfl) ?_
       refine t_no rfl rfl (by decide) ?_
       refine t_no rfl rfl (by decide) ?_
       refine t_no rfl rfl (by decide) ?_
       refine t_no rfl rfl (by decide) ?_
       refine t_no rfl rfl (by decide) ?_
       refine t_q (q_pick_f rfl rfl) ?_
       refine t_q (q_mv (.bool _) rfl) ?_
       refine t_no rfl rfl (by decide) ?_
       refine t_no rfl rfl (by decide) ?_
       refine t_no rfl rfl (by decide) ?_
       refine t_no rfl rfl (by decide) ?_
       refine t_no rfl rfl (by decide) ?_
       refine t_no rfl rfl (by decide) ?_
       refine t_no rfl rfl (by decide) ?_
       refine t_q (q_pick_f rfl rfl) ?_
       refine t_q (q_mv (.bool _) rfl) ?_
       refine t_no rfl rfl (by decide) ?_
       refine t_no rfl rfl (by decide) ?_
       refine t_no rfl rfl (by decide) ?_
       refine t_no rfl rfl (by decide) ?_
       refine t_no rfl rfl (by decide) ?_
       refine t_q (q_pick_f rfl rfl) ?_
       refine t_q (q_mv (.bool _) rfl) ?_
       refine t_no rfl rfl (by decide) ?_
       refine t_no rfl rfl (by decide) ?_
       refine t_no rfl rfl (by decide) ?_
       refine t_no rfl rfl (by decide) ?_
       refine t_no rfl rfl (by decide) ?_
       refine t_q (q_pick_f rfl rfl) ?_
       refine t_q (q_mv (.bool _) rfl) ?_
       refine t_no rfl rfl (by decide) ?_
       refine t_no rfl rfl (by decide) ?_
       refine t_no rfl rfl (by decide) ?_
       refine t_no rfl rfl (by decide) ?_
       refine t_no rfl rfl (by decide) ?_
       refine t_q (q_pick_f rfl rfl) ?_
       refine t_q (q_as (.bool _) rfl) ?_
       refine t_nil (c_ret ?_)
       refine r_one rfl rfl ?_
       have hN := hS.nil
       clear hS
       refine ⟨congrArg (fun b => Ending.returned (.bool b)) ?_, hN⟩
       clear hN
       rw [Bool.eq_iff_iff, decide_eq_true_iff (p := x.vw = y.vw), vw_iff]
       clear hx hy
       simp_all [sameB]
     ·
      intro hg24
      have hg24d := of_decide_eq_false hg24
      refine t_no rfl rfl (by rw [hg24]; decide) ?_
      refine t_no rfl rfl (by rw [hg24]; decide) ?_
      refine t_no rfl rfl (by rw [hg24]; decide) ?_
      refine t_no rfl rfl (by rw [hg24]; decide) ?_
      refine t_no rfl rfl (by rw [hg24]; decide) ?_
      refine t_q (q_pick_f rfl hg24) ?_
      refine t_q (q_mv (.bool _) rfl) ?_
      refine t_no rfl rfl (by decide) ?_
      refine t_no rfl rfl (by decide) ?_
      refine t_no rfl rfl (by decide) ?_
      refine t_no rfl rfl (by decide) ?_
      refine t_no rfl rfl (by decide) ?_
      refine t_q (q_pick_f rfl rfl) ?_
      refine t_q (q_mv (.bool _) rfl) ?_
      refine t_no rfl rfl (by decide) ?_
      refine t_no rfl rfl (by decide) ?_
      refine t_no rfl rfl (by decide) ?_
      refine t_no rfl rfl (by decide) ?_
      refine t_no rfl rfl (by decide) ?_
      refine t_q (q_pick_f rfl rfl) ?_
      refine t_q (q_as (.bool _) rfl) ?_
      refine t_nil (c_seq (c_region ?_))
      refine t_q (q_mv (.bool _) rfl) ?_
      refine t_q (q_mv (.bool _) rfl) ?_
      refine t_no rfl rfl (by decide) ?_
      refine t_no rfl rfl (by decide) ?_
      refine t_no rfl rfl (by decide) ?_
      refine t_no rfl rfl (by decide) ?_
      refine t_no rfl rfl (by decide) ?_
      refine t_q (q_pick_f rfl rfl) ?_
      refine t_q (q_mv (.bool _) rfl) ?_
      refine t_no rfl rfl (by decide) ?_
      refine t_no rfl rfl (by decide) ?_
      refine t_no rfl rfl (by decide) ?_
      refine t_no rfl rfl (by decide) ?_
      refine t_no rfl rfl (by decide) ?_
      refine t_q (q_pick_f rfl rfl) ?_
      refine t_q (q_mv (.bool _) rfl) ?_
      refine t_no rfl rfl (by decide) ?_
      refine t_no rfl rfl (by decide) ?_
      refine t_no rfl rfl (by decide) ?_
      refine t_no rfl rfl (by decide) ?_
      refine t_no rfl rfl (by decide) ?_
      refine t_no rfl rfl (by decide) ?_
      refine t_no rfl rfl (by decide) ?_
      refine t_q (q_pick_f rfl rfl) ?_
      refine t_q (q_mv (.bool _) rfl) ?_
      refine t_no rfl rfl (by decide) ?_
      refine t_no rfl rfl (by decide) ?_
      refine t_no rfl rfl (by decide) ?_
      refine t_no rfl rfl (by decide) ?_
      refine t_no rfl rfl (by decide) ?_
      refine t_q (q_pick_f rfl rfl) ?_
      refine t_q (q_mv (.bool _) rfl) ?_
      refine t_no rfl rfl (by decide) ?_
      refine t_no rfl rfl (by decide) ?_
      refine t_no rfl rfl (by decide) ?_
      refine t_no rfl rfl (by decide) ?_
      refine t_no rfl rfl (by decide) ?_
      refine t_q (q_pick_f rfl rfl) ?_
      refine t_q (q_mv (.bool _) rfl) ?_
      refine t_no rfl rfl (by decide) ?_
      refine t_no rfl rfl (by decide) ?_
      refine t_no rfl rfl (by decide) ?_
      refine t_no rfl rfl (by decide) ?_
      refine t_no rfl rfl (by decide) ?_
      refine t_q (q_pick_f rfl rfl) ?_
      refine t_q (q_as (.bool _) rfl) ?_
      refine t_nil (c_ret ?_)
      refine r_one rfl rfl ?_
      have hN := hS.nil
      clear hS
      refine ⟨congrArg (fun b => Ending.returned (.bool b)) ?_, hN⟩
      clear hN
      rw [Bool.eq_iff_iff, decide_eq_true_iff (p := x.vw = y.vw), vw_iff]
      clear hx hy
      simp_all [sameB]
    ·
     intro hg22
     have hg22d := of_decide_eq_false hg22
     refine t_no rfl rfl (by rw [hg22]; decide) ?_
     refine t_no rfl rfl (by rw [hg22]; decide) ?_
     refine t_no rfl rfl (by rw [hg22]; decide) ?_
     refine t_no rfl rfl (by rw [hg22]; decide) ?_
     refine t_no rfl rfl (by rw [hg22]; decide) ?_
     refine t_q (q_pick_f rfl hg22) ?_
     refine t_q (q_mv (.bool _) rfl) ?_
     refine t_no rfl rfl (by decide) ?_
     refine t_no rfl rfl (by decide) ?_
     refine t_no rfl rfl (by decide) ?_
     refine t_no rfl rfl (by decide) ?_
     refine t_no rfl rfl (by decide) ?_
     refine t_q (q_pick_f rfl rfl) ?_
     refine t_q (q_mv (.bool _) rfl) ?_
     refine t_no rfl rfl (by decide) ?_
     refine t_no rfl rfl (by decide) ?_
     refine t_no rfl rfl (by decide) ?_
     refine t_no rfl rfl (by decide) ?_
     refine t_no rfl rfl (by decide) ?_
     refine t_q (q_pick_f rfl rfl) ?_
     refine t_q (q_mv (.bool _) rfl) ?_
     refine t_no rfl rfl (by decide) ?_
     refine t_no rfl rfl (by decide) ?_
     refine t_no rfl rfl (by decide) ?_
     refine t_no rfl rfl (by decide) ?_
     refine t_no rfl rfl (by decide) ?_
     refine t_q (q_pick_f rfl rfl) ?_
     refine t_q (q_as (.bool _) rfl) ?_
     refine t_nil (c_seq (c_region ?_))
     refine t_q (q_mv (.bool _) rfl) ?_
     refine t_q (q_mv (.bool _) rfl) ?_
     refine t_no rfl rfl (by decide) ?_
     refine t_no rfl rfl (by decide) ?_
     refine t_no rfl rfl (by decide) ?_
     refine t_no rfl rfl (by decide) ?_
     refine t_no rfl rfl (by decide) ?_
     refine t_q (q_pick_f rfl rfl) ?_
     refine t_q (q_mv (.bool _) rfl) ?_
     refine t_no rfl rfl (by decide) ?_
     refine t_no rfl rfl (by decide) ?_
     refine t_no rfl rfl (by decide) ?_
     refine t_no rfl rfl (by decide) ?_
     refine t_no rfl rfl (by decide) ?_
     refine t_q (q_pick_f rfl rfl) ?_
     refine t_q (q_mv (.bool _) rfl) ?_
     refine t_no rfl rfl (by decide) ?_
     refine t_no rfl rfl (by decide) ?_
     refine t_no rfl rfl (by decide) ?_
     refine t_no rfl rfl (by decide) ?_
     refine t_no rfl rfl (by decide) ?_
     refine t_no rfl rfl (by decide) ?_
     refine t_no rfl rfl (by decide) ?_
     refine t_q (q_pick_f rfl rfl) ?_
     refine t_q (q_mv (.bool _) rfl) ?_
     refine t_no rfl rfl (by decide) ?_
     refine t_no rfl rfl (by decide) ?_
     refine t_no rfl rfl (by decide) ?_
     refine t_no rfl rfl (by decide) ?_
     refine t_no rfl rfl (by decide) ?_
     refine t_q (q_pick_f rfl rfl) ?_
     refine t_q (q_mv (.bool _) rfl) ?_
     refine t_no rfl rfl (by decide) ?_
     refine t_no rfl rfl (by decide) ?_
     refine t_no rfl rfl (by decide) ?_
     refine t_no rfl rfl (by decide) ?_
     refine t_no rfl rfl (by decide) ?_
     refine t_q (q_pick_f rfl rfl) ?_
     refine t_q (q_mv (.bool _) rfl) ?_
     refine t_no rfl rfl (by decide) ?_
     refine t_no rfl rfl (by decide) ?_
     refine t_no rfl rfl (by decide) ?_
     refine t_no rfl rfl (by decide) ?_
     refine t_no rfl rfl (by decide) ?_
     refine t_q (q_pick_f rfl rfl) ?_
     refine t_q (q_as (.bool _) rfl) ?_
     refine t_nil (c_ret ?_)
     refine r_one rfl rfl ?_
     have hN := hS.nil
     clear hS
     refine ⟨congrArg (fun b => Ending.returned (.bool b)) ?_, hN⟩
     clear hN
     rw [Bool.eq_iff_iff, decide_eq_true_iff (p := x.vw = y.vw), vw_iff]
     clear hx hy
     simp_all [sameB]
   ·
    intro hg20
    have hg20d := of_decide_eq_false hg20
    refine t_no rfl rfl (by rw [hg20]; decide) ?_
    refine t_no rfl rfl (by rw [hg20]; decide) ?_
    refine t_no rfl rfl (by rw [hg20]; decide) ?_
    refine t_no rfl rfl (by rw [hg20]; decide) ?_
    refine t_no rfl rfl (by rw [hg20]; decide) ?_
    refine t_q (q_pick_f rfl hg20) ?_
    refine t_q (q_mv (.bool _) rfl) ?_
    refine t_no rfl rfl (by decide) ?_
    refine t_no rfl rfl (by decide) ?_
    refine t_no rfl rfl (by decide) ?_
    refine t_no rfl rfl (by decide) ?_
    refine t_no rfl rfl (by decide) ?_
    refine t_q (q_pick_f rfl rfl) ?_
    refine t_q (q_mv (.bool _) rfl) ?_
    refine t_no rfl rfl (by decide) ?_
    refine t_no rfl rfl (by decide) ?_
    refine t_no rfl rfl (by decide) ?_
    refine t_no rfl rfl (by decide) ?_
    refine t_no rfl rfl (by decide) ?_
    refine t_q (q_pick_f rfl rfl) ?_
    refine t_q (q_mv (.bool _) rfl) ?_
    refine t_no rfl rfl (by decide) ?_
    refine t_no rfl rfl (by decide) ?_
    refine t_no rfl rfl (by decide) ?_
    refine t_no rfl rfl (by decide) ?_
    refine t_no rfl rfl (by decide) ?_
    refine t_q (q_pick_f rfl rfl) ?_
    refine t_q (q_mv (.bool _) rfl) ?_
    refine t_no rfl rfl (by decide) ?_
    refine t_no rfl rfl (by decide) ?_
    refine t_no rfl rfl (by decide) ?_
    refine t_no rfl rfl (by decide) ?_
    refine t_no rfl rfl (by decide) ?_
    refine t_q (q_pick_f rfl rfl) ?_
    refine t_q (q_as (.bool _) rfl) ?_
    refine t_nil (c_seq (c_region ?_))
    refine t_q (q_mv (.bool _) rfl) ?_
    refine t_q (q_mv (.bool _) rfl) ?_
    refine t_no rfl rfl (by decide) ?_
    refine t_no rfl rfl (by decide) ?_
    refine t_no rfl rfl (by decide) ?_
    refine t_no rfl rfl (by decide) ?_
    refine t_no rfl rfl (by decide) ?_
    refine t_q (q_pick_f rfl rfl) ?_
    refine t_q (q_mv (.bool _) rfl) ?_
    refine t_no rfl rfl (by decide) ?_
    refine t_no rfl rfl (by decide) ?_
    refine t_no rfl rfl (by decide) ?_
    refine t_no rfl rfl (by decide) ?_
    refine t_no rfl rfl (by decide) ?_
    refine t_q (q_pick_f rfl rfl) ?_
    refine t_q (q_mv (.bool _) rfl) ?_
    refine t_no rfl rfl (by decide) ?_
    refine t_no rfl rfl (by decide) ?_
    refine t_no rfl rfl (by decide) ?_
    refine t_no rfl rfl (by decide) ?_
    refine t_no rfl rfl (by decide) ?_
    refine t_no rfl rfl (by decide) ?_
    refine t_no rfl rfl (by decide) ?_
    refine t_q (q_pick_f rfl rfl) ?_
    refine t_q (q_mv (.bool _) rfl) ?_
    refine t_no rfl rfl (by decide) ?_
    refine t_no rfl rfl (by decide) ?_
    refine t_no rfl rfl (by decide) ?_
    refine t_no rfl rfl (by decide) ?_
    refine t_no rfl rfl (by decide) ?_
    refine t_q (q_pick_f rfl rfl) ?_
    refine t_q (q_mv (.bool _) rfl) ?_
    refine t_no rfl rfl (by decide) ?_
    refine t_no rfl rfl (by decide) ?_
    refine t_no rfl rfl (by decide) ?_
    refine t_no rfl rfl (by decide) ?_
    refine t_no rfl rfl (by decide) ?_
    refine t_q (q_pick_f rfl rfl) ?_
    refine t_q (q_mv (.bool _) rfl) ?_
    refine t_no rfl rfl (by decide) ?_
    refine t_no rfl rfl (by decide) ?_
    refine t_no rfl rfl (by decide) ?_
    refine t_no rfl rfl (by decide) ?_
    refine t_no rfl rfl (by decide) ?_
    refine t_q (q_pick_f rfl rfl) ?_
    refine t_q (q_as (.bool _) rfl) ?_
    refine t_nil (c_ret ?_)
    refine r_one rfl rfl ?_
    have hN := hS.nil
    clear hS
    refine ⟨congrArg (fun b => Ending.returned (.bool b)) ?_, hN⟩
    clear hN
    rw [Bool.eq_iff_iff, decide_eq_true_iff (p := x.vw = y.vw), vw_iff]
    clear hx hy
    simp_all [sameB]
theorem flat_take {l : List EntV} {j : Nat} (hj : j < l.length) : (l.take (j + 1)).flatMap EntV.cells = (l.take j).flatMap EntV.cells ++ (l.getD j default).cells := by
  rw [List.take_add_one, List.flatMap_append, List.getElem?_eq_getElem hj, List.getD_eq_getElem?_getD, List.getElem?_eq_getElem hj]
  simp
def MsgV.own (x : MsgV) (A : Option Addr) (c : Nat) : MsgV := { x with entries := ⟨A, c, x.entries.l⟩ }
theorem MsgV.Gd.own {w : World} {x : MsgV} {A : Option Addr} {c : Nat} (h : x.Gd w) (hr : RdEn w A x.entries.l) : (x.own A c).Gd w := { h with erd := hr }
set_option maxRecDepth 100000 in
theorem plain_calls {A : Option Addr} {c : Nat} {l : List EntV} (hl : RdEn W A l) (hm : l.length ≤ 1000) : Calls Try.prog 108 #[.slice A l.length c] W fun e w' => ∃ A' c', e = .returned (.slice A' l.length c') ∧ St W w' [rowA 174 3 A' l.length c' (l.flatMap EntV.cells)] := by
 have hS := St.init W
 refine calls_of_wpE (args := [_]) Try.func108 rfl rfl rfl ?_
 refine c_seq (c_region ?_)
 refine t_q (q_assign) ?_
 skip
 refine t_nil (c_seq (c_region ?_))
 refine t_q (q_assign) ?_
 refine t_nil (c_seq (c_seq (c_region ?_)))
 refine t_q (q_mv (.slice _ _ _) rfl) ?_
 refine t_q (q_len_slice Try.runUnderlying111 rfl) ?_
 refine t_q (q_move) ?_
 refine t_nil (c_block ?_)
 refine c_loop [3, 5, 8, 9, 10, 11, 12, 13, 14, 15, 16] (fun k σ w => ∃ (j : Nat) (A' : Option Addr) (c' : Nat), σ 8 = .int .i64 (j : Int) ∧ σ 3 = .slice A' j c' ∧ j ≤ l.length ∧ l.length - j ≤ k ∧ St W w [rowA 174 3 A' j c' ((l.take j).flatMap EntV.cells)]) (l.length) rfl (⟨0, none, 0, rfl, rfl, by omega, by omega, hS.nil.nilrow 174 3⟩) ?_
 skip
 rintro k σ w ⟨j, A', c', h8, h3, hj, hk, hS⟩
 refine c_know 8 h8 ?_
 refine c_know 3 h3 ?_
 clear h8 h3
 refine c_seq (c_region ?_)
 refine t_q (q_lss rfl rfl) ?_
 refine t_nil (c_seq ?_)
 refine c_cond rfl ?_ ?_
 ·
  intro hc2
  have hc2d := of_decide_eq_true hc2
  refine c_skip (c_seq (c_block (c_seq (c_region ?_))))
  first | refine t_index_nat Try.runUnderlying111 Try.sizeOf169 (hl.st hS) rfl rfl (by omega) (fun ad3 hl3 hx3 => ?_) | refine t_index Try.runUnderlying111 Try.sizeOf169 (hl.st hS) rfl rfl (by omega) (fun ad3 hl3 hx3 => ?_)
  refine t_q (q_loadN Try.isAgg169 Try.sizeOf169 rfl hl3 hx3) ?_
  refine t_alloc Try.zeroValue169 rfl hS (fun g5 w hS => ?_)
  refine t_store (v := (.agg _)) Try.sizeOf169 hS (by repeat constructor) rfl rfl rfl rfl rfl rfl (fun w hS => ?_)
  replace hS := hS.recast (show blkA g5 169 _ = blkA g5 169 [.int .u64 (l.getD j default).index, .int .u64 (l.getD j default).term, .slice (l.getD j default).body.A (l.getD j default).body.l.length (l.getD j default).body.c] from rfl)
  refine t_nil (c_region ?_)
  refine t_q (q_mv (.slice _ _ _) rfl) ?_
  refine t_q (q_load_blk Try.isAgg169 Try.sizeOf169 rfl (hS.blk (by repeat constructor)) rfl) ?_
  refine t_buildSlice Try.runUnderlying117 Try.sizeOf174 Try.zeroValue174 rfl rfl (by intro v hv; simp at hv; try (first | (subst hv; rfl) | (rcases hv with rfl | rfl <;> rfl))) (by decide) (by decide) hS (fun g14 w hS => ?_)
  refine t_append_own (size := 3) (bytes := 40) Try.underlying117 (info_of Try.type174) rfl rfl rfl rfl (by decide) hS (by repeat constructor) (by repeat constructor) rfl rfl (by first | exact allOne_bv _ | exact allOne_ints _ _ | rfl) (by unfold maxLen; omega) (by omega) (fun A15 c15 w hS => ?_)
  refine t_q (q_as (.slice _ _ _) rfl) ?_
  refine t_nil (c_region ?_)
  refine t_q (q_add_i64 rfl rfl (by omega)) ?_
  refine t_q (q_mv (.int _ _) rfl) ?_
  refine t_nil ?_
  replace hS := (hS.pick (A := rowA 174 3 A15 _ c15 _) (by repeat constructor)).recast (congrArg (rowA 174 3 A15 _ c15) (show _ = (l.take (j + 1)).flatMap EntV.cells from by rw [flat_take (by omega)]; rfl))
  exact ⟨k - 1, by omega, j + 1, A15, c15, rfl, rfl, by omega, by omega, hS.front1⟩
 ·
  intro hc2
  have hc2d := of_decide_eq_false hc2
  obtain rfl : j = l.length := by omega
  rw [List.take_length] at hS
  refine c_exit ?_
  refine ite_t rfl ?_
  refine c_seq (c_region ?_)
  refine t_q (q_mv (.slice _ _ _) rfl) ?_
  refine t_q (q_as (.slice _ _ _) rfl) ?_
  skip
  refine t_nil (c_ret ?_)
  refine r_one rfl rfl ?_
  exact ⟨A', c', rfl, hS.front1⟩
set_option maxHeartbeats 2000000 in
set_option maxRecDepth 100000 in
theorem wplain_calls {x : MsgV} (hx : x.Gd W) : Calls Try.prog 61 #[.agg x.cells.toArray] W fun e w' => ∃ A' c', e = .returned (.agg (x.own A' c').cells.toArray) ∧ St W w' [rowA 174 3 A' x.entries.l.length c' (x.entries.l.flatMap EntV.cells)] := by
 have hS := St.init W
 refine calls_of_wpE (args := [_]) Try.func61 rfl rfl rfl ?_
 refine c_seq (c_region ?_)
 refine t_box (v := (.agg _)) rfl rfl hS (fun g1 w hS => ?_)
 replace hS := hS.recast (show _ = bmA g1 114 x from rfl)
 refine t_alloc Try.zeroValue119 rfl hS (fun g2 w hS => ?_)
 refine t_nil (c_seq (c_draw ?_))
 refine d_keep (bmA g1 114 x) 29 [0, 1, 2, 3, 4, 5, 6, 7, 8, 9, 10, 11, 12, 13, 14, 15, 16, 17, 18, 19, 20, 21, 22, 23, 24, 25, 26, 27, 28] [0, 1, 2, 3, 4, 5, 6, 7, 8, 9, 10, 11, 12, 13, 14, 15, 16, 17, 18, 19, 20, 21, 22, 23, 24, 25, 26, 27, 28] hS rfl (by kernel_rfl) (by kernel_rfl) (by kernel_rfl) (by kernel_rfl) (fun hap hsel w hS => ?_)
 refine p_q hap hsel 0 rfl rfl ⟨_, hS.pick (by repeat constructor)⟩ (fun w hI => q_fieldAddr 0 Try.runUnderlying114 rfl Try.sizeOf3 (by decide) rfl rfl) ?_
 refine p_q hap hsel 1 rfl rfl ⟨_, hS.pick (by repeat constructor)⟩ (fun w hI => q_load1 Try.isAgg3 rfl (hI.choose_spec.cell (by repeat constructor) rfl)) ?_
 refine p_q hap hsel 2 rfl rfl ⟨_, hS.pick (by repeat constructor)⟩ (fun w hI => q_fieldAddr 1 Try.runUnderlying114 rfl Try.sizeOf3 (by decide) rfl rfl) ?_
 refine p_q hap hsel 3 rfl rfl ⟨_, hS.pick (by repeat constructor)⟩ (fun w hI => q_load1 Try.isAgg3 rfl (hI.choose_spec.cell (by repeat constructor) rfl)) ?_
 refine p_q hap hsel 4 rfl rfl ⟨_, hS.pick (by repeat constructor)⟩ (fun w hI => q_fieldAddr 2 Try.runUnderlying114 rfl Try.sizeOf3 (by decide) rfl rfl) ?_
 refine p_q hap hsel 5 rfl rfl ⟨_, hS.pick (by repeat constructor)⟩ (fun w hI => q_load1 Try.isAgg3 rfl (hI.choose_spec.cell (by repeat constructor) rfl)) ?_
 refine p_q hap hsel 6 rfl rfl ⟨_, hS.pick (by repeat constructor)⟩ (fun w hI => q_fieldAddr 3 Try.runUnderlying114 rfl Try.sizeOf43 (by decide) rfl rfl) ?_
 refine p_q hap hsel 7 rfl rfl ⟨_, hS.pick (by repeat constructor)⟩ (fun w hI => q_load1 Try.isAgg43 rfl (hI.choose_spec.cell (by repeat constructor) rfl)) ?_
 refine p_q hap hsel 8 rfl rfl ⟨_, hS.pick (by repeat constructor)⟩ (fun w hI => q_fieldAddr 4 Try.runUnderlying114 rfl Try.sizeOf43 (by decide) rfl rfl) ?_
 refine p_q hap hsel 9 rfl rfl ⟨_, hS.pick (by repeat constructor)⟩ (fun w hI => q_load1 Try.isAgg43 rfl (hI.choose_spec.cell (by repeat constructor) rfl)) ?_
 refine p_q hap hsel 10 rfl rfl ⟨_, hS.pick (by repeat constructor)⟩ (fun w hI => q_fieldAddr 5 Try.runUnderlying114 rfl Try.sizeOf43 (by decide) rfl rfl) ?_
 refine p_q hap hsel 11 rfl rfl ⟨_, hS.pick (by repeat constructor)⟩ (fun w hI => q_load1 Try.isAgg43 rfl (hI.choose_spec.cell (by repeat constructor) rfl)) ?_
 refine p_q hap hsel 12 rfl rfl ⟨_, hS.pick (by repeat constructor)⟩ (fun w hI => q_fieldAddr 6 Try.runUnderlying114 rfl Try.sizeOf43 (by decide) rfl rfl) ?_
 refine p_q hap hsel 13 rfl rfl ⟨_, hS.pick (by repeat constructor)⟩ (fun w hI => q_load1 Try.isAgg43 rfl (hI.choose_spec.cell (by repeat constructor) rfl)) ?_
 refine p_q hap hsel 14 rfl rfl ⟨_, hS.pick (by repeat constructor)⟩ (fun w hI => q_fieldAddr 7 Try.runUnderlying114 rfl Try.sizeOf4 (by decide) rfl rfl) ?_
 refine p_q hap hsel 15 rfl rfl ⟨_, hS.pick (by repeat constructor)⟩ (fun w hI => q_load1 Try.isAgg4 rfl (hI.choose_spec.cell (by repeat constructor) rfl)) ?_
 refine p_q hap hsel 16 rfl rfl ⟨_, hS.pick (by repeat constructor)⟩ (fun w hI => q_fieldAddr 8 Try.runUnderlying114 rfl Try.sizeOf111 (by decide) rfl rfl) ?_
 refine p_q hap hsel 17 rfl rfl ⟨_, hS.pick (by repeat constructor)⟩ (fun w hI => q_load1 Try.isAgg111 rfl (hI.choose_spec.cell (by repeat constructor) rfl)) ?_
 refine p_q hap hsel 19 rfl rfl ⟨_, hS.pick (by repeat constructor)⟩ (fun w hI => q_fieldAddr 9 Try.runUnderlying114 rfl Try.sizeOf25 (by decide) rfl rfl) ?_
 refine p_q hap hsel 20 rfl rfl ⟨_, hS.pick (by repeat constructor)⟩ (fun w hI => q_load1 Try.isAgg25 rfl (hI.choose_spec.cell (by repeat constructor) rfl)) ?_
 refine p_q hap hsel 21 rfl rfl ⟨_, hS.pick (by repeat constructor)⟩ (fun w hI => q_fieldAddr 10 Try.runUnderlying114 rfl Try.sizeOf43 (by decide) rfl rfl) ?_
 refine p_q hap hsel 22 rfl rfl ⟨_, hS.pick (by repeat constructor)⟩ (fun w hI => q_load1 Try.isAgg43 rfl (hI.choose_spec.cell (by repeat constructor) rfl)) ?_
 refine p_q hap hsel 23 rfl rfl ⟨_, hS.pick (by repeat constructor)⟩ (fun w hI => q_fieldAddr 11 Try.runUnderlying114 rfl Try.sizeOf43 (by decide) rfl rfl) ?_
 refine p_q hap hsel 24 rfl rfl ⟨_, hS.pick (by repeat constructor)⟩ (fun w hI => q_load1 Try.isAgg43 rfl (hI.choose_spec.cell (by repeat constructor) rfl)) ?_
 refine p_q hap hsel 25 rfl rfl ⟨_, hS.pick (by repeat constructor)⟩ (fun w hI => q_fieldAddr 12 Try.runUnderlying114 rfl Try.sizeOf112 (by decide) rfl rfl) ?_
 refine p_q hap hsel 26 rfl rfl ⟨_, hS.pick (by repeat constructor)⟩ (fun w hI => q_load1 Try.isAgg112 rfl (hI.choose_spec.cell (by repeat constructor) rfl)) ?_
 refine p_one 18 rfl (by kernel_rfl) ?_
 refine t_call Try.call108 (plain_calls (l := x.entries.l) (Rd.st hx.erd hS) hx.ele) rfl ?_
 rintro e w ⟨A21, c21, rfl, hT⟩
 refine ⟨_, rfl, ?_⟩
 have hS : St W w (_ :: _) := hS.lift hT
 refine t_nil ?_
 refine ⟨.inr ⟨_, hS.pick (by repeat constructor)⟩, ?_⟩
 refine p_q hap hsel 27 rfl rfl ⟨_, hS.pick (by repeat constructor)⟩ (fun w hI => q_build (qs := [(0, 1), (1, 1), (2, 1), (3, 1), (4, 1), (5, 1), (6, 1), (7, 1), (8, 1), (9, 1), (10, 1), (11, 1), (12, 1)]) [(.int _ _), (.int _ _), (.int _ _), (.int _ _), (.int _ _), (.int _ _), (.int _ _), (.bool _), (.slice _ _ _), (.slice _ _ _), (.int _ _), (.int _ _), (.slice _ _ _)] Try.zeroValue119 Try.runUnderlying119 ⟨rfl, Try.sizeOf3, rfl, Try.sizeOf3, rfl, Try.sizeOf3, rfl, Try.sizeOf43, rfl, Try.sizeOf43, rfl, Try.sizeOf43, rfl, Try.sizeOf43, rfl, Try.sizeOf4, rfl, Try.sizeOf117, rfl, Try.sizeOf25, rfl, Try.sizeOf43, rfl, Try.sizeOf43, rfl, Try.sizeOf112, trivial⟩ rfl rfl) ?_
 refine p_one 28 rfl (by kernel_rfl) ?_
 refine t_store (v := (.agg _)) Try.sizeOf119 hS (by repeat constructor) rfl rfl rfl rfl rfl rfl (fun w hS => ?_)
 replace hS := hS.recast (show blkA g2 119 _ = bmA g2 119 (x.own A21 c21) from rfl)
 refine t_nil ?_
 refine ⟨.inl (by kernel_rfl), ?_⟩
 refine p_end (by kernel_rfl) ?_
 refine c_ret ?_
 refine r_one rfl (res1_cellN Try.isAgg119 Try.sizeOf119 rfl (hS.blk (by repeat constructor)) rfl) ?_
 exact ⟨A21, c21, rfl, (hS.pick (A := rowA 174 3 A21 _ c21 _) (by repeat constructor)).front1⟩
end Go.Proofs.Ytlppgpidakfnlaa
