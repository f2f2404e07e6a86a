/- Messages: which may be. -/
import Derived.Test.YtlppgpidakfnlaaXd
namespace Go.Proofs.Ytlppgpidakfnlaa
open Go Go.RowKit Go.Lib
variable {W : World}
attribute [local irreducible] blkA rowA
set_option maxHeartbeats 1000000 in
set_option maxRecDepth 100000 in
theorem only_6 {x : MsgV} : Calls Try.prog 104 #[.agg x.cells.toArray, .int .i64 6] W fun e w' => e = .returned (.agg (keepV 6 x).cells.toArray) ∧ St W w' [] := by
 have hS := St.init W
 refine calls_of_wpE (args := [_, _]) Try.func104 rfl rfl rfl ?_
 refine c_seq (c_region ?_)
 refine t_box (v := (.agg _)) rfl rfl hS (fun g2 w hS => ?_)
 replace hS := hS.recast (show _ = bmA g2 114 x from rfl)
 refine t_alloc Try.zeroValue114 rfl hS (fun g4 w hS => ?_)
 refine t_nil (c_seq (c_region ?_))
 refine t_q (q_fieldAddr 0 Try.runUnderlying114 rfl Try.sizeOf3 (by decide) rfl rfl) ?_
 refine t_q (q_load1 Try.isAgg3 rfl (hS.cell (by repeat constructor) rfl)) ?_
 refine t_q (q_fieldAddr 1 Try.runUnderlying114 rfl Try.sizeOf3 (by decide) rfl rfl) ?_
 refine t_q (q_load1 Try.isAgg3 rfl (hS.cell (by repeat constructor) rfl)) ?_
 refine t_q (q_fieldAddr 2 Try.runUnderlying114 rfl Try.sizeOf3 (by decide) rfl rfl) ?_
 refine t_q (q_load1 Try.isAgg3 rfl (hS.cell (by repeat constructor) rfl)) ?_
 refine t_q (q_fieldAddr 3 Try.runUnderlying114 rfl Try.sizeOf43 (by decide) rfl rfl) ?_
 refine t_q (q_load1 Try.isAgg43 rfl (hS.cell (by repeat constructor) rfl)) ?_
 refine t_q (q_fieldAddr 7 Try.runUnderlying114 rfl Try.sizeOf4 (by decide) rfl rfl) ?_
 refine t_q (q_load1 Try.isAgg4 rfl (hS.cell (by repeat constructor) rfl)) ?_
 refine t_q (q_mv (.bool _) rfl) ?_
 refine t_case 16 rfl ?_ ?_
 ·
  intro hg2
  refine t_yes rfl rfl hg2 ?_
  refine t_q (q_mv (.int _ _) rfl) ?_
  refine t_yes rfl rfl hg2 ?_
  refine t_q (q_cast (v' := .int .i64 0) (q_and rfl rfl) (by rfl)) ?_
  refine t_yes rfl rfl hg2 ?_
  refine t_q (q_cast (v' := .bool false) (q_neq rfl rfl) (by rfl)) ?_
  refine t_q (q_pick_t rfl hg2) ?_
  refine t_q (q_build (qs := [(0, 1), (1, 1), (2, 1), (3, 1), (4, 1), (5, 1), (6, 1), (7, 1), (8, 1), (9, 1), (10, 1), (11, 1), (12, 1)]) [(.int _ _), (.int _ _), (.int _ _), (.int _ _), (.int _ _), (.int _ _), (.int _ _), (.bool _), (.slice _ _ _), (.slice _ _ _), (.int _ _), (.int _ _), (.slice _ _ _)] Try.zeroValue114 Try.runUnderlying114 ⟨rfl, Try.sizeOf3, rfl, Try.sizeOf3, rfl, Try.sizeOf3, rfl, Try.sizeOf43, rfl, Try.sizeOf43, rfl, Try.sizeOf43, rfl, Try.sizeOf43, rfl, Try.sizeOf4, rfl, Try.sizeOf111, rfl, Try.sizeOf25, rfl, Try.sizeOf43, rfl, Try.sizeOf43, rfl, Try.sizeOf112, trivial⟩ rfl rfl) ?_
  refine t_alloc Try.zeroValue114 rfl hS (fun g5 w hS => ?_)
  refine t_store (v := (.agg _)) Try.sizeOf114 hS (by repeat constructor) rfl rfl rfl rfl rfl rfl (fun w hS => ?_)
  replace hS := hS.recast (show blkA g5 114 _ = blkA g5 114 [.int .i64 x.kind, .int .i64 x.frm, .int .i64 x.to, .int .u64 x.term, .int .u64 0, .int .u64 0, .int .u64 0, .bool false, .slice none 0 0, .slice none 0 0, .int .u64 0, .int .u64 0, .slice none 0 0] from by first | rfl | (rw [show x.ok = false from by assumption]))
  refine t_nil (c_seq (c_seq (c_region ?_)))
  refine t_q (q_mv (.int _ _) rfl) ?_
  refine t_q (q_cast (v' := .int .i64 2) (q_and rfl rfl) (by rfl)) ?_
  refine t_q (q_neq rfl rfl) ?_
  refine t_nil ?_
  refine c_cond_t rfl rfl ?_
  refine c_region ?_
  refine t_q (q_fieldAddr 4 Try.runUnderlying114 rfl Try.sizeOf43 (by decide) rfl rfl) ?_
  refine t_q (q_load1 Try.isAgg43 rfl (hS.cell (by repeat constructor) rfl)) ?_
  refine t_q (q_fieldAddr 4 Try.runUnderlying114 rfl Try.sizeOf43 (by decide) rfl rfl) ?_
  refine t_store (v := (.int _ _)) Try.sizeOf43 hS (by repeat constructor) rfl rfl rfl rfl rfl rfl (fun w hS => ?_)
  refine t_nil (c_seq (c_seq (c_region ?_)))
  refine t_q (q_mv (.int _ _) rfl) ?_
  refine t_q (q_cast (v' := .int .i64 4) (q_and rfl rfl) (by rfl)) ?_
  refine t_q (q_neq rfl rfl) ?_
  refine t_nil ?_
  refine c_cond_t rfl rfl ?_
  refine c_region ?_
  refine t_q (q_fieldAddr 5 Try.runUnderlying114 rfl Try.sizeOf43 (by decide) rfl rfl) ?_
  refine t_q (q_load1 Try.isAgg43 rfl (hS.cell (by repeat constructor) rfl)) ?_
  refine t_q (q_fieldAddr 5 Try.runUnderlying114 rfl Try.sizeOf43 (by decide) rfl rfl) ?_
  refine t_store (v := (.int _ _)) Try.sizeOf43 hS (by repeat constructor) rfl rfl rfl rfl rfl rfl (fun w hS => ?_)
  refine t_nil (c_seq (c_seq (c_region ?_)))
  refine t_q (q_mv (.int _ _) rfl) ?_
  refine t_q (q_cast (v' := .int .i64 0) (q_and rfl rfl) (by rfl)) ?_
  refine t_q (q_neq rfl rfl) ?_
  refine t_nil ?_
  refine c_cond_f rfl rfl ?_
  refine c_skip (c_seq (c_seq (c_region ?_)))
  refine t_q (q_mv (.int _ _) rfl) ?_
  refine t_q (q_cast (v' := .int .i64 0) (q_and rfl rfl) (by rfl)) ?_
  refine t_q (q_neq rfl rfl) ?_
  refine t_nil ?_
  refine c_cond_f rfl rfl ?_
  refine c_skip (c_seq (c_seq (c_region ?_)))
  refine t_q (q_mv (.int _ _) rfl) ?_
  refine t_q (q_cast (v' := .int .i64 0) (q_and rfl rfl) (by rfl)) ?_
  refine t_q (q_neq rfl rfl) ?_
  refine t_nil ?_
  refine c_cond_f rfl rfl ?_
  refine c_skip (c_seq (c_region ?_))
  refine t_q (q_load_blk Try.isAgg114 Try.sizeOf114 rfl (hS.blk (by repeat constructor)) rfl) ?_
  refine t_store (v := (.agg _)) Try.sizeOf114 hS (by repeat constructor) rfl rfl rfl rfl rfl rfl (fun w hS => ?_)
  replace hS := hS.recast (show blkA g4 114 _ = bmA g4 114 (keepV 6 x) from by first | rfl | exact rok)
  refine t_nil (c_ret ?_)
  refine r_one rfl (res1_cellN Try.isAgg114 Try.sizeOf114 rfl (hS.blk (by repeat constructor)) rfl) ?_
  exact ⟨rfl, hS.nil⟩
 ·
  intro hg2
  refine t_no rfl rfl (by rw [hg2]; decide) ?_
  refine t_no rfl rfl (by rw [hg2]; decide) ?_
  refine t_no rfl rfl (by rw [hg2]; decide) ?_
  refine t_q (q_pick_f rfl hg2) ?_
  refine t_q (q_build (qs := [(0, 1), (1, 1), (2, 1), (3, 1), (4, 1), (5, 1), (6, 1), (7, 1), (8, 1), (9, 1), (10, 1), (11, 1), (12, 1)]) [(.int _ _), (.int _ _), (.int _ _), (.int _ _), (.int _ _), (.int _ _), (.int _ _), (.bool _), (.slice _ _ _), (.slice _ _ _), (.int _ _), (.int _ _), (.slice _ _ _)] Try.zeroValue114 Try.runUnderlying114 ⟨rfl, Try.sizeOf3, rfl, Try.sizeOf3, rfl, Try.sizeOf3, rfl, Try.sizeOf43, rfl, Try.sizeOf43, rfl, Try.sizeOf43, rfl, Try.sizeOf43, rfl, Try.sizeOf4, rfl, Try.sizeOf111, rfl, Try.sizeOf25, rfl, Try.sizeOf43, rfl, Try.sizeOf43, rfl, Try.sizeOf112, trivial⟩ rfl rfl) ?_
  refine t_alloc Try.zeroValue114 rfl hS (fun g5 w hS => ?_)
  refine t_store (v := (.agg _)) Try.sizeOf114 hS (by repeat constructor) rfl rfl rfl rfl rfl rfl (fun w hS => ?_)
  replace hS := hS.recast (show blkA g5 114 _ = blkA g5 114 [.int .i64 x.kind, .int .i64 x.frm, .int .i64 x.to, .int .u64 x.term, .int .u64 0, .int .u64 0, .int .u64 0, .bool false, .slice none 0 0, .slice none 0 0, .int .u64 0, .int .u64 0, .slice none 0 0] from by first | rfl | (rw [show x.ok = false from by assumption]))
  refine t_nil (c_seq (c_seq (c_region ?_)))
  refine t_q (q_mv (.int _ _) rfl) ?_
  refine t_q (q_cast (v' := .int .i64 2) (q_and rfl rfl) (by rfl)) ?_
  refine t_q (q_neq rfl rfl) ?_
  refine t_nil ?_
  refine c_cond_t rfl rfl ?_
  refine c_region ?_
  refine t_q (q_fieldAddr 4 Try.runUnderlying114 rfl Try.sizeOf43 (by decide) rfl rfl) ?_
  refine t_q (q_load1 Try.isAgg43 rfl (hS.cell (by repeat constructor) rfl)) ?_
  refine t_q (q_fieldAddr 4 Try.runUnderlying114 rfl Try.sizeOf43 (by decide) rfl rfl) ?_
  refine t_store (v := (.int _ _)) Try.sizeOf43 hS (by repeat constructor) rfl rfl rfl rfl rfl rfl (fun w hS => ?_)
  refine t_nil (c_seq (c_seq (c_region ?_)))
  refine t_q (q_mv (.int _ _) rfl) ?_
  refine t_q (q_cast (v' := .int .i64 4) (q_and rfl rfl) (by rfl)) ?_
  refine t_q (q_neq rfl rfl) ?_
  refine t_nil ?_
  refine c_cond_t rfl rfl ?_
  refine c_region ?_
  refine t_q (q_fieldAddr 5 Try.runUnderlying114 rfl Try.sizeOf43 (by decide) rfl rfl) ?_
  refine t_q (q_load1 Try.isAgg43 rfl (hS.cell (by repeat constructor) rfl)) ?_
  refine t_q (q_fieldAddr 5 Try.runUnderlying114 rfl Try.sizeOf43 (by decide) rfl rfl) ?_
  refine t_store (v := (.int _ _)) Try.sizeOf43 hS (by repeat constructor) rfl rfl rfl rfl rfl rfl (fun w hS => ?_)
  refine t_nil (c_seq (c_seq (c_region ?_)))
  refine t_q (q_mv (.int _ _) rfl) ?_
  refine t_q (q_cast (v' := .int .i64 0) (q_and rfl rfl) (by rfl)) ?_
  refine t_q (q_neq rfl rfl) ?_
  refine t_nil ?_
  refine c_cond_f rfl rfl ?_
  refine c_skip (c_seq (c_seq (c_region ?_)))
  refine t_q (q_mv (.int _ _) rfl) ?_
  refine t_q (q_cast (v' := .int .i64 0) (q_and rfl rfl) (by rfl)) ?_
  refine t_q (q_neq rfl rfl) ?_
  refine t_nil ?_
  refine c_cond_f rfl rfl ?_
  refine c_skip (c_seq (c_seq (c_region ?_)))
  refine t_q (q_mv (.int _ _) rfl) ?_
  refine t_q (q_cast (v' := .int .i64 0) (q_and rfl rfl) (by rfl)) ?_
  refine t_q (q_neq rfl rfl) ?_
  refine t_nil ?_
  refine c_cond_f rfl rfl ?_
  refine c_skip (c_seq (c_region ?_))
  refine t_q (q_load_blk Try.isAgg114 Try.sizeOf114 rfl (hS.blk (by repeat constructor)) rfl) ?_
  refine t_store (v := (.agg _)) Try.sizeOf114 hS (by repeat constructor) rfl rfl rfl rfl rfl rfl (fun w hS => ?_)
  replace hS := hS.recast (show blkA g4 114 _ = bmA g4 114 (keepV 6 x) from by first | rfl | exact rok)
  refine t_nil (c_ret ?_)
  refine r_one rfl (res1_cellN Try.isAgg114 Try.sizeOf114 rfl (hS.blk (by repeat constructor)) rfl) ?_
  exact ⟨rfl, hS.nil⟩
set_option maxHeartbeats 1000000 in
set_option maxRecDepth 100000 in
theorem only_1 {x : MsgV} : Calls Try.prog 104 #[.agg x.cells.toArray, .int .i64 1] W fun e w' => e = .returned (.agg (keepV 1 x).cells.toArray) ∧ St W w' [] := by
 have hS := St.init W
 refine calls_of_wpE (args := [_, _]) Try.func104 rfl rfl rfl ?_
 refine c_seq (c_region ?_)
 refine t_box (v := (.agg _)) rfl rfl hS (fun g2 w hS => ?_)
 replace hS := hS.recast (show _ = bmA g2 114 x from rfl)
 refine t_alloc Try.zeroValue114 rfl hS (fun g4 w hS => ?_)
 refine t_nil (c_seq (c_region ?_))
 refine t_q (q_fieldAddr 0 Try.runUnderlying114 rfl Try.sizeOf3 (by decide) rfl rfl) ?_
 refine t_q (q_load1 Try.isAgg3 rfl (hS.cell (by repeat constructor) rfl)) ?_
 refine t_q (q_fieldAddr 1 Try.runUnderlying114 rfl Try.sizeOf3 (by decide) rfl rfl) ?_
 refine t_q (q_load1 Try.isAgg3 rfl (hS.cell (by repeat constructor) rfl)) ?_
 refine t_q (q_fieldAddr 2 Try.runUnderlying114 rfl Try.sizeOf3 (by decide) rfl rfl) ?_
 refine t_q (q_load1 Try.isAgg3 rfl (hS.cell (by repeat constructor) rfl)) ?_
 refine t_q (q_fieldAddr 3 Try.runUnderlying114 rfl Try.sizeOf43 (by decide) rfl rfl) ?_
 refine t_q (q_load1 Try.isAgg43 rfl (hS.cell (by repeat constructor) rfl)) ?_
 refine t_q (q_fieldAddr 7 Try.runUnderlying114 rfl Try.sizeOf4 (by decide) rfl rfl) ?_
 refine t_q (q_load1 Try.isAgg4 rfl (hS.cell (by repeat constructor) rfl)) ?_
 refine t_q (q_mv (.bool _) rfl) ?_
 refine t_case 16 rfl ?_ ?_
 ·
  intro hg2
  refine t_yes rfl rfl hg2 ?_
  refine t_q (q_mv (.int _ _) rfl) ?_
  refine t_yes rfl rfl hg2 ?_
  refine t_q (q_cast (v' := .int .i64 1) (q_and rfl rfl) (by rfl)) ?_
  refine t_yes rfl rfl hg2 ?_
  refine t_q (q_cast (v' := .bool true) (q_neq rfl rfl) (by rfl)) ?_
  refine t_q (q_pick_t rfl hg2) ?_
  refine t_q (q_build (qs := [(0, 1), (1, 1), (2, 1), (3, 1), (4, 1), (5, 1), (6, 1), (7, 1), (8, 1), (9, 1), (10, 1), (11, 1), (12, 1)]) [(.int _ _), (.int _ _), (.int _ _), (.int _ _), (.int _ _), (.int _ _), (.int _ _), (.bool _), (.slice _ _ _), (.slice _ _ _), (.int _ _), (.int _ _), (.slice _ _ _)] Try.zeroValue114 Try.runUnderlying114 ⟨rfl, Try.sizeOf3, rfl, Try.sizeOf3, rfl, Try.sizeOf3, rfl, Try.sizeOf43, rfl, Try.sizeOf43, rfl, Try.sizeOf43, rfl, Try.sizeOf43, rfl, Try.sizeOf4, rfl, Try.sizeOf111, rfl, Try.sizeOf25, rfl, Try.sizeOf43, rfl, Try.sizeOf43, rfl, Try.sizeOf112, trivial⟩ rfl rfl) ?_
  refine t_alloc Try.zeroValue114 rfl hS (fun g5 w hS => ?_)
  refine t_store (v := (.agg _)) Try.sizeOf114 hS (by repeat constructor) rfl rfl rfl rfl rfl rfl (fun w hS => ?_)
  replace hS := hS.recast (show blkA g5 114 _ = blkA g5 114 [.int .i64 x.kind, .int .i64 x.frm, .int .i64 x.to, .int .u64 x.term, .int .u64 0, .int .u64 0, .int .u64 0, .bool x.ok, .slice none 0 0, .slice none 0 0, .int .u64 0, .int .u64 0, .slice none 0 0] from by first | rfl | (rw [show x.ok = false from by assumption]; rfl) | (rw [show x.ok = true from by assumption]; rfl))
  refine t_nil (c_seq (c_seq (c_region ?_)))
  refine t_q (q_mv (.int _ _) rfl) ?_
  refine t_q (q_cast (v' := .int .i64 0) (q_and rfl rfl) (by rfl)) ?_
  refine t_q (q_neq rfl rfl) ?_
  refine t_nil ?_
  refine c_cond_f rfl rfl ?_
  refine c_skip (c_seq (c_seq (c_region ?_)))
  refine t_q (q_mv (.int _ _) rfl) ?_
  refine t_q (q_cast (v' := .int .i64 0) (q_and rfl rfl) (by rfl)) ?_
  refine t_q (q_neq rfl rfl) ?_
  refine t_nil ?_
  refine c_cond_f rfl rfl ?_
  refine c_skip (c_seq (c_seq (c_region ?_)))
  refine t_q (q_mv (.int _ _) rfl) ?_
  refine t_q (q_cast (v' := .int .i64 0) (q_and rfl rfl) (by rfl)) ?_
  refine t_q (q_neq rfl rfl) ?_
  refine t_nil ?_
  refine c_cond_f rfl rfl ?_
  refine c_skip (c_seq (c_seq (c_region ?_)))
  refine t_q (q_mv (.int _ _) rfl) ?_
  refine t_q (q_cast (v' := .int .i64 0) (q_and rfl rfl) (by rfl)) ?_
  refine t_q (q_neq rfl rfl) ?_
  refine t_nil ?_
  refine c_cond_f rfl rfl ?_
  refine c_skip (c_seq (c_seq (c_region ?_)))
  refine t_q (q_mv (.int _ _) rfl) ?_
  refine t_q (q_cast (v' := .int .i64 0) (q_and rfl rfl) (by rfl)) ?_
  refine t_q (q_neq rfl rfl) ?_
  refine t_nil ?_
  refine c_cond_f rfl rfl ?_
  refine c_skip (c_seq (c_region ?_))
  refine t_q (q_load_blk Try.isAgg114 Try.sizeOf114 rfl (hS.blk (by repeat constructor)) rfl) ?_
  refine t_store (v := (.agg _)) Try.sizeOf114 hS (by repeat constructor) rfl rfl rfl rfl rfl rfl (fun w hS => ?_)
  replace hS := hS.recast (show blkA g4 114 _ = bmA g4 114 (keepV 1 x) from by first | rfl | exact rok)
  refine t_nil (c_ret ?_)
  refine r_one rfl (res1_cellN Try.isAgg114 Try.sizeOf114 rfl (hS.blk (by repeat constructor)) rfl) ?_
  exact ⟨rfl, hS.nil⟩
 ·
  intro hg2
  refine t_no rfl rfl (by rw [hg2]; decide) ?_
  refine t_no rfl rfl (by rw [hg2]; decide) ?_
  refine t_no rfl rfl (by rw [hg2]; decide) ?_
  refine t_q (q_pick_f rfl hg2) ?_
  refine t_q (q_build (qs := [(0, 1), (1, 1), (2, 1), (3, 1), (4, 1), (5, 1), (6, 1), (7, 1), (8, 1), (9, 1), (10, 1), (11, 1), (12, 1)]) [(.int _ _), (.int _ _), (.int _ _), (.int _ _), (.int _ _), (.int _ _), (.int _ _), (.bool _), (.slice _ _ _), (.slice _ _ _), (.int _ _), (.int _ _), (.slice _ _ _)] Try.zeroValue114 Try.runUnderlying114 ⟨rfl, Try.sizeOf3, rfl, Try.sizeOf3, rfl, Try.sizeOf3, rfl, Try.sizeOf43, rfl, Try.sizeOf43, rfl, Try.sizeOf43, rfl, Try.sizeOf43, rfl, Try.sizeOf4, rfl, Try.sizeOf111, rfl, Try.sizeOf25, rfl, Try.sizeOf43, rfl, Try.sizeOf43, rfl, Try.sizeOf112, trivial⟩ rfl rfl) ?_
  refine t_alloc Try.zeroValue114 rfl hS (fun g5 w hS => ?_)
  refine t_store (v := (.agg _)) Try.sizeOf114 hS (by repeat constructor) rfl rfl rfl rfl rfl rfl (fun w hS => ?_)
  replace hS := hS.recast (show blkA g5 114 _ = blkA g5 114 [.int .i64 x.kind, .int .i64 x.frm, .int .i64 x.to, .int .u64 x.term, .int .u64 0, .int .u64 0, .int .u64 0, .bool x.ok, .slice none 0 0, .slice none 0 0, .int .u64 0, .int .u64 0, .slice none 0 0] from by first | rfl | (rw [show x.ok = false from by assumption]; rfl) | (rw [show x.ok = true from by assumption]; rfl))
  refine t_nil (c_seq (c_seq (c_region ?_)))
  refine t_q (q_mv (.int _ _) rfl) ?_
  refine t_q (q_cast (v' := .int .i64 0) (q_and rfl rfl) (by rfl)) ?_
  refine t_q (q_neq rfl rfl) ?_
  refine t_nil ?_
  refine c_cond_f rfl rfl ?_
  refine c_skip (c_seq (c_seq (c_region ?_)))
  refine t_q (q_mv (.int _ _) rfl) ?_
  refine t_q (q_cast (v' := .int .i64 0) (q_and rfl rfl) (by rfl)) ?_
  refine t_q (q_neq rfl rfl) ?_
  refine t_nil ?_
  refine c_cond_f rfl rfl ?_
  refine c_skip (c_seq (c_seq (c_region ?_)))
  refine t_q (q_mv (.int _ _) rfl) ?_
  refine t_q (q_cast (v' := .int .i64 0) (q_and rfl rfl) (by rfl)) ?_
  refine t_q (q_neq rfl rfl) ?_
  refine t_nil ?_
  refine c_cond_f rfl rfl ?_
  refine c_skip (c_seq (c_seq (c_region ?_)))
  refine t_q (q_mv (.int _ _) rfl) ?_
  refine t_q (q_cast (v' := .int .i64 0) (q_and rfl rfl) (by rfl)) ?_
  refine t_q (q_neq rfl rfl) ?_
  refine t_nil ?_
  refine c_cond_f rfl rfl ?_
  refine c_skip (c_seq (c_seq (c_region ?_)))
  refine t_q (q_mv (.int _ _) rfl) ?_
  refine t_q (q_cast (v' := .int .i64 0) (q_and rfl rfl) (by rfl)) ?_
  refine t_q (q_neq rfl rfl) ?_
  refine t_nil ?_
  refine c_cond_f rfl rfl ?_
  refine c_skip (c_seq (c_region ?_))
  refine t_q (q_load_blk Try.isAgg114 Try.sizeOf114 rfl (hS.blk (by repeat constructor)) rfl) ?_
  refine t_store (v := (.agg _)) Try.sizeOf114 hS (by repeat constructor) rfl rfl rfl rfl rfl rfl (fun w hS => ?_)
  replace hS := hS.recast (show blkA g4 114 _ = bmA g4 114 (keepV 1 x) from by first | rfl | exact rok)
  refine t_nil (c_ret ?_)
  refine r_one rfl (res1_cellN Try.isAgg114 Try.sizeOf114 rfl (hS.blk (by repeat constructor)) rfl) ?_
  exact ⟨rfl, hS.nil⟩
set_option maxHeartbeats 1000000 in
set_option maxRecDepth 100000 in
theorem only_30 {x : MsgV} : Calls Try.prog 104 #[.agg x.cells.toArray, .int .i64 30] W fun e w' => e = .returned (.agg (keepV 30 x).cells.toArray) ∧ St W w' [] := by
 have hS := St.init W
 refine calls_of_wpE (args := [_, _]) Try.func104 rfl rfl rfl ?_
 refine c_seq (c_region ?_)
 refine t_box (v := (.agg _)) rfl rfl hS (fun g2 w hS => ?_)
 replace hS := hS.recast (show _ = bmA g2 114 x from rfl)
 refine t_alloc Try.zeroValue114 rfl hS (fun g4 w hS => ?_)
 refine t_nil (c_seq (c_region ?_))
 refine t_q (q_fieldAddr 0 Try.runUnderlying114 rfl Try.sizeOf3 (by decide) rfl rfl) ?_
 refine t_q (q_load1 Try.isAgg3 rfl (hS.cell (by repeat constructor) rfl)) ?_
 refine t_q (q_fieldAddr 1 Try.runUnderlying114 rfl Try.sizeOf3 (by decide) rfl rfl) ?_
 refine t_q (q_load1 Try.isAgg3 rfl (hS.cell (by repeat constructor) rfl)) ?_
 refine t_q (q_fieldAddr 2 Try.runUnderlying114 rfl Try.sizeOf3 (by decide) rfl rfl) ?_
 refine t_q (q_load1 Try.isAgg3 rfl (hS.cell (by repeat constructor) rfl)) ?_
 refine t_q (q_fieldAddr 3 Try.runUnderlying114 rfl Try.sizeOf43 (by decide) rfl rfl) ?_
 refine t_q (q_load1 Try.isAgg43 rfl (hS.cell (by repeat constructor) rfl)) ?_
 refine t_q (q_fieldAddr 7 Try.runUnderlying114 rfl Try.sizeOf4 (by decide) rfl rfl) ?_
 refine t_q (q_load1 Try.isAgg4 rfl (hS.cell (by repeat constructor) rfl)) ?_
 refine t_q (q_mv (.bool _) rfl) ?_
 refine t_case 16 rfl ?_ ?_
 ·
  intro hg2
  refine t_yes rfl rfl hg2 ?_
  refine t_q (q_mv (.int _ _) rfl) ?_
  refine t_yes rfl rfl hg2 ?_
  refine t_q (q_cast (v' := .int .i64 0) (q_and rfl rfl) (by rfl)) ?_
  refine t_yes rfl rfl hg2 ?_
  refine t_q (q_cast (v' := .bool false) (q_neq rfl rfl) (by rfl)) ?_
  refine t_q (q_pick_t rfl hg2) ?_
  refine t_q (q_build (qs := [(0, 1), (1, 1), (2, 1), (3, 1), (4, 1), (5, 1), (6, 1), (7, 1), (8, 1), (9, 1), (10, 1), (11, 1), (12, 1)]) [(.int _ _), (.int _ _), (.int _ _), (.int _ _), (.int _ _), (.int _ _), (.int _ _), (.bool _), (.slice _ _ _), (.slice _ _ _), (.int _ _), (.int _ _), (.slice _ _ _)] Try.zeroValue114 Try.runUnderlying114 ⟨rfl, Try.sizeOf3, rfl, Try.sizeOf3, rfl, Try.sizeOf3, rfl, Try.sizeOf43, rfl, Try.sizeOf43, rfl, Try.sizeOf43, rfl, Try.sizeOf43, rfl, Try.sizeOf4, rfl, Try.sizeOf111, rfl, Try.sizeOf25, rfl, Try.sizeOf43, rfl, Try.sizeOf43, rfl, Try.sizeOf112, trivial⟩ rfl rfl) ?_
  refine t_alloc Try.zeroValue114 rfl hS (fun g5 w hS => ?_)
  refine t_store (v := (.agg _)) Try.sizeOf114 hS (by repeat constructor) rfl rfl rfl rfl rfl rfl (fun w hS => ?_)
  replace hS := hS.recast (show blkA g5 114 _ = blkA g5 114 [.int .i64 x.kind, .int .i64 x.frm, .int .i64 x.to, .int .u64 x.term, .int .u64 0, .int .u64 0, .int .u64 0, .bool false, .slice none 0 0, .slice none 0 0, .int .u64 0, .int .u64 0, .slice none 0 0] from by first | rfl | (rw [show x.ok = false from by assumption]))
  refine t_nil (c_seq (c_seq (c_region ?_)))
  refine t_q (q_mv (.int _ _) rfl) ?_
  refine t_q (q_cast (v' := .int .i64 2) (q_and rfl rfl) (by rfl)) ?_
  refine t_q (q_neq rfl rfl) ?_
  refine t_nil ?_
  refine c_cond_t rfl rfl ?_
  refine c_region ?_
  refine t_q (q_fieldAddr 4 Try.runUnderlying114 rfl Try.sizeOf43 (by decide) rfl rfl) ?_
  refine t_q (q_load1 Try.isAgg43 rfl (hS.cell (by repeat constructor) rfl)) ?_
  refine t_q (q_fieldAddr 4 Try.runUnderlying114 rfl Try.sizeOf43 (by decide) rfl rfl) ?_
  refine t_store (v := (.int _ _)) Try.sizeOf43 hS (by repeat constructor) rfl rfl rfl rfl rfl rfl (fun w hS => ?_)
  refine t_nil (c_seq (c_seq (c_region ?_)))
  refine t_q (q_mv (.int _ _) rfl) ?_
  refine t_q (q_cast (v' := .int .i64 4) (q_and rfl rfl) (by rfl)) ?_
  refine t_q (q_neq rfl rfl) ?_
  refine t_nil ?_
  refine c_cond_t rfl rfl ?_
  refine c_region ?_
  refine t_q (q_fieldAddr 5 Try.runUnderlying114 rfl Try.sizeOf43 (by decide) rfl rfl) ?_
  refine t_q (q_load1 Try.isAgg43 rfl (hS.cell (by repeat constructor) rfl)) ?_
  refine t_q (q_fieldAddr 5 Try.runUnderlying114 rfl Try.sizeOf43 (by decide) rfl rfl) ?_
  refine t_store (v := (.int _ _)) Try.sizeOf43 hS (by repeat constructor) rfl rfl rfl rfl rfl rfl (fun w hS => ?_)
  refine t_nil (c_seq (c_seq (c_region ?_)))
  refine t_q (q_mv (.int _ _) rfl) ?_
  refine t_q (q_cast (v' := .int .i64 8) (q_and rfl rfl) (by rfl)) ?_
  refine t_q (q_neq rfl rfl) ?_
  refine t_nil ?_
  refine c_cond_t rfl rfl ?_
  refine c_draw ?_
  refine d_keep (bmA g2 114 x) 8 [0, 1, 2, 3, 4, 5, 6, 7] [0, 1, 4, 5, 2, 3, 6, 7] hS rfl (by kernel_rfl) (by kernel_rfl) (by kernel_rfl) (by kernel_rfl) (fun hap hsel w hS => ?_)
  refine p_q hap hsel 0 rfl rfl ⟨_, hS.pick (by repeat constructor)⟩ (fun w hI => q_fieldAddr 6 Try.runUnderlying114 rfl Try.sizeOf43 (by decide) rfl rfl) ?_
  refine p_q hap hsel 1 rfl rfl ⟨_, hS.pick (by repeat constructor)⟩ (fun w hI => q_load1 Try.isAgg43 rfl (hI.choose_spec.cell (by repeat constructor) rfl)) ?_
  refine p_q hap hsel 2 rfl rfl ⟨_, hS.pick (by repeat constructor)⟩ (fun w hI => q_fieldAddr 8 Try.runUnderlying114 rfl Try.sizeOf111 (by decide) rfl rfl) ?_
  refine p_q hap hsel 3 rfl rfl ⟨_, hS.pick (by repeat constructor)⟩ (fun w hI => q_load1 Try.isAgg111 rfl (hI.choose_spec.cell (by repeat constructor) rfl)) ?_
  refine p_q hap hsel 4 rfl rfl ⟨_, hS.pick (by repeat constructor)⟩ (fun w hI => q_fieldAddr 6 Try.runUnderlying114 rfl Try.sizeOf43 (by decide) rfl rfl) ?_
  refine p_one 5 rfl (by kernel_rfl) ?_
  refine t_store (v := (.int _ _)) Try.sizeOf43 hS (by repeat constructor) rfl rfl rfl rfl rfl rfl (fun w hS => ?_)
  refine t_nil ?_
  refine ⟨.inr ⟨_, hS.pick (by repeat constructor)⟩, ?_⟩
  refine p_q hap hsel 6 rfl rfl ⟨_, hS.pick (by repeat constructor)⟩ (fun w hI => q_fieldAddr 8 Try.runUnderlying114 rfl Try.sizeOf111 (by decide) rfl rfl) ?_
  refine p_one 7 rfl (by kernel_rfl) ?_
  refine t_store (v := (.slice _ _ _)) Try.sizeOf111 hS (by repeat constructor) rfl rfl rfl rfl rfl rfl (fun w hS => ?_)
  refine t_nil ?_
  refine ⟨.inl (by kernel_rfl), ?_⟩
  refine p_end (by kernel_rfl) ?_
  refine c_seq (c_seq (c_region ?_))
  refine t_q (q_mv (.int _ _) rfl) ?_
  refine t_q (q_cast (v' := .int .i64 0) (q_and rfl rfl) (by rfl)) ?_
  refine t_q (q_neq rfl rfl) ?_
  refine t_nil ?_
  refine c_cond_f rfl rfl ?_
  refine c_skip (c_seq (c_seq (c_region ?_)))
  refine t_q (q_mv (.int _ _) rfl) ?_
  refine t_q (q_cast (v' := .int .i64 0) (q_and rfl rfl) (by rfl)) ?_
  refine t_q (q_neq rfl rfl) ?_
  refine t_nil ?_
  refine c_cond_f rfl rfl ?_
  refine c_skip (c_seq (c_region ?_))
  refine t_q (q_load_blk Try.isAgg114 Try.sizeOf114 rfl (hS.blk (by repeat constructor)) rfl) ?_
  refine t_store (v := (.agg _)) Try.sizeOf114 hS (by repeat constructor) rfl rfl rfl rfl rfl rfl (fun w hS => ?_)
  replace hS := hS.recast (show blkA g4 114 _ = bmA g4 114 (keepV 30 x) from by first | rfl | exact rok)
  refine t_nil (c_ret ?_)
  refine r_one rfl (res1_cellN Try.isAgg114 Try.sizeOf114 rfl (hS.blk (by repeat constructor)) rfl) ?_
  exact ⟨rfl, hS.nil⟩
 ·
  intro hg2
  refine t_no rfl rfl (by rw [hg2]; decide) ?_
  refine t_no rfl rfl (by rw [hg2]; decide) ?_
  refine t_no rfl rfl (by rw [hg2]; decide) ?_
  refine t_q (q_pick_f rfl hg2) ?_
  refine t_q (q_build (qs := [(0, 1), (1, 1), (2, 1), (3, 1), (4, 1), (5, 1), (6, 1), (7, 1), (8, 1), (9, 1), (10, 1), (11, 1), (12, 1)]) [(.int _ _), (.int _ _), (.int _ _), (.int _ _), (.int _ _), (.int _ _), (.int _ _), (.bool _), (.slice _ _ _), (.slice _ _ _), (.int _ _), (.int _ _), (.slice _ _ _)] Try.zeroValue114 Try.runUnderlying114 ⟨rfl, Try.sizeOf3, rfl, Try.sizeOf3, rfl, Try.sizeOf3, rfl, Try.sizeOf43, rfl, Try.sizeOf43, rfl, Try.sizeOf43, rfl, Try.sizeOf43, rfl, Try.sizeOf4, rfl, Try.sizeOf111, rfl, Try.sizeOf25, rfl, Try.sizeOf43, rfl, Try.sizeOf43, rfl, Try.sizeOf112, trivial⟩ rfl rfl) ?_
  refine t_alloc Try.zeroValue114 rfl hS (fun g5 w hS => ?_)
  refine t_store (v := (.agg _)) Try.sizeOf114 hS (by repeat constructor) rfl rfl rfl rfl rfl rfl (fun w hS => ?_)
  replace hS := hS.recast (show blkA g5 114 _ = blkA g5 114 [.int .i64 x.kind, .int .i64 x.frm, .int .i64 x.to, .int .u64 x.term, .int .u64 0, .int .u64 0, .int .u64 0, .bool false, .slice none 0 0, .slice none 0 0, .int .u64 0, .int .u64 0, .slice none 0 0] from by first | rfl | (rw [show x.ok = false from by assumption]))
  refine t_nil (c_seq (c_seq (c_region ?_)))
  refine t_q (q_mv (.int _ _) rfl) ?_
  refine t_q (q_cast (v' := .int .i64 2) (q_and rfl rfl) (by rfl)) ?_
  refine t_q (q_neq rfl rfl) ?_
  refine t_nil ?_
  refine c_cond_t rfl rfl ?_
  refine c_region ?_
  refine t_q (q_fieldAddr 4 Try.runUnderlying114 rfl Try.sizeOf43 (by decide) rfl rfl) ?_
  refine t_q (q_load1 Try.isAgg43 rfl (hS.cell (by repeat constructor) rfl)) ?_
  refine t_q (q_fieldAddr 4 Try.runUnderlying114 rfl Try.sizeOf43 (by decide) rfl rfl) ?_
  refine t_store (v := (.int _ _)) Try.sizeOf43 hS (by repeat constructor) rfl rfl rfl rfl rfl rfl (fun w hS => ?_)
  refine t_nil (c_seq (c_seq (c_region ?_)))
  refine t_q (q_mv (.int _ _) rfl) ?_
  refine t_q (q_cast (v' := .int .i64 4) (q_and rfl rfl) (by rfl)) ?_
  refine t_q (q_neq rfl rfl) ?_
  refine t_nil ?_
  refine c_cond_t rfl rfl ?_
  refine c_region ?_
  refine t_q (q_fieldAddr 5 Try.runUnderlying114 rfl Try.sizeOf43 (by decide) rfl rfl) ?_
  refine t_q (q_load1 Try.isAgg43 rfl (hS.cell (by repeat constructor) rfl)) ?_
  refine t_q (q_fieldAddr 5 Try.runUnderlying114 rfl Try.sizeOf43 (by decide) rfl rfl) ?_
  refine t_store (v := (.int _ _)) Try.sizeOf43 hS (by repeat constructor) rfl rfl rfl rfl rfl rfl (fun w hS => ?_)
  refine t_nil (c_seq (c_seq (c_region ?_)))
  refine t_q (q_mv (.int _ _) rfl) ?_
  refine t_q (q_cast (v' := .int .i64 8) (q_and rfl rfl) (by rfl)) ?_
  refine t_q (q_neq rfl rfl) ?_
  refine t_nil ?_
  refine c_cond_t rfl rfl ?_
  refine c_draw ?_
  refine d_keep (bmA g2 114 x) 8 [0, 1, 2, 3, 4, 5, 6, 7] [0, 1, 4, 5, 2, 3, 6, 7] hS rfl (by kernel_rfl) (by kernel_rfl) (by kernel_rfl) (by kernel_rfl) (fun hap hsel w hS => ?_)
  refine p_q hap hsel 0 rfl rfl ⟨_, hS.pick (by repeat constructor)⟩ (fun w hI => q_fieldAddr 6 Try.runUnderlying114 rfl Try.sizeOf43 (by decide) rfl rfl) ?_
  refine p_q hap hsel 1 rfl rfl ⟨_, hS.pick (by repeat constructor)⟩ (fun w hI => q_load1 Try.isAgg43 rfl (hI.choose_spec.cell (by repeat constructor) rfl)) ?_
  refine p_q hap hsel 2 rfl rfl ⟨_, hS.pick (by repeat constructor)⟩ (fun w hI => q_fieldAddr 8 Try.runUnderlying114 rfl Try.sizeOf111 (by decide) rfl rfl) ?_
  refine p_q hap hsel 3 rfl rfl ⟨_, hS.pick (by repeat constructor)⟩ (fun w hI => q_load1 Try.isAgg111 rfl (hI.choose_spec.cell (by repeat constructor) rfl)) ?_
  refine p_q hap hsel 4 rfl rfl ⟨_, hS.pick (by repeat constructor)⟩ (fun w hI => q_fieldAddr 6 Try.runUnderlying114 rfl Try.sizeOf43 (by decide) rfl rfl) ?_
  refine p_one 5 rfl (by kernel_rfl) ?_
  refine t_store (v := (.int _ _)) Try.sizeOf43 hS (by repeat constructor) rfl rfl rfl rfl rfl rfl (fun w hS => ?_)
  refine t_nil ?_
  refine ⟨.inr ⟨_, hS.pick (by repeat constructor)⟩, ?_⟩
  refine p_q hap hsel 6 rfl rfl ⟨_, hS.pick (by repeat constructor)⟩ (fun w hI => q_fieldAddr 8 Try.runUnderlying114 rfl Try.sizeOf111 (by decide) rfl rfl) ?_
  refine p_one 7 rfl (by kernel_rfl) ?_
  refine t_store (v := (.slice _ _ _)) Try.sizeOf111 hS (by repeat constructor) rfl rfl rfl rfl rfl rfl (fun w hS => ?_)
  refine t_nil ?_
  refine ⟨.inl (by kernel_rfl), ?_⟩
  refine p_end (by kernel_rfl) ?_
  refine c_seq (c_seq (c_region ?_))
  refine t_q (q_mv (.int _ _) rfl) ?_
  refine t_q (q_cast (v' := .int .i64 0) (q_and rfl rfl) (by rfl)) ?_
  refine t_q (q_neq rfl rfl) ?_
  refine t_nil ?_
  refine c_cond_f rfl rfl ?_
  refine c_skip (c_seq (c_seq (c_region ?_)))
  refine t_q (q_mv (.int _ _) rfl) ?_
  refine t_q (q_cast (v' := .int .i64 0) (q_and rfl rfl) (by rfl)) ?_
  refine t_q (q_neq rfl rfl) ?_
  refine t_nil ?_
  refine c_cond_f rfl rfl ?_
  refine c_skip (c_seq (c_region ?_))
  refine t_q (q_load_blk Try.isAgg114 Try.sizeOf114 rfl (hS.blk (by repeat constructor)) rfl) ?_
  refine t_store (v := (.agg _)) Try.sizeOf114 hS (by repeat constructor) rfl rfl rfl rfl rfl rfl (fun w hS => ?_)
  replace hS := hS.recast (show blkA g4 114 _ = bmA g4 114 (keepV 30 x) from by first | rfl | exact rok)
  refine t_nil (c_ret ?_)
  refine r_one rfl (res1_cellN Try.isAgg114 Try.sizeOf114 rfl (hS.blk (by repeat constructor)) rfl) ?_
  exact ⟨rfl, hS.nil⟩
set_option maxHeartbeats 1000000 in
set_option maxRecDepth 100000 in
theorem only_3 {x : MsgV} : Calls Try.prog 104 #[.agg x.cells.toArray, .int .i64 3] W fun e w' => e = .returned (.agg (keepV 3 x).cells.toArray) ∧ St W w' [] := by
 have hS := St.init W
 refine calls_of_wpE (args := [_, _]) Try.func104 rfl rfl rfl ?_
 refine c_seq (c_region ?_)
 refine t_box (v := (.agg _)) rfl rfl hS (fun g2 w hS => ?_)
 replace hS := hS.recast (show _ = bmA g2 114 x from rfl)
 refine t_alloc Try.zeroValue114 rfl hS (fun g4 w hS => ?_)
 refine t_nil (c_seq (c_region ?_))
 refine t_q (q_fieldAddr 0 Try.runUnderlying114 rfl Try.sizeOf3 (by decide) rfl rfl) ?_
 refine t_q (q_load1 Try.isAgg3 rfl (hS.cell (by repeat constructor) rfl)) ?_
 refine t_q (q_fieldAddr 1 Try.runUnderlying114 rfl Try.sizeOf3 (by decide) rfl rfl) ?_
 refine t_q (q_load1 Try.isAgg3 rfl (hS.cell (by repeat constructor) rfl)) ?_
 refine t_q (q_fieldAddr 2 Try.runUnderlying114 rfl Try.sizeOf3 (by decide) rfl rfl) ?_
 refine t_q (q_load1 Try.isAgg3 rfl (hS.cell (by repeat constructor) rfl)) ?_
 refine t_q (q_fieldAddr 3 Try.runUnderlying114 rfl Try.sizeOf43 (by decide) rfl rfl) ?_
 refine t_q (q_load1 Try.isAgg43 rfl (hS.cell (by repeat constructor) rfl)) ?_
 refine t_q (q_fieldAddr 7 Try.runUnderlying114 rfl Try.sizeOf4 (by decide) rfl rfl) ?_
 refine t_q (q_load1 Try.isAgg4 rfl (hS.cell (by repeat constructor) rfl)) ?_
 refine t_q (q_mv (.bool _) rfl) ?_
 refine t_case 16 rfl ?_ ?_
 ·
  intro hg2
  refine t_yes rfl rfl hg2 ?_
  refine t_q (q_mv (.int _ _) rfl) ?_
  refine t_yes rfl rfl hg2 ?_
  refine t_q (q_cast (v' := .int .i64 1) (q_and rfl rfl) (by rfl)) ?_
  refine t_yes rfl rfl hg2 ?_
  refine t_q (q_cast (v' := .bool true) (q_neq rfl rfl) (by rfl)) ?_
  refine t_q (q_pick_t rfl hg2) ?_
  refine t_q (q_build (qs := [(0, 1), (1, 1), (2, 1), (3, 1), (4, 1), (5, 1), (6, 1), (7, 1), (8, 1), (9, 1), (10, 1), (11, 1), (12, 1)]) [(.int _ _), (.int _ _), (.int _ _), (.int _ _), (.int _ _), (.int _ _), (.int _ _), (.bool _), (.slice _ _ _), (.slice _ _ _), (.int _ _), (.int _ _), (.slice _ _ _)] Try.zeroValue114 Try.runUnderlying114 ⟨rfl, Try.sizeOf3, rfl, Try.sizeOf3, rfl, Try.sizeOf3, rfl, Try.sizeOf43, rfl, Try.sizeOf43, rfl, Try.sizeOf43, rfl, Try.sizeOf43, rfl, Try.sizeOf4, rfl, Try.sizeOf111, rfl, Try.sizeOf25, rfl, Try.sizeOf43, rfl, Try.sizeOf43, rfl, Try.sizeOf112, trivial⟩ rfl rfl) ?_
  refine t_alloc Try.zeroValue114 rfl hS (fun g5 w hS => ?_)
  refine t_store (v := (.agg _)) Try.sizeOf114 hS (by repeat constructor) rfl rfl rfl rfl rfl rfl (fun w hS => ?_)
  replace hS := hS.recast (show blkA g5 114 _ = blkA g5 114 [.int .i64 x.kind, .int .i64 x.frm, .int .i64 x.to, .int .u64 x.term, .int .u64 0, .int .u64 0, .int .u64 0, .bool x.ok, .slice none 0 0, .slice none 0 0, .int .u64 0, .int .u64 0, .slice none 0 0] from by first | rfl | (rw [show x.ok = false from by assumption]; rfl) | (rw [show x.ok = true from by assumption]; rfl))
  refine t_nil (c_seq (c_seq (c_region ?_)))
  refine t_q (q_mv (.int _ _) rfl) ?_
  refine t_q (q_cast (v' := .int .i64 2) (q_and rfl rfl) (by rfl)) ?_
  refine t_q (q_neq rfl rfl) ?_
  refine t_nil ?_
  refine c_cond_t rfl rfl ?_
  refine c_region ?_
  refine t_q (q_fieldAddr 4 Try.runUnderlying114 rfl Try.sizeOf43 (by decide) rfl rfl) ?_
  refine t_q (q_load1 Try.isAgg43 rfl (hS.cell (by repeat constructor) rfl)) ?_
  refine t_q (q_fieldAddr 4 Try.runUnderlying114 rfl Try.sizeOf43 (by decide) rfl rfl) ?_
  refine t_store (v := (.int _ _)) Try.sizeOf43 hS (by repeat constructor) rfl rfl rfl rfl rfl rfl (fun w hS => ?_)
  refine t_nil (c_seq (c_seq (c_region ?_)))
  refine t_q (q_mv (.int _ _) rfl) ?_
  refine t_q (q_cast (v' := .int .i64 0) (q_and rfl rfl) (by rfl)) ?_
  refine t_q (q_neq rfl rfl) ?_
  refine t_nil ?_
  refine c_cond_f rfl rfl ?_
  refine c_skip (c_seq (c_seq (c_region ?_)))
  refine t_q (q_mv (.int _ _) rfl) ?_
  refine t_q (q_cast (v' := .int .i64 0) (q_and rfl rfl) (by rfl)) ?_
  refine t_q (q_neq rfl rfl) ?_
  refine t_nil ?_
  refine c_cond_f rfl rfl ?_
  refine c_skip (c_seq (c_seq (c_region ?_)))
  refine t_q (q_mv (.int _ _) rfl) ?_
  refine t_q (q_cast (v' := .int .i64 0) (q_and rfl rfl) (by rfl)) ?_
  refine t_q (q_neq rfl rfl) ?_
  refine t_nil ?_
  refine c_cond_f rfl rfl ?_
  refine c_skip (c_seq (c_seq (c_region ?_)))
  refine t_q (q_mv (.int _ _) rfl) ?_
  refine t_q (q_cast (v' := .int .i64 0) (q_and rfl rfl) (by rfl)) ?_
  refine t_q (q_neq rfl rfl) ?_
  refine t_nil ?_
  refine c_cond_f rfl rfl ?_
  refine c_skip (c_seq (c_region ?_))
  refine t_q (q_load_blk Try.isAgg114 Try.sizeOf114 rfl (hS.blk (by repeat constructor)) rfl) ?_
  refine t_store (v := (.agg _)) Try.sizeOf114 hS (by repeat constructor) rfl rfl rfl rfl rfl rfl (fun w hS => ?_)
  replace hS := hS.recast (show blkA g4 114 _ = bmA g4 114 (keepV 3 x) from by first | rfl | exact rok)
  refine t_nil (c_ret ?_)
  refine r_one rfl (res1_cellN Try.isAgg114 Try.sizeOf114 rfl (hS.blk (by repeat constructor)) rfl) ?_
  exact ⟨rfl, hS.nil⟩
 ·
  intro hg2
  refine t_no rfl rfl (by rw [hg2]; decide) ?_
  refine t_no rfl rfl (by rw [hg2]; decide) ?_
  refine t_no rfl rfl (by rw [hg2]; decide) ?_
  refine t_q (q_pick_f rfl hg2) ?_
  refine t_q (q_build (qs := [(0, 1), (1, 1), (2, 1), (3, 1), (4, 1), (5, 1), (6, 1), (7, 1), (8, 1), (9, 1), (10, 1), (11, 1), (12, 1)]) [(.int _ _), (.int _ _), (.int _ _), (.int _ _), (.int _ _), (.int _ _), (.int _ _), (.bool _), (.slice _ _ _), (.slice _ _ _), (.int _ _), (.int _ _), (.slice _ _ _)] Try.zeroValue114 Try.runUnderlying114 ⟨rfl, Try.sizeOf3, rfl, Try.sizeOf3, rfl, Try.sizeOf3, rfl, Try.sizeOf43, rfl, Try.sizeOf43, rfl, Try.sizeOf43, rfl, Try.sizeOf43, rfl, Try.sizeOf4, rfl, Try.sizeOf111, rfl, Try.sizeOf25, rfl, Try.sizeOf43, rfl, Try.sizeOf43, rfl, Try.sizeOf112, trivial⟩ rfl rfl) ?_
  refine t_alloc Try.zeroValue114 rfl hS (fun g5 w hS => ?_)
  refine t_store (v := (.agg _)) Try.sizeOf114 hS (by repeat constructor) rfl rfl rfl rfl rfl rfl (fun w hS => ?_)
  replace hS := hS.recast (show blkA g5 114 _ = blkA g5 114 [.int .i64 x.kind, .int .i64 x.frm, .int .i64 x.to, .int .u64 x.term, .int .u64 0, .int .u64 0, .int .u64 0, .bool x.ok, .slice none 0 0, .slice none 0 0, .int .u64 0, .int .u64 0, .slice none 0 0] from by first | rfl | (rw [show x.ok = false from by assumption]; rfl) | (rw [show x.ok = true from by assumption]; rfl))
  refine t_nil (c_seq (c_seq (c_region ?_)))
  refine t_q (q_mv (.int _ _) rfl) ?_
  refine t_q (q_cast (v' := .int .i64 2) (q_and rfl rfl) (by rfl)) ?_
  refine t_q (q_neq rfl rfl) ?_
  refine t_nil ?_
  refine c_cond_t rfl rfl ?_
  refine c_region ?_
  refine t_q (q_fieldAddr 4 Try.runUnderlying114 rfl Try.sizeOf43 (by decide) rfl rfl) ?_
  refine t_q (q_load1 Try.isAgg43 rfl (hS.cell (by repeat constructor) rfl)) ?_
  refine t_q (q_fieldAddr 4 Try.runUnderlying114 rfl Try.sizeOf43 (by decide) rfl rfl) ?_
  refine t_store (v := (.int _ _)) Try.sizeOf43 hS (by repeat constructor) rfl rfl rfl rfl rfl rfl (fun w hS => ?_)
  refine t_nil (c_seq (c_seq (c_region ?_)))
  refine t_q (q_mv (.int _ _) rfl) ?_
  refine t_q (q_cast (v' := .int .i64 0) (q_and rfl rfl) (by rfl)) ?_
  refine t_q (q_neq rfl rfl) ?_
  refine t_nil ?_
  refine c_cond_f rfl rfl ?_
  refine c_skip (c_seq (c_seq (c_region ?_)))
  refine t_q (q_mv (.int _ _) rfl) ?_
  refine t_q (q_cast (v' := .int .i64 0) (q_and rfl rfl) (by rfl)) ?_
  refine t_q (q_neq rfl rfl) ?_
  refine t_nil ?_
  refine c_cond_f rfl rfl ?_
  refine c_skip (c_seq (c_seq (c_region ?_)))
  refine t_q (q_mv (.int _ _) rfl) ?_
  refine t_q (q_cast (v' := .int .i64 0) (q_and rfl rfl) (by rfl)) ?_
  refine t_q (q_neq rfl rfl) ?_
  refine t_nil ?_
  refine c_cond_f rfl rfl ?_
  refine c_skip (c_seq (c_seq (c_region ?_)))
  refine t_q (q_mv (.int _ _) rfl) ?_
  refine t_q (q_cast (v' := .int .i64 0) (q_and rfl rfl) (by rfl)) ?_
  refine t_q (q_neq rfl rfl) ?_
  refine t_nil ?_
  refine c_cond_f rfl rfl ?_
  refine c_skip (c_seq (c_region ?_))
  refine t_q (q_load_blk Try.isAgg114 Try.sizeOf114 rfl (hS.blk (by repeat constructor)) rfl) ?_
  refine t_store (v := (.agg _)) Try.sizeOf114 hS (by repeat constructor) rfl rfl rfl rfl rfl rfl (fun w hS => ?_)
  replace hS := hS.recast (show blkA g4 114 _ = bmA g4 114 (keepV 3 x) from by first | rfl | exact rok)
  refine t_nil (c_ret ?_)
  refine r_one rfl (res1_cellN Try.isAgg114 Try.sizeOf114 rfl (hS.blk (by repeat constructor)) rfl) ?_
  exact ⟨rfl, hS.nil⟩
set_option maxHeartbeats 1000000 in
set_option maxRecDepth 100000 in
theorem only_38 {x : MsgV} : Calls Try.prog 104 #[.agg x.cells.toArray, .int .i64 38] W fun e w' => e = .returned (.agg (keepV 38 x).cells.toArray) ∧ St W w' [] := by
 have hS := St.init W
 refine calls_of_wpE (args := [_, _]) Try.func104 rfl rfl rfl ?_
 refine c_seq (c_region ?_)
 refine t_box (v := (.agg _)) rfl rfl hS (fun g2 w hS => ?_)
 replace hS := hS.recast (show _ = bmA g2 114 x from rfl)
 refine t_alloc Try.zeroValue114 rfl hS (fun g4 w hS => ?_)
 refine t_nil (c_seq (c_region ?_))
 refine t_q (q_fieldAddr 0 Try.runUnderlying114 rfl Try.sizeOf3 (by decide) rfl rfl) ?_
 refine t_q (q_load1 Try.isAgg3 rfl (hS.cell (by repeat constructor) rfl)) ?_
 refine t_q (q_fieldAddr 1 Try.runUnderlying114 rfl Try.sizeOf3 (by decide) rfl rfl) ?_
 refine t_q (q_load1 Try.isAgg3 rfl (hS.cell (by repeat constructor) rfl)) ?_
 refine t_q (q_fieldAddr 2 Try.runUnderlying114 rfl Try.sizeOf3 (by decide) rfl rfl) ?_
 refine t_q (q_load1 Try.isAgg3 rfl (hS.cell (by repeat constructor) rfl)) ?_
 refine t_q (q_fieldAddr 3 Try.runUnderlying114 rfl Try.sizeOf43 (by decide) rfl rfl) ?_
 refine t_q (q_load1 Try.isAgg43 rfl (hS.cell (by repeat constructor) rfl)) ?_
 refine t_q (q_fieldAddr 7 Try.runUnderlying114 rfl Try.sizeOf4 (by decide) rfl rfl) ?_
 refine t_q (q_load1 Try.isAgg4 rfl (hS.cell (by repeat constructor) rfl)) ?_
 refine t_q (q_mv (.bool _) rfl) ?_
 refine t_case 16 rfl ?_ ?_
 ·
  intro hg2
  refine t_yes rfl rfl hg2 ?_
  refine t_q (q_mv (.int _ _) rfl) ?_
  refine t_yes rfl rfl hg2 ?_
  refine t_q (q_cast (v' := .int .i64 0) (q_and rfl rfl) (by rfl)) ?_
  refine t_yes rfl rfl hg2 ?_
  refine t_q (q_cast (v' := .bool false) (q_neq rfl rfl) (by rfl)) ?_
  refine t_q (q_pick_t rfl hg2) ?_
  refine t_q (q_build (qs := [(0, 1), (1, 1), (2, 1), (3, 1), (4, 1), (5, 1), (6, 1), (7, 1), (8, 1), (9, 1), (10, 1), (11, 1), (12, 1)]) [(.int _ _), (.int _ _), (.int _ _), (.int _ _), (.int _ _), (.int _ _), (.int _ _), (.bool _), (.slice _ _ _), (.slice _ _ _), (.int _ _), (.int _ _), (.slice _ _ _)] Try.zeroValue114 Try.runUnderlying114 ⟨rfl, Try.sizeOf3, rfl, Try.sizeOf3, rfl, Try.sizeOf3, rfl, Try.sizeOf43, rfl, Try.sizeOf43, rfl, Try.sizeOf43, rfl, Try.sizeOf43, rfl, Try.sizeOf4, rfl, Try.sizeOf111, rfl, Try.sizeOf25, rfl, Try.sizeOf43, rfl, Try.sizeOf43, rfl, Try.sizeOf112, trivial⟩ rfl rfl) ?_
  refine t_alloc Try.zeroValue114 rfl hS (fun g5 w hS => ?_)
  refine t_store (v := (.agg _)) Try.sizeOf114 hS (by repeat constructor) rfl rfl rfl rfl rfl rfl (fun w hS => ?_)
  replace hS := hS.recast (show blkA g5 114 _ = blkA g5 114 [.int .i64 x.kind, .int .i64 x.frm, .int .i64 x.to, .int .u64 x.term, .int .u64 0, .int .u64 0, .int .u64 0, .bool false, .slice none 0 0, .slice none 0 0, .int .u64 0, .int .u64 0, .slice none 0 0] from by first | rfl | (rw [show x.ok = false from by assumption]))
  refine t_nil (c_seq (c_seq (c_region ?_)))
  refine t_q (q_mv (.int _ _) rfl) ?_
  refine t_q (q_cast (v' := .int .i64 2) (q_and rfl rfl) (by rfl)) ?_
  refine t_q (q_neq rfl rfl) ?_
  refine t_nil ?_
  refine c_cond_t rfl rfl ?_
  refine c_region ?_
  refine t_q (q_fieldAddr 4 Try.runUnderlying114 rfl Try.sizeOf43 (by decide) rfl rfl) ?_
  refine t_q (q_load1 Try.isAgg43 rfl (hS.cell (by repeat constructor) rfl)) ?_
  refine t_q (q_fieldAddr 4 Try.runUnderlying114 rfl Try.sizeOf43 (by decide) rfl rfl) ?_
  refine t_store (v := (.int _ _)) Try.sizeOf43 hS (by repeat constructor) rfl rfl rfl rfl rfl rfl (fun w hS => ?_)
  refine t_nil (c_seq (c_seq (c_region ?_)))
  refine t_q (q_mv (.int _ _) rfl) ?_
  refine t_q (q_cast (v' := .int .i64 4) (q_and rfl rfl) (by rfl)) ?_
  refine t_q (q_neq rfl rfl) ?_
  refine t_nil ?_
  refine c_cond_t rfl rfl ?_
  refine c_region ?_
  refine t_q (q_fieldAddr 5 Try.runUnderlying114 rfl Try.sizeOf43 (by decide) rfl rfl) ?_
  refine t_q (q_load1 Try.isAgg43 rfl (hS.cell (by repeat constructor) rfl)) ?_
  refine t_q (q_fieldAddr 5 Try.runUnderlying114 rfl Try.sizeOf43 (by decide) rfl rfl) ?_
  refine t_store (v := (.int _ _)) Try.sizeOf43 hS (by repeat constructor) rfl rfl rfl rfl rfl rfl (fun w hS => ?_)
  refine t_nil (c_seq (c_seq (c_region ?_)))
  refine t_q (q_mv (.int _ _) rfl) ?_
  refine t_q (q_cast (v' := .int .i64 0) (q_and rfl rfl) (by rfl)) ?_
  refine t_q (q_neq rfl rfl) ?_
  refine t_nil ?_
  refine c_cond_f rfl rfl ?_
  refine c_skip (c_seq (c_seq (c_region ?_)))
  refine t_q (q_mv (.int _ _) rfl) ?_
  refine t_q (q_cast (v' := .int .i64 32) (q_and rfl rfl) (by rfl)) ?_
  refine t_q (q_neq rfl rfl) ?_
  refine t_nil ?_
  refine c_cond_t rfl rfl ?_
  refine c_region ?_
  refine t_q (q_fieldAddr 9 Try.runUnderlying114 rfl Try.sizeOf25 (by decide) rfl rfl) ?_
  refine t_q (q_load1 Try.isAgg25 rfl (hS.cell (by repeat constructor) rfl)) ?_
  refine t_q (q_fieldAddr 9 Try.runUnderlying114 rfl Try.sizeOf25 (by decide) rfl rfl) ?_
  refine t_store (v := (.slice _ _ _)) Try.sizeOf25 hS (by repeat constructor) rfl rfl rfl rfl rfl rfl (fun w hS => ?_)
  refine t_nil (c_seq (c_seq (c_region ?_)))
  refine t_q (q_mv (.int _ _) rfl) ?_
  refine t_q (q_cast (v' := .int .i64 0) (q_and rfl rfl) (by rfl)) ?_
  refine t_q (q_neq rfl rfl) ?_
  refine t_nil ?_
  refine c_cond_f rfl rfl ?_
  refine c_skip (c_seq (c_region ?_))
  refine t_q (q_load_blk Try.isAgg114 Try.sizeOf114 rfl (hS.blk (by repeat constructor)) rfl) ?_
  refine t_store (v := (.agg _)) Try.sizeOf114 hS (by repeat constructor) rfl rfl rfl rfl rfl rfl (fun w hS => ?_)
  replace hS := hS.recast (show blkA g4 114 _ = bmA g4 114 (keepV 38 x) from by first | rfl | exact rok)
  refine t_nil (c_ret ?_)
  refine r_one rfl (res1_cellN Try.isAgg114 Try.sizeOf114 rfl (hS.blk (by repeat constructor)) rfl) ?_
  exact ⟨rfl, hS.nil⟩
 ·
  intro hg2
  refine t_no rfl rfl (by rw [hg2]; decide) ?_
  refine t_no rfl rfl (by rw [hg2]; decide) ?_
  refine t_no rfl rfl (by rw [hg2]; decide) ?_
  refine t_q (q_pick_f rfl hg2) ?_
  refine t_q (q_build (qs := [(0, 1), (1, 1), (2, 1), (3, 1), (4, 1), (5, 1), (6, 1), (7, 1), (8, 1), (9, 1), (10, 1), (11, 1), (12, 1)]) [(.int _ _), (.int _ _), (.int _ _), (.int _ _), (.int _ _), (.int _ _), (.int _ _), (.bool _), (.slice _ _ _), (.slice _ _ _), (.int _ _), (.int _ _), (.slice _ _ _)] Try.zeroValue114 Try.runUnderlying114 ⟨rfl, Try.sizeOf3, rfl, Try.sizeOf3, rfl, Try.sizeOf3, rfl, Try.sizeOf43, rfl, Try.sizeOf43, rfl, Try.sizeOf43, rfl, Try.sizeOf43, rfl, Try.sizeOf4, rfl, Try.sizeOf111, rfl, Try.sizeOf25, rfl, Try.sizeOf43, rfl, Try.sizeOf43, rfl, Try.sizeOf112, trivial⟩ rfl rfl) ?_
  refine t_alloc Try.zeroValue114 rfl hS (fun g5 w hS => ?_)
  refine t_store (v := (.agg _)) Try.sizeOf114 hS (by repeat constructor) rfl rfl rfl rfl rfl rfl (fun w hS => ?_)
  replace hS := hS.recast (show blkA g5 114 _ = blkA g5 114 [.int .i64 x.kind, .int .i64 x.frm, .int .i64 x.to, .int .u64 x.term, .int .u64 0, .int .u64 0, .int .u64 0, .bool false, .slice none 0 0, .slice none 0 0, .int .u64 0, .int .u64 0, .slice none 0 0] from by first | rfl | (rw [show x.ok = false from by assumption]))
  refine t_nil (c_seq (c_seq (c_region ?_)))
  refine t_q (q_mv (.int _ _) rfl) ?_
  refine t_q (q_cast (v' := .int .i64 2) (q_and rfl rfl) (by rfl)) ?_
  refine t_q (q_neq rfl rfl) ?_
  refine t_nil ?_
  refine c_cond_t rfl rfl ?_
  refine c_region ?_
  refine t_q (q_fieldAddr 4 Try.runUnderlying114 rfl Try.sizeOf43 (by decide) rfl rfl) ?_
  refine t_q (q_load1 Try.isAgg43 rfl (hS.cell (by repeat constructor) rfl)) ?_
  refine t_q (q_fieldAddr 4 Try.runUnderlying114 rfl Try.sizeOf43 (by decide) rfl rfl) ?_
  refine t_store (v := (.int _ _)) Try.sizeOf43 hS (by repeat constructor) rfl rfl rfl rfl rfl rfl (fun w hS => ?_)
  refine t_nil (c_seq (c_seq (c_region ?_)))
  refine t_q (q_mv (.int _ _) rfl) ?_
  refine t_q (q_cast (v' := .int .i64 4) (q_and rfl rfl) (by rfl)) ?_
  refine t_q (q_neq rfl rfl) ?_
  refine t_nil ?_
  refine c_cond_t rfl rfl ?_
  refine c_region ?_
  refine t_q (q_fieldAddr 5 Try.runUnderlying114 rfl Try.sizeOf43 (by decide) rfl rfl) ?_
  refine t_q (q_load1 Try.isAgg43 rfl (hS.cell (by repeat constructor) rfl)) ?_
  refine t_q (q_fieldAddr 5 Try.runUnderlying114 rfl Try.sizeOf43 (by decide) rfl rfl) ?_
  refine t_store (v := (.int _ _)) Try.sizeOf43 hS (by repeat constructor) rfl rfl rfl rfl rfl rfl (fun w hS => ?_)
  refine t_nil (c_seq (c_seq (c_region ?_)))
  refine t_q (q_mv (.int _ _) rfl) ?_
  refine t_q (q_cast (v' := .int .i64 0) (q_and rfl rfl) (by rfl)) ?_
  refine t_q (q_neq rfl rfl) ?_
  refine t_nil ?_
  refine c_cond_f rfl rfl ?_
  refine c_skip (c_seq (c_seq (c_region ?_)))
  refine t_q (q_mv (.int _ _) rfl) ?_
  refine t_q (q_cast (v' := .int .i64 32) (q_and rfl rfl) (by rfl)) ?_
  refine t_q (q_neq rfl rfl) ?_
  refine t_nil ?_
  refine c_cond_t rfl rfl ?_
  refine c_region ?_
  refine t_q (q_fieldAddr 9 Try.runUnderlying114 rfl Try.sizeOf25 (by decide) rfl rfl) ?_
  refine t_q (q_load1 Try.isAgg25 rfl (hS.cell (by repeat constructor) rfl)) ?_
  refine t_q (q_fieldAddr 9 Try.runUnderlying114 rfl Try.sizeOf25 (by decide) rfl rfl) ?_
  refine t_store (v := (.slice _ _ _)) Try.sizeOf25 hS (by repeat constructor) rfl rfl rfl rfl rfl rfl (fun w hS => ?_)
  refine t_nil (c_seq (c_seq (c_region ?_)))
  refine t_q (q_mv (.int _ _) rfl) ?_
  refine t_q (q_cast (v' := .int .i64 0) (q_and rfl rfl) (by rfl)) ?_
  refine t_q (q_neq rfl rfl) ?_
  refine t_nil ?_
  refine c_cond_f rfl rfl ?_
  refine c_skip (c_seq (c_region ?_))
  refine t_q (q_load_blk Try.isAgg114 Try.sizeOf114 rfl (hS.blk (by repeat constructor)) rfl) ?_
  refine t_store (v := (.agg _)) Try.sizeOf114 hS (by repeat constructor) rfl rfl rfl rfl rfl rfl (fun w hS => ?_)
  replace hS := hS.recast (show blkA g4 114 _ = bmA g4 114 (keepV 38 x) from by first | rfl | exact rok)
  refine t_nil (c_ret ?_)
  refine r_one rfl (res1_cellN Try.isAgg114 Try.sizeOf114 rfl (hS.blk (by repeat constructor)) rfl) ?_
  exact ⟨rfl, hS.nil⟩
set_option maxHeartbeats 1000000 in
set_option maxRecDepth 100000 in
theorem only_2 {x : MsgV} : Calls Try.prog 104 #[.agg x.cells.toArray, .int .i64 2] W fun e w' => e = .returned (.agg (keepV 2 x).cells.toArray) ∧ St W w' [] := by
 have hS := St.init W
 refine calls_of_wpE (args := [_, _]) Try.func104 rfl rfl rfl ?_
 refine c_seq (c_region ?_)
 refine t_box (v := (.agg _)) rfl rfl hS (fun g2 w hS => ?_)
 replace hS := hS.recast (show _ = bmA g2 114 x from rfl)
 refine t_alloc Try.zeroValue114 rfl hS (fun g4 w hS => ?_)
 refine t_nil (c_seq (c_region ?_))
 refine t_q (q_fieldAddr 0 Try.runUnderlying114 rfl Try.sizeOf3 (by decide) rfl rfl) ?_
 refine t_q (q_load1 Try.isAgg3 rfl (hS.cell (by repeat constructor) rfl)) ?_
 refine t_q (q_fieldAddr 1 Try.runUnderlying114 rfl Try.sizeOf3 (by decide) rfl rfl) ?_
 refine t_q (q_load1 Try.isAgg3 rfl (hS.cell (by repeat constructor) rfl)) ?_
 refine t_q (q_fieldAddr 2 Try.runUnderlying114 rfl Try.sizeOf3 (by decide) rfl rfl) ?_
 refine t_q (q_load1 Try.isAgg3 rfl (hS.cell (by repeat constructor) rfl)) ?_
 refine t_q (q_fieldAddr 3 Try.runUnderlying114 rfl Try.sizeOf43 (by decide) rfl rfl) ?_
 refine t_q (q_load1 Try.isAgg43 rfl (hS.cell (by repeat constructor) rfl)) ?_
 refine t_q (q_fieldAddr 7 Try.runUnderlying114 rfl Try.sizeOf4 (by decide) rfl rfl) ?_
 refine t_q (q_load1 Try.isAgg4 rfl (hS.cell (by repeat constructor) rfl)) ?_
 refine t_q (q_mv (.bool _) rfl) ?_
 refine t_case 16 rfl ?_ ?_
 ·
  intro hg2
  refine t_yes rfl rfl hg2 ?_
  refine t_q (q_mv (.int _ _) rfl) ?_
  refine t_yes rfl rfl hg2 ?_
  refine t_q (q_cast (v' := .int .i64 0) (q_and rfl rfl) (by rfl)) ?_
  refine t_yes rfl rfl hg2 ?_
  refine t_q (q_cast (v' := .bool false) (q_neq rfl rfl) (by rfl)) ?_
  refine t_q (q_pick_t rfl hg2) ?_
  refine t_q (q_build (qs := [(0, 1), (1, 1), (2, 1), (3, 1), (4, 1), (5, 1), (6, 1), (7, 1), (8, 1), (9, 1), (10, 1), (11, 1), (12, 1)]) [(.int _ _), (.int _ _), (.int _ _), (.int _ _), (.int _ _), (.int _ _), (.int _ _), (.bool _), (.slice _ _ _), (.slice _ _ _), (.int _ _), (.int _ _), (.slice _ _ _)] Try.zeroValue114 Try.runUnderlying114 ⟨rfl, Try.sizeOf3, rfl, Try.sizeOf3, rfl, Try.sizeOf3, rfl, Try.sizeOf43, rfl, Try.sizeOf43, rfl, Try.sizeOf43, rfl, Try.sizeOf43, rfl, Try.sizeOf4, rfl, Try.sizeOf111, rfl, Try.sizeOf25, rfl, Try.sizeOf43, rfl, Try.sizeOf43, rfl, Try.sizeOf112, trivial⟩ rfl rfl) ?_
  refine t_alloc Try.zeroValue114 rfl hS (fun g5 w hS => ?_)
  refine t_store (v := (.agg _)) Try.sizeOf114 hS (by repeat constructor) rfl rfl rfl rfl rfl rfl (fun w hS => ?_)
  replace hS := hS.recast (show blkA g5 114 _ = blkA g5 114 [.int .i64 x.kind, .int .i64 x.frm, .int .i64 x.to, .int .u64 x.term, .int .u64 0, .int .u64 0, .int .u64 0, .bool false, .slice none 0 0, .slice none 0 0, .int .u64 0, .int .u64 0, .slice none 0 0] from by first | rfl | (rw [show x.ok = false from by assumption]))
  refine t_nil (c_seq (c_seq (c_region ?_)))
  refine t_q (q_mv (.int _ _) rfl) ?_
  refine t_q (q_cast (v' := .int .i64 2) (q_and rfl rfl) (by rfl)) ?_
  refine t_q (q_neq rfl rfl) ?_
  refine t_nil ?_
  refine c_cond_t rfl rfl ?_
  refine c_region ?_
  refine t_q (q_fieldAddr 4 Try.runUnderlying114 rfl Try.sizeOf43 (by decide) rfl rfl) ?_
  refine t_q (q_load1 Try.isAgg43 rfl (hS.cell (by repeat constructor) rfl)) ?_
  refine t_q (q_fieldAddr 4 Try.runUnderlying114 rfl Try.sizeOf43 (by decide) rfl rfl) ?_
  refine t_store (v := (.int _ _)) Try.sizeOf43 hS (by repeat constructor) rfl rfl rfl rfl rfl rfl (fun w hS => ?_)
  refine t_nil (c_seq (c_seq (c_region ?_)))
  refine t_q (q_mv (.int _ _) rfl) ?_
  refine t_q (q_cast (v' := .int .i64 0) (q_and rfl rfl) (by rfl)) ?_
  refine t_q (q_neq rfl rfl) ?_
  refine t_nil ?_
  refine c_cond_f rfl rfl ?_
  refine c_skip (c_seq (c_seq (c_region ?_)))
  refine t_q (q_mv (.int _ _) rfl) ?_
  refine t_q (q_cast (v' := .int .i64 0) (q_and rfl rfl) (by rfl)) ?_
  refine t_q (q_neq rfl rfl) ?_
  refine t_nil ?_
  refine c_cond_f rfl rfl ?_
  refine c_skip (c_seq (c_seq (c_region ?_)))
  refine t_q (q_mv (.int _ _) rfl) ?_
  refine t_q (q_cast (v' := .int .i64 0) (q_and rfl rfl) (by rfl)) ?_
  refine t_q (q_neq rfl rfl) ?_
  refine t_nil ?_
  refine c_cond_f rfl rfl ?_
  refine c_skip (c_seq (c_seq (c_region ?_)))
  refine t_q (q_mv (.int _ _) rfl) ?_
  refine t_q (q_cast (v' := .int .i64 0) (q_and rfl rfl) (by rfl)) ?_
  refine t_q (q_neq rfl rfl) ?_
  refine t_nil ?_
  refine c_cond_f rfl rfl ?_
  refine c_skip (c_seq (c_region ?_))
  refine t_q (q_load_blk Try.isAgg114 Try.sizeOf114 rfl (hS.blk (by repeat constructor)) rfl) ?_
  refine t_store (v := (.agg _)) Try.sizeOf114 hS (by repeat constructor) rfl rfl rfl rfl rfl rfl (fun w hS => ?_)
  replace hS := hS.recast (show blkA g4 114 _ = bmA g4 114 (keepV 2 x) from by first | rfl | exact rok)
  refine t_nil (c_ret ?_)
  refine r_one rfl (res1_cellN Try.isAgg114 Try.sizeOf114 rfl (hS.blk (by repeat constructor)) rfl) ?_
  exact ⟨rfl, hS.nil⟩
 ·
  intro hg2
  refine t_no rfl rfl (by rw [hg2]; decide) ?_
  refine t_no rfl rfl (by rw [hg2]; decide) ?_
  refine t_no rfl rfl (by rw [hg2]; decide) ?_
  refine t_q (q_pick_f rfl hg2) ?_
  refine t_q (q_build (qs := [(0, 1), (1, 1), (2, 1), (3, 1), (4, 1), (5, 1), (6, 1), (7, 1), (8, 1), (9, 1), (10, 1), (11, 1), (12, 1)]) [(.int _ _), (.int _ _), (.int _ _), (.int _ _), (.int _ _), (.int _ _), (.int _ _), (.bool _), (.slice _ _ _), (.slice _ _ _), (.int _ _), (.int _ _), (.slice _ _ _)] Try.zeroValue114 Try.runUnderlying114 ⟨rfl, Try.sizeOf3, rfl, Try.sizeOf3, rfl, Try.sizeOf3, rfl, Try.sizeOf43, rfl, Try.sizeOf43, rfl, Try.sizeOf43, rfl, Try.sizeOf43, rfl, Try.sizeOf4, rfl, Try.sizeOf111, rfl, Try.sizeOf25, rfl, Try.sizeOf43, rfl, Try.sizeOf43, rfl, Try.sizeOf112, trivial⟩ rfl rfl) ?_
  refine t_alloc Try.zeroValue114 rfl hS (fun g5 w hS => ?_)
  refine t_store (v := (.agg _)) Try.sizeOf114 hS (by repeat constructor) rfl rfl rfl rfl rfl rfl (fun w hS => ?_)
  replace hS := hS.recast (show blkA g5 114 _ = blkA g5 114 [.int .i64 x.kind, .int .i64 x.frm, .int .i64 x.to, .int .u64 x.term, .int .u64 0, .int .u64 0, .int .u64 0, .bool false, .slice none 0 0, .slice none 0 0, .int .u64 0, .int .u64 0, .slice none 0 0] from by first | rfl | (rw [show x.ok = false from by assumption]))
  refine t_nil (c_seq (c_seq (c_region ?_)))
  refine t_q (q_mv (.int _ _) rfl) ?_
  refine t_q (q_cast (v' := .int .i64 2) (q_and rfl rfl) (by rfl)) ?_
  refine t_q (q_neq rfl rfl) ?_
  refine t_nil ?_
  refine c_cond_t rfl rfl ?_
  refine c_region ?_
  refine t_q (q_fieldAddr 4 Try.runUnderlying114 rfl Try.sizeOf43 (by decide) rfl rfl) ?_
  refine t_q (q_load1 Try.isAgg43 rfl (hS.cell (by repeat constructor) rfl)) ?_
  refine t_q (q_fieldAddr 4 Try.runUnderlying114 rfl Try.sizeOf43 (by decide) rfl rfl) ?_
  refine t_store (v := (.int _ _)) Try.sizeOf43 hS (by repeat constructor) rfl rfl rfl rfl rfl rfl (fun w hS => ?_)
  refine t_nil (c_seq (c_seq (c_region ?_)))
  refine t_q (q_mv (.int _ _) rfl) ?_
  refine t_q (q_cast (v' := .int .i64 0) (q_and rfl rfl) (by rfl)) ?_
  refine t_q (q_neq rfl rfl) ?_
  refine t_nil ?_
  refine c_cond_f rfl rfl ?_
  refine c_skip (c_seq (c_seq (c_region ?_)))
  refine t_q (q_mv (.int _ _) rfl) ?_
  refine t_q (q_cast (v' := .int .i64 0) (q_and rfl rfl) (by rfl)) ?_
  refine t_q (q_neq rfl rfl) ?_
  refine t_nil ?_
  refine c_cond_f rfl rfl ?_
  refine c_skip (c_seq (c_seq (c_region ?_)))
  refine t_q (q_mv (.int _ _) rfl) ?_
  refine t_q (q_cast (v' := .int .i64 0) (q_and rfl rfl) (by rfl)) ?_
  refine t_q (q_neq rfl rfl) ?_
  refine t_nil ?_
  refine c_cond_f rfl rfl ?_
  refine c_skip (c_seq (c_seq (c_region ?_)))
  refine t_q (q_mv (.int _ _) rfl) ?_
  refine t_q (q_cast (v' := .int .i64 0) (q_and rfl rfl) (by rfl)) ?_
  refine t_q (q_neq rfl rfl) ?_
  refine t_nil ?_
  refine c_cond_f rfl rfl ?_
  refine c_skip (c_seq (c_region ?_))
  refine t_q (q_load_blk Try.isAgg114 Try.sizeOf114 rfl (hS.blk (by repeat constructor)) rfl) ?_
  refine t_store (v := (.agg _)) Try.sizeOf114 hS (by repeat constructor) rfl rfl rfl rfl rfl rfl (fun w hS => ?_)
  replace hS := hS.recast (show blkA g4 114 _ = bmA g4 114 (keepV 2 x) from by first | rfl | exact rok)
  refine t_nil (c_ret ?_)
  refine r_one rfl (res1_cellN Try.isAgg114 Try.sizeOf114 rfl (hS.blk (by repeat constructor)) rfl) ?_
  exact ⟨rfl, hS.nil⟩
set_option maxHeartbeats 1000000 in
set_option maxRecDepth 100000 in
theorem only_32 {x : MsgV} : Calls Try.prog 104 #[.agg x.cells.toArray, .int .i64 32] W fun e w' => e = .returned (.agg (keepV 32 x).cells.toArray) ∧ St W w' [] := by
 have hS := St.init W
 refine calls_of_wpE (args := [_, _]) Try.func104 rfl rfl rfl ?_
 refine c_seq (c_region ?_)
 refine t_box (v := (.agg _)) rfl rfl hS (fun g2 w hS => ?_)
 replace hS := hS.recast (show _ = bmA g2 114 x from rfl)
 refine t_alloc Try.zeroValue114 rfl hS (fun g4 w hS => ?_)
 refine t_nil (c_seq (c_region ?_))
 refine t_q (q_fieldAddr 0 Try.runUnderlying114 rfl Try.sizeOf3 (by decide) rfl rfl) ?_
 refine t_q (q_load1 Try.isAgg3 rfl (hS.cell (by repeat constructor) rfl)) ?_
 refine t_q (q_fieldAddr 1 Try.runUnderlying114 rfl Try.sizeOf3 (by decide) rfl rfl) ?_
 refine t_q (q_load1 Try.isAgg3 rfl (hS.cell (by repeat constructor) rfl)) ?_
 refine t_q (q_fieldAddr 2 Try.runUnderlying114 rfl Try.sizeOf3 (by decide) rfl rfl) ?_
 refine t_q (q_load1 Try.isAgg3 rfl (hS.cell (by repeat constructor) rfl)) ?_
 refine t_q (q_fieldAddr 3 Try.runUnderlying114 rfl Try.sizeOf43 (by decide) rfl rfl) ?_
 refine t_q (q_load1 Try.isAgg43 rfl (hS.cell (by repeat constructor) rfl)) ?_
 refine t_q (q_fieldAddr 7 Try.runUnderlying114 rfl Try.sizeOf4 (by decide) rfl rfl) ?_
 refine t_q (q_load1 Try.isAgg4 rfl (hS.cell (by repeat constructor) rfl)) ?_
 refine t_q (q_mv (.bool _) rfl) ?_
 refine t_case 16 rfl ?_ ?_
 ·
  intro hg2
  refine t_yes rfl rfl hg2 ?_
  refine t_q (q_mv (.int _ _) rfl) ?_
  refine t_yes rfl rfl hg2 ?_
  refine t_q (q_cast (v' := .int .i64 0) (q_and rfl rfl) (by rfl)) ?_
  refine t_yes rfl rfl hg2 ?_
  refine t_q (q_cast (v' := .bool false) (q_neq rfl rfl) (by rfl)) ?_
  refine t_q (q_pick_t rfl hg2) ?_
  refine t_q (q_build (qs := [(0, 1), (1, 1), (2, 1), (3, 1), (4, 1), (5, 1), (6, 1), (7, 1), (8, 1), (9, 1), (10, 1), (11, 1), (12, 1)]) [(.int _ _), (.int _ _), (.int _ _), (.int _ _), (.int _ _), (.int _ _), (.int _ _), (.bool _), (.slice _ _ _), (.slice _ _ _), (.int _ _), (.int _ _), (.slice _ _ _)] Try.zeroValue114 Try.runUnderlying114 ⟨rfl, Try.sizeOf3, rfl, Try.sizeOf3, rfl, Try.sizeOf3, rfl, Try.sizeOf43, rfl, Try.sizeOf43, rfl, Try.sizeOf43, rfl, Try.sizeOf43, rfl, Try.sizeOf4, rfl, Try.sizeOf111, rfl, Try.sizeOf25, rfl, Try.sizeOf43, rfl, Try.sizeOf43, rfl, Try.sizeOf112, trivial⟩ rfl rfl) ?_
  refine t_alloc Try.zeroValue114 rfl hS (fun g5 w hS => ?_)
  refine t_store (v := (.agg _)) Try.sizeOf114 hS (by repeat constructor) rfl rfl rfl rfl rfl rfl (fun w hS => ?_)
  replace hS := hS.recast (show blkA g5 114 _ = blkA g5 114 [.int .i64 x.kind, .int .i64 x.frm, .int .i64 x.to, .int .u64 x.term, .int .u64 0, .int .u64 0, .int .u64 0, .bool false, .slice none 0 0, .slice none 0 0, .int .u64 0, .int .u64 0, .slice none 0 0] from by first | rfl | (rw [show x.ok = false from by assumption]))
  refine t_nil (c_seq (c_seq (c_region ?_)))
  refine t_q (q_mv (.int _ _) rfl) ?_
  refine t_q (q_cast (v' := .int .i64 0) (q_and rfl rfl) (by rfl)) ?_
  refine t_q (q_neq rfl rfl) ?_
  refine t_nil ?_
  refine c_cond_f rfl rfl ?_
  refine c_skip (c_seq (c_seq (c_region ?_)))
  refine t_q (q_mv (.int _ _) rfl) ?_
  refine t_q (q_cast (v' := .int .i64 0) (q_and rfl rfl) (by rfl)) ?_
  refine t_q (q_neq rfl rfl) ?_
  refine t_nil ?_
  refine c_cond_f rfl rfl ?_
  refine c_skip (c_seq (c_seq (c_region ?_)))
  refine t_q (q_mv (.int _ _) rfl) ?_
  refine t_q (q_cast (v' := .int .i64 0) (q_and rfl rfl) (by rfl)) ?_
  refine t_q (q_neq rfl rfl) ?_
  refine t_nil ?_
  refine c_cond_f rfl rfl ?_
  refine c_skip (c_seq (c_seq (c_region ?_)))
  refine t_q (q_mv (.int _ _) rfl) ?_
  refine t_q (q_cast (v' := .int .i64 32) (q_and rfl rfl) (by rfl)) ?_
  refine t_q (q_neq rfl rfl) ?_
  refine t_nil ?_
  refine c_cond_t rfl rfl ?_
  refine c_region ?_
  refine t_q (q_fieldAddr 9 Try.runUnderlying114 rfl Try.sizeOf25 (by decide) rfl rfl) ?_
  refine t_q (q_load1 Try.isAgg25 rfl (hS.cell (by repeat constructor) rfl)) ?_
  refine t_q (q_fieldAddr 9 Try.runUnderlying114 rfl Try.sizeOf25 (by decide) rfl rfl) ?_
  refine t_store (v := (.slice _ _ _)) Try.sizeOf25 hS (by repeat constructor) rfl rfl rfl rfl rfl rfl (fun w hS => ?_)
  refine t_nil (c_seq (c_seq (c_region ?_)))
  refine t_q (q_mv (.int _ _) rfl) ?_
  refine t_q (q_cast (v' := .int .i64 0) (q_and rfl rfl) (by rfl)) ?_
  refine t_q (q_neq rfl rfl) ?_
  refine t_nil ?_
  refine c_cond_f rfl rfl ?_
  refine c_skip (c_seq (c_region ?_))
  refine t_q (q_load_blk Try.isAgg114 Try.sizeOf114 rfl (hS.blk (by repeat constructor)) rfl) ?_
  refine t_store (v := (.agg _)) Try.sizeOf114 hS (by repeat constructor) rfl rfl rfl rfl rfl rfl (fun w hS => ?_)
  replace hS := hS.recast (show blkA g4 114 _ = bmA g4 114 (keepV 32 x) from by first | rfl | exact rok)
  refine t_nil (c_ret ?_)
  refine r_one rfl (res1_cellN Try.isAgg114 Try.sizeOf114 rfl (hS.blk (by repeat constructor)) rfl) ?_
  exact ⟨rfl, hS.nil⟩
 ·
  intro hg2
  refine t_no rfl rfl (by rw [hg2]; decide) ?_
  refine t_no rfl rfl (by rw [hg2]; decide) ?_
  refine t_no rfl rfl (by rw [hg2]; decide) ?_
  refine t_q (q_pick_f rfl hg2) ?_
  refine t_q (q_build (qs := [(0, 1), (1, 1), (2, 1), (3, 1), (4, 1), (5, 1), (6, 1), (7, 1), (8, 1), (9, 1), (10, 1), (11, 1), (12, 1)]) [(.int _ _), (.int _ _), (.int _ _), (.int _ _), (.int _ _), (.int _ _), (.int _ _), (.bool _), (.slice _ _ _), (.slice _ _ _), (.int _ _), (.int _ _), (.slice _ _ _)] Try.zeroValue114 Try.runUnderlying114 ⟨rfl, Try.sizeOf3, rfl, Try.sizeOf3, rfl, Try.sizeOf3, rfl, Try.sizeOf43, rfl, Try.sizeOf43, rfl, Try.sizeOf43, rfl, Try.sizeOf43, rfl, Try.sizeOf4, rfl, Try.sizeOf111, rfl, Try.sizeOf25, rfl, Try.sizeOf43, rfl, Try.sizeOf43, rfl, Try.sizeOf112, trivial⟩ rfl rfl) ?_
  refine t_alloc Try.zeroValue114 rfl hS (fun g5 w hS => ?_)
  refine t_store (v := (.agg _)) Try.sizeOf114 hS (by repeat constructor) rfl rfl rfl rfl rfl rfl (fun w hS => ?_)
  replace hS := hS.recast (show blkA g5 114 _ = blkA g5 114 [.int .i64 x.kind, .int .i64 x.frm, .int .i64 x.to, .int .u64 x.term, .int .u64 0, .int .u64 0, .int .u64 0, .bool false, .slice none 0 0, .slice none 0 0, .int .u64 0, .int .u64 0, .slice none 0 0] from by first | rfl | (rw [show x.ok = false from by assumption]))
  refine t_nil (c_seq (c_seq (c_region ?_)))
  refine t_q (q_mv (.int _ _) rfl) ?_
  refine t_q (q_cast (v' := .int .i64 0) (q_and rfl rfl) (by rfl)) ?_
  refine t_q (q_neq rfl rfl) ?_
  refine t_nil ?_
  refine c_cond_f rfl rfl ?_
  refine c_skip (c_seq (c_seq (c_region ?_)))
  refine t_q (q_mv (.int _ _) rfl) ?_
  refine t_q (q_cast (v' := .int .i64 0) (q_and rfl rfl) (by rfl)) ?_
  refine t_q (q_neq rfl rfl) ?_
  refine t_nil ?_
  refine c_cond_f rfl rfl ?_
  refine c_skip (c_seq (c_seq (c_region ?_)))
  refine t_q (q_mv (.int _ _) rfl) ?_
  refine t_q (q_cast (v' := .int .i64 0) (q_and rfl rfl) (by rfl)) ?_
  refine t_q (q_neq rfl rfl) ?_
  refine t_nil ?_
  refine c_cond_f rfl rfl ?_
  refine c_skip (c_seq (c_seq (c_region ?_)))
  refine t_q (q_mv (.int _ _) rfl) ?_
  refine t_q (q_cast (v' := .int .i64 32) (q_and rfl rfl) (by rfl)) ?_
  refine t_q (q_neq rfl rfl) ?_
  refine t_nil ?_
  refine c_cond_t rfl rfl ?_
  refine c_region ?_
  refine t_q (q_fieldAddr 9 Try.runUnderlying114 rfl Try.sizeOf25 (by decide) rfl rfl) ?_
  refine t_q (q_load1 Try.isAgg25 rfl (hS.cell (by repeat constructor) rfl)) ?_
  refine t_q (q_fieldAddr 9 Try.runUnderlying114 rfl Try.sizeOf25 (by decide) rfl rfl) ?_
  refine t_store (v := (.slice _ _ _)) Try.sizeOf25 hS (by repeat constructor) rfl rfl rfl rfl rfl rfl (fun w hS => ?_)
  refine t_nil (c_seq (c_seq (c_region ?_)))
  refine t_q (q_mv (.int _ _) rfl) ?_
  refine t_q (q_cast (v' := .int .i64 0) (q_and rfl rfl) (by rfl)) ?_
  refine t_q (q_neq rfl rfl) ?_
  refine t_nil ?_
  refine c_cond_f rfl rfl ?_
  refine c_skip (c_seq (c_region ?_))
  refine t_q (q_load_blk Try.isAgg114 Try.sizeOf114 rfl (hS.blk (by repeat constructor)) rfl) ?_
  refine t_store (v := (.agg _)) Try.sizeOf114 hS (by repeat constructor) rfl rfl rfl rfl rfl rfl (fun w hS => ?_)
  replace hS := hS.recast (show blkA g4 114 _ = bmA g4 114 (keepV 32 x) from by first | rfl | exact rok)
  refine t_nil (c_ret ?_)
  refine r_one rfl (res1_cellN Try.isAgg114 Try.sizeOf114 rfl (hS.blk (by repeat constructor)) rfl) ?_
  exact ⟨rfl, hS.nil⟩
set_option maxHeartbeats 1000000 in
set_option maxRecDepth 100000 in
theorem only_64 {x : MsgV} : Calls Try.prog 104 #[.agg x.cells.toArray, .int .i64 64] W fun e w' => e = .returned (.agg (keepV 64 x).cells.toArray) ∧ St W w' [] := by
 have hS := St.init W
 refine calls_of_wpE (args := [_, _]) Try.func104 rfl rfl rfl ?_
 refine c_seq (c_region ?_)
 refine t_box (v := (.agg _)) rfl rfl hS (fun g2 w hS => ?_)
 replace hS := hS.recast (show _ = bmA g2 114 x from rfl)
 refine t_alloc Try.zeroValue114 rfl hS (fun g4 w hS => ?_)
 refine t_nil (c_seq (c_region ?_))
 refine t_q (q_fieldAddr 0 Try.runUnderlying114 rfl Try.sizeOf3 (by decide) rfl rfl) ?_
 refine t_q (q_load1 Try.isAgg3 rfl (hS.cell (by repeat constructor) rfl)) ?_
 refine t_q (q_fieldAddr 1 Try.runUnderlying114 rfl Try.sizeOf3 (by decide) rfl rfl) ?_
 refine t_q (q_load1 Try.isAgg3 rfl (hS.cell (by repeat constructor) rfl)) ?_
 refine t_q (q_fieldAddr 2 Try.runUnderlying114 rfl Try.sizeOf3 (by decide) rfl rfl) ?_
 refine t_q (q_load1 Try.isAgg3 rfl (hS.cell (by repeat constructor) rfl)) ?_
 refine t_q (q_fieldAddr 3 Try.runUnderlying114 rfl Try.sizeOf43 (by decide) rfl rfl) ?_
 refine t_q (q_load1 Try.isAgg43 rfl (hS.cell (by repeat constructor) rfl)) ?_
 refine t_q (q_fieldAddr 7 Try.runUnderlying114 rfl Try.sizeOf4 (by decide) rfl rfl) ?_
 refine t_q (q_load1 Try.isAgg4 rfl (hS.cell (by repeat constructor) rfl)) ?_
 refine t_q (q_mv (.bool _) rfl) ?_
 refine t_case 16 rfl ?_ ?_
 ·
  intro hg2
  refine t_yes rfl rfl hg2 ?_
  refine t_q (q_mv (.int _ _) rfl) ?_
  refine t_yes rfl rfl hg2 ?_
  refine t_q (q_cast (v' := .int .i64 0) (q_and rfl rfl) (by rfl)) ?_
  refine t_yes rfl rfl hg2 ?_
  refine t_q (q_cast (v' := .bool false) (q_neq rfl rfl) (by rfl)) ?_
  refine t_q (q_pick_t rfl hg2) ?_
  refine t_q (q_build (qs := [(0, 1), (1, 1), (2, 1), (3, 1), (4, 1), (5, 1), (6, 1), (7, 1), (8, 1), (9, 1), (10, 1), (11, 1), (12, 1)]) [(.int _ _), (.int _ _), (.int _ _), (.int _ _), (.int _ _), (.int _ _), (.int _ _), (.bool _), (.slice _ _ _), (.slice _ _ _), (.int _ _), (.int _ _), (.slice _ _ _)] Try.zeroValue114 Try.runUnderlying114 ⟨rfl, Try.sizeOf3, rfl, Try.sizeOf3, rfl, Try.sizeOf3, rfl, Try.sizeOf43, rfl, Try.sizeOf43, rfl, Try.sizeOf43, rfl, Try.sizeOf43, rfl, Try.sizeOf4, rfl, Try.sizeOf111, rfl, Try.sizeOf25, rfl, Try.sizeOf43, rfl, Try.sizeOf43, rfl, Try.sizeOf112, trivial⟩ rfl rfl) ?_
  refine t_alloc Try.zeroValue114 rfl hS (fun g5 w hS => ?_)
  refine t_store (v := (.agg _)) Try.sizeOf114 hS (by repeat constructor) rfl rfl rfl rfl rfl rfl (fun w hS => ?_)
  replace hS := hS.recast (show blkA g5 114 _ = blkA g5 114 [.int .i64 x.kind, .int .i64 x.frm, .int .i64 x.to, .int .u64 x.term, .int .u64 0, .int .u64 0, .int .u64 0, .bool false, .slice none 0 0, .slice none 0 0, .int .u64 0, .int .u64 0, .slice none 0 0] from by first | rfl | (rw [show x.ok = false from by assumption]))
  refine t_nil (c_seq (c_seq (c_region ?_)))
  refine t_q (q_mv (.int _ _) rfl) ?_
  refine t_q (q_cast (v' := .int .i64 0) (q_and rfl rfl) (by rfl)) ?_
  refine t_q (q_neq rfl rfl) ?_
  refine t_nil ?_
  refine c_cond_f rfl rfl ?_
  refine c_skip (c_seq (c_seq (c_region ?_)))
  refine t_q (q_mv (.int _ _) rfl) ?_
  refine t_q (q_cast (v' := .int .i64 0) (q_and rfl rfl) (by rfl)) ?_
  refine t_q (q_neq rfl rfl) ?_
  refine t_nil ?_
  refine c_cond_f rfl rfl ?_
  refine c_skip (c_seq (c_seq (c_region ?_)))
  refine t_q (q_mv (.int _ _) rfl) ?_
  refine t_q (q_cast (v' := .int .i64 0) (q_and rfl rfl) (by rfl)) ?_
  refine t_q (q_neq rfl rfl) ?_
  refine t_nil ?_
  refine c_cond_f rfl rfl ?_
  refine c_skip (c_seq (c_seq (c_region ?_)))
  refine t_q (q_mv (.int _ _) rfl) ?_
  refine t_q (q_cast (v' := .int .i64 0) (q_and rfl rfl) (by rfl)) ?_
  refine t_q (q_neq rfl rfl) ?_
  refine t_nil ?_
  refine c_cond_f rfl rfl ?_
  refine c_skip (c_seq (c_seq (c_region ?_)))
  refine t_q (q_mv (.int _ _) rfl) ?_
  refine t_q (q_cast (v' := .int .i64 64) (q_and rfl rfl) (by rfl)) ?_
  refine t_q (q_neq rfl rfl) ?_
  refine t_nil ?_
  refine c_cond_t rfl rfl ?_
  refine c_draw ?_
  refine d_keep (bmA g2 114 x) 12 [0, 1, 2, 3, 4, 5, 6, 7, 8, 9, 10, 11] [0, 1, 6, 7, 2, 3, 8, 9, 4, 5, 10, 11] hS rfl (by kernel_rfl) (by kernel_rfl) (by kernel_rfl) (by kernel_rfl) (fun hap hsel w hS => ?_)
  refine p_q hap hsel 0 rfl rfl ⟨_, hS.pick (by repeat constructor)⟩ (fun w hI => q_fieldAddr 10 Try.runUnderlying114 rfl Try.sizeOf43 (by decide) rfl rfl) ?_
  refine p_q hap hsel 1 rfl rfl ⟨_, hS.pick (by repeat constructor)⟩ (fun w hI => q_load1 Try.isAgg43 rfl (hI.choose_spec.cell (by repeat constructor) rfl)) ?_
  refine p_q hap hsel 2 rfl rfl ⟨_, hS.pick (by repeat constructor)⟩ (fun w hI => q_fieldAddr 11 Try.runUnderlying114 rfl Try.sizeOf43 (by decide) rfl rfl) ?_
  refine p_q hap hsel 3 rfl rfl ⟨_, hS.pick (by repeat constructor)⟩ (fun w hI => q_load1 Try.isAgg43 rfl (hI.choose_spec.cell (by repeat constructor) rfl)) ?_
  refine p_q hap hsel 4 rfl rfl ⟨_, hS.pick (by repeat constructor)⟩ (fun w hI => q_fieldAddr 12 Try.runUnderlying114 rfl Try.sizeOf112 (by decide) rfl rfl) ?_
  refine p_q hap hsel 5 rfl rfl ⟨_, hS.pick (by repeat constructor)⟩ (fun w hI => q_load1 Try.isAgg112 rfl (hI.choose_spec.cell (by repeat constructor) rfl)) ?_
  refine p_q hap hsel 6 rfl rfl ⟨_, hS.pick (by repeat constructor)⟩ (fun w hI => q_fieldAddr 10 Try.runUnderlying114 rfl Try.sizeOf43 (by decide) rfl rfl) ?_
  refine p_one 7 rfl (by kernel_rfl) ?_
  refine t_store (v := (.int _ _)) Try.sizeOf43 hS (by repeat constructor) rfl rfl rfl rfl rfl rfl (fun w hS => ?_)
  refine t_nil ?_
  refine ⟨.inr ⟨_, hS.pick (by repeat constructor)⟩, ?_⟩
  refine p_q hap hsel 8 rfl rfl ⟨_, hS.pick (by repeat constructor)⟩ (fun w hI => q_fieldAddr 11 Try.runUnderlying114 rfl Try.sizeOf43 (by decide) rfl rfl) ?_
  refine p_one 9 rfl (by kernel_rfl) ?_
  refine t_store (v := (.int _ _)) Try.sizeOf43 hS (by repeat constructor) rfl rfl rfl rfl rfl rfl (fun w hS => ?_)
  refine t_nil ?_
  refine ⟨.inr ⟨_, hS.pick (by repeat constructor)⟩, ?_⟩
  refine p_q hap hsel 10 rfl rfl ⟨_, hS.pick (by repeat constructor)⟩ (fun w hI => q_fieldAddr 12 Try.runUnderlying114 rfl Try.sizeOf112 (by decide) rfl rfl) ?_
  refine p_one 11 rfl (by kernel_rfl) ?_
  refine t_store (v := (.slice _ _ _)) Try.sizeOf112 hS (by repeat constructor) rfl rfl rfl rfl rfl rfl (fun w hS => ?_)
  refine t_nil ?_
  refine ⟨.inl (by kernel_rfl), ?_⟩
  refine p_end (by kernel_rfl) ?_
  refine c_seq (c_region ?_)
  refine t_q (q_load_blk Try.isAgg114 Try.sizeOf114 rfl (hS.blk (by repeat constructor)) rfl) ?_
  refine t_store (v := (.agg _)) Try.sizeOf114 hS (by repeat constructor) rfl rfl rfl rfl rfl rfl (fun w hS => ?_)
  replace hS := hS.recast (show blkA g4 114 _ = bmA g4 114 (keepV 64 x) from by first | rfl | exact rok)
  refine t_nil (c_ret ?_)
  refine r_one rfl (res1_cellN Try.isAgg114 Try.sizeOf114 rfl (hS.blk (by repeat constructor)) rfl) ?_
  exact ⟨rfl, hS.nil⟩
 ·
  intro hg2
  refine t_no rfl rfl (by rw [hg2]; decide) ?_
  refine t_no rfl rfl (by rw [hg2]; decide) ?_
  refine t_no rfl rfl (by rw [hg2]; decide) ?_
  refine t_q (q_pick_f rfl hg2) ?_
  refine t_q (q_build (qs := [(0, 1), (1, 1), (2, 1), (3, 1), (4, 1), (5, 1), (6, 1), (7, 1), (8, 1), (9, 1), (10, 1), (11, 1), (12, 1)]) [(.int _ _), (.int _ _), (.int _ _), (.int _ _), (.int _ _), (.int _ _), (.int _ _), (.bool _), (.slice _ _ _), (.slice _ _ _), (.int _ _), (.int _ _), (.slice _ _ _)] Try.zeroValue114 Try.runUnderlying114 ⟨rfl, Try.sizeOf3, rfl, Try.sizeOf3, rfl, Try.sizeOf3, rfl, Try.sizeOf43, rfl, Try.sizeOf43, rfl, Try.sizeOf43, rfl, Try.sizeOf43, rfl, Try.sizeOf4, rfl, Try.sizeOf111, rfl, Try.sizeOf25, rfl, Try.sizeOf43, rfl, Try.sizeOf43, rfl, Try.sizeOf112, trivial⟩ rfl rfl) ?_
  refine t_alloc Try.zeroValue114 rfl hS (fun g5 w hS => ?_)
  refine t_store (v := (.agg _)) Try.sizeOf114 hS (by repeat constructor) rfl rfl rfl rfl rfl rfl (fun w hS => ?_)
  replace hS := hS.recast (show blkA g5 114 _ = blkA g5 114 [.int .i64 x.kind, .int .i64 x.frm, .int .i64 x.to, .int .u64 x.term, .int .u64 0, .int .u64 0, .int .u64 0, .bool false, .slice none 0 0, .slice none 0 0, .int .u64 0, .int .u64 0, .slice none 0 0] from by first | rfl | (rw [show x.ok = false from by assumption]))
  refine t_nil (c_seq (c_seq (c_region ?_)))
  refine t_q (q_mv (.int _ _) rfl) ?_
  refine t_q (q_cast (v' := .int .i64 0) (q_and rfl rfl) (by rfl)) ?_
  refine t_q (q_neq rfl rfl) ?_
  refine t_nil ?_
  refine c_cond_f rfl rfl ?_
  refine c_skip (c_seq (c_seq (c_region ?_)))
  refine t_q (q_mv (.int _ _) rfl) ?_
  refine t_q (q_cast (v' := .int .i64 0) (q_and rfl rfl) (by rfl)) ?_
  refine t_q (q_neq rfl rfl) ?_
  refine t_nil ?_
  refine c_cond_f rfl rfl ?_
  refine c_skip (c_seq (c_seq (c_region ?_)))
  refine t_q (q_mv (.int _ _) rfl) ?_
  refine t_q (q_cast (v' := .int .i64 0) (q_and rfl rfl) (by rfl)) ?_
  refine t_q (q_neq rfl rfl) ?_
  refine t_nil ?_
  refine c_cond_f rfl rfl ?_
  refine c_skip (c_seq (c_seq (c_region ?_)))
  refine t_q (q_mv (.int _ _) rfl) ?_
  refine t_q (q_cast (v' := .int .i64 0) (q_and rfl rfl) (by rfl)) ?_
  refine t_q (q_neq rfl rfl) ?_
  refine t_nil ?_
  refine c_cond_f rfl rfl ?_
  refine c_skip (c_seq (c_seq (c_region ?_)))
  refine t_q (q_mv (.int _ _) rfl) ?_
  refine t_q (q_cast (v' := .int .i64 64) (q_and rfl rfl) (by rfl)) ?_
  refine t_q (q_neq rfl rfl) ?_
  refine t_nil ?_
  refine c_cond_t rfl rfl ?_
  refine c_draw ?_
  refine d_keep (bmA g2 114 x) 12 [0, 1, 2, 3, 4, 5, 6, 7, 8, 9, 10, 11] [0, 1, 6, 7, 2, 3, 8, 9, 4, 5, 10, 11] hS rfl (by kernel_rfl) (by kernel_rfl) (by kernel_rfl) (by kernel_rfl) (fun hap hsel w hS => ?_)
  refine p_q hap hsel 0 rfl rfl ⟨_, hS.pick (by repeat constructor)⟩ (fun w hI => q_fieldAddr 10 Try.runUnderlying114 rfl Try.sizeOf43 (by decide) rfl rfl) ?_
  refine p_q hap hsel 1 rfl rfl ⟨_, hS.pick (by repeat constructor)⟩ (fun w hI => q_load1 Try.isAgg43 rfl (hI.choose_spec.cell (by repeat constructor) rfl)) ?_
  refine p_q hap hsel 2 rfl rfl ⟨_, hS.pick (by repeat constructor)⟩ (fun w hI => q_fieldAddr 11 Try.runUnderlying114 rfl Try.sizeOf43 (by decide) rfl rfl) ?_
  refine p_q hap hsel 3 rfl rfl ⟨_, hS.pick (by repeat constructor)⟩ (fun w hI => q_load1 Try.isAgg43 rfl (hI.choose_spec.cell (by repeat constructor) rfl)) ?_
  refine p_q hap hsel 4 rfl rfl ⟨_, hS.pick (by repeat constructor)⟩ (fun w hI => q_fieldAddr 12 Try.runUnderlying114 rfl Try.sizeOf112 (by decide) rfl rfl) ?_
  refine p_q hap hsel 5 rfl rfl ⟨_, hS.pick (by repeat constructor)⟩ (fun w hI => q_load1 Try.isAgg112 rfl (hI.choose_spec.cell (by repeat constructor) rfl)) ?_
  refine p_q hap hsel 6 rfl rfl ⟨_, hS.pick (by repeat constructor)⟩ (fun w hI => q_fieldAddr 10 Try.runUnderlying114 rfl Try.sizeOf43 (by decide) rfl rfl) ?_
  refine p_one 7 rfl (by kernel_rfl) ?_
  refine t_store (v := (.int _ _)) Try.sizeOf43 hS (by repeat constructor) rfl rfl rfl rfl rfl rfl (fun w hS => ?_)
  refine t_nil ?_
  refine ⟨.inr ⟨_, hS.pick (by repeat constructor)⟩, ?_⟩
  refine p_q hap hsel 8 rfl rfl ⟨_, hS.pick (by repeat constructor)⟩ (fun w hI => q_fieldAddr 11 Try.runUnderlying114 rfl Try.sizeOf43 (by decide) rfl rfl) ?_
  refine p_one 9 rfl (by kernel_rfl) ?_
  refine t_store (v := (.int _ _)) Try.sizeOf43 hS (by repeat constructor) rfl rfl rfl rfl rfl rfl (fun w hS => ?_)
  refine t_nil ?_
  refine ⟨.inr ⟨_, hS.pick (by repeat constructor)⟩, ?_⟩
  refine p_q hap hsel 10 rfl rfl ⟨_, hS.pick (by repeat constructor)⟩ (fun w hI => q_fieldAddr 12 Try.runUnderlying114 rfl Try.sizeOf112 (by decide) rfl rfl) ?_
  refine p_one 11 rfl (by kernel_rfl) ?_
  refine t_store (v := (.slice _ _ _)) Try.sizeOf112 hS (by repeat constructor) rfl rfl rfl rfl rfl rfl (fun w hS => ?_)
  refine t_nil ?_
  refine ⟨.inl (by kernel_rfl), ?_⟩
  refine p_end (by kernel_rfl) ?_
  refine c_seq (c_region ?_)
  refine t_q (q_load_blk Try.isAgg114 Try.sizeOf114 rfl (hS.blk (by repeat constructor)) rfl) ?_
  refine t_store (v := (.agg _)) Try.sizeOf114 hS (by repeat constructor) rfl rfl rfl rfl rfl rfl (fun w hS => ?_)
  replace hS := hS.recast (show blkA g4 114 _ = bmA g4 114 (keepV 64 x) from by first | rfl | exact rok)
  refine t_nil (c_ret ?_)
  refine r_one rfl (res1_cellN Try.isAgg114 Try.sizeOf114 rfl (hS.blk (by repeat constructor)) rfl) ?_
  exact ⟨rfl, hS.nil⟩
theorem only_calls {x : MsgV} (h0 : fl x.kind ≠ 0) : Calls Try.prog 104 #[.agg x.cells.toArray, .int .i64 (fl x.kind)] W fun e w' => e = .returned (.agg (keepV (fl x.kind) x).cells.toArray) ∧ St W w' [] := by
  rcases fl_some x.kind with ⟨_, h⟩ | ⟨_, h⟩ | ⟨_, h⟩ | ⟨_, h⟩ | ⟨_, h⟩ | ⟨_, h⟩ | ⟨_, h⟩ | ⟨_, h⟩ | ⟨hn, h⟩
  · rw [h]; exact only_6
  · rw [h]; exact only_1
  · rw [h]; exact only_30
  · rw [h]; exact only_3
  · rw [h]; exact only_38
  · rw [h]; exact only_2
  · rw [h]; exact only_32
  · rw [h]; exact only_64
  · exact absurd h h0
theorem MsgV.Gd.keep {w : World} {x : MsgV} (h : x.Gd w) (v : Int) : (keepV v x).Gd w := by
  have e1 : RdEn w (keepV v x).entries.A (keepV v x).entries.l ∧ (∀ e ∈ (keepV v x).entries.l, e.Gd w) ∧ (keepV v x).entries.l.length ≤ 1000 := by
    show RdEn w (if hasF v 8 then x.entries else sl0).A (if hasF v 8 then x.entries else sl0).l ∧ (∀ e ∈ (if hasF v 8 then x.entries else sl0).l, e.Gd w) ∧ (if hasF v 8 then x.entries else sl0).l.length ≤ 1000
    cases hasF v 8
    · exact ⟨Rd.none_ _ _ _ _, (fun e he => by cases he), Nat.zero_le _⟩
    · exact ⟨h.erd, h.eok, h.ele⟩
  have e2 : RdB w (keepV v x).body.A (keepV v x).body.l ∧ ((keepV v x).body.l.length ≤ (keepV v x).body.c ∧ (keepV v x).body.l.length ≤ 1000000000) := by
    show RdB w (if hasF v 32 then x.body else sl0).A (if hasF v 32 then x.body else sl0).l ∧ ((if hasF v 32 then x.body else sl0).l.length ≤ (if hasF v 32 then x.body else sl0).c ∧ (if hasF v 32 then x.body else sl0).l.length ≤ 1000000000)
    cases hasF v 32
    · exact ⟨Rd.none_ _ _ _ _, Nat.zero_le _, Nat.zero_le _⟩
    · exact ⟨h.brd, h.ble⟩
  have e3 : RdEv w (keepV v x).events.A (keepV v x).events.l ∧ (∀ e ∈ (keepV v x).events.l, e.In) ∧ (keepV v x).events.l.length ≤ 1000000 := by
    show RdEv w (if hasF v 64 then x.events else sl0).A (if hasF v 64 then x.events else sl0).l ∧ (∀ e ∈ (if hasF v 64 then x.events else sl0).l, e.In) ∧ (if hasF v 64 then x.events else sl0).l.length ≤ 1000000
    cases hasF v 64
    · exact ⟨Rd.none_ _ _ _ _, (fun e he => by cases he), Nat.zero_le _⟩
    · exact ⟨h.vrd, h.vin, h.vle⟩
  have z : ∀ (b : Bool) (n : Int), (0 ≤ n ∧ n < 18446744073709551616) → 0 ≤ (if b then n else 0) ∧ (if b then n else 0) < 18446744073709551616 := by
    intro b n hn
    cases b
    · exact (show (0 : Int) ≤ 0 ∧ (0 : Int) < 18446744073709551616 by decide)
    · exact hn
  exact ⟨h.kind, h.frm, h.to, h.term, z _ _ h.index, z _ _ h.logTerm, z _ _ h.commit, z _ _ h.client, z _ _ h.req, e1.1, e1.2.1, e1.2.2, e2.1, e2.2, e3.1, e3.2.1, e3.2.2⟩
set_option maxHeartbeats 1000000 in
set_option maxRecDepth 100000 in
theorem wsound_calls {x : MsgV} (hx : x.Gd W) : Calls Try.prog 59 #[.agg x.cells.toArray] W fun e w' => e = .returned (.bool (soundB x)) ∧ St W w' [] := by
 have hS := St.init W
 refine calls_of_wpE (args := [_]) Try.func59 rfl rfl rfl ?_
 refine c_seq (c_region ?_)
 refine t_box (v := (.agg _)) rfl rfl hS (fun g1 w hS => ?_)
 replace hS := hS.recast (show _ = bmA g1 114 x from rfl)
 refine t_q (q_assign) ?_
 refine t_nil (c_seq (c_region ?_))
 refine t_q (q_fieldAddr 0 Try.runUnderlying114 rfl Try.sizeOf3 (by decide) rfl rfl) ?_
 refine t_q (q_load1 Try.isAgg3 rfl (hS.cell (by repeat constructor) rfl)) ?_
 refine t_call Try.call102 (fields_calls (n := x.kind)) rfl ?_
 rintro e w ⟨rfl, hT⟩
 refine ⟨_, rfl, ?_⟩
 replace hS := hS.after hT
 refine t_q (q_as (.int _ _) rfl) ?_
 refine t_nil (c_seq (c_draw ?_))
 refine d_keep (bmA g1 114 x) 24 [0, 1, 2, 3, 4, 5, 6, 7, 8, 9, 10, 11, 12, 13, 14, 15, 16, 17, 18, 19, 20, 21, 22, 23] [0, 1, 2, 3, 4, 5, 6, 7, 8, 9, 10, 11, 12, 13, 14, 15, 16, 17, 18, 19, 20, 21, 22, 23] hS rfl (by kernel_rfl) (by kernel_rfl) (by kernel_rfl) (by kernel_rfl) (fun hap hsel w hS => ?_)
 refine p_q hap hsel 0 rfl rfl ⟨_, hS.pick (by repeat constructor)⟩ (fun w hI => q_mv (.int _ _) rfl) ?_
 refine p_q hap hsel 1 rfl rfl ⟨_, hS.pick (by repeat constructor)⟩ (fun w hI => q_neq rfl rfl) ?_
 refine p_q hap hsel 2 rfl rfl ⟨_, hS.pick (by repeat constructor)⟩ (fun w hI => q_mv (.bool _) rfl) ?_
 refine p_case 9 rfl ?_ ?_
 ·
  intro hg3
  have hg3d := of_decide_eq_true hg3
  refine p_yes hap hsel 3 rfl rfl ⟨_, hS.pick (by repeat constructor)⟩ rfl rfl hg3 (fun w hI => q_fieldAddr 1 Try.runUnderlying114 rfl Try.sizeOf3 (by decide) rfl rfl) ?_
  refine p_yes hap hsel 4 rfl rfl ⟨_, hS.pick (by repeat constructor)⟩ rfl rfl hg3 (fun w hI => q_load1 Try.isAgg3 rfl (hI.choose_spec.cell (by repeat constructor) rfl)) ?_
  refine p_one 5 rfl (by kernel_rfl) ?_
  refine t_yes rfl rfl hg3 ?_
  refine t_call Try.call103 (node_calls (n := x.frm)) rfl ?_
  rintro e w ⟨rfl, hT⟩
  refine ⟨_, rfl, ?_⟩
  replace hS := hS.after hT
  refine t_nil ?_
  refine ⟨.inr ⟨_, hS.pick (by repeat constructor)⟩, ?_⟩
  refine p_q hap hsel 6 rfl rfl ⟨_, hS.pick (by repeat constructor)⟩ (fun w hI => q_pick_t rfl hg3) ?_
  refine p_q hap hsel 7 rfl rfl ⟨_, hS.pick (by repeat constructor)⟩ (fun w hI => q_mv (.bool _) rfl) ?_
  refine p_case 14 rfl ?_ ?_
  ·
   intro hg5
   refine p_yes hap hsel 8 rfl rfl ⟨_, hS.pick (by repeat constructor)⟩ rfl rfl hg5 (fun w hI => q_fieldAddr 2 Try.runUnderlying114 rfl Try.sizeOf3 (by decide) rfl rfl) ?_
   refine p_yes hap hsel 9 rfl rfl ⟨_, hS.pick (by repeat constructor)⟩ rfl rfl hg5 (fun w hI => q_load1 Try.isAgg3 rfl (hI.choose_spec.cell (by repeat constructor) rfl)) ?_
   refine p_one 10 rfl (by kernel_rfl) ?_
   refine t_yes rfl rfl hg5 ?_
   refine t_call Try.call103 (node_calls (n := x.to)) rfl ?_
   rintro e w ⟨rfl, hT⟩
   refine ⟨_, rfl, ?_⟩
   replace hS := hS.after hT
   refine t_nil ?_
   refine ⟨.inr ⟨_, hS.pick (by repeat constructor)⟩, ?_⟩
   refine p_q hap hsel 11 rfl rfl ⟨_, hS.pick (by repeat constructor)⟩ (fun w hI => q_pick_t rfl hg5) ?_
   refine p_q hap hsel 12 rfl rfl ⟨_, hS.pick (by repeat constructor)⟩ (fun w hI => q_mv (.bool _) rfl) ?_
   refine p_case 19 rfl ?_ ?_
   ·
    intro hg7
    refine p_yes hap hsel 13 rfl rfl ⟨_, hS.pick (by repeat constructor)⟩ rfl rfl hg7 (fun w hI => (q_cast (v' := .agg x.cells.toArray) (q_load_blk Try.isAgg114 Try.sizeOf114 rfl (hI.choose_spec.blk (by repeat constructor)) rfl) (by rfl))) ?_
    refine p_yes hap hsel 14 rfl rfl ⟨_, hS.pick (by repeat constructor)⟩ rfl rfl hg7 (fun w hI => q_mv (.int _ _) rfl) ?_
    refine p_yes hap hsel 16 rfl rfl ⟨_, hS.pick (by repeat constructor)⟩ rfl rfl hg7 (fun w hI => (q_cast (v' := .agg x.cells.toArray) (q_load_blk Try.isAgg114 Try.sizeOf114 rfl (hI.choose_spec.blk (by repeat constructor)) rfl) (by rfl))) ?_
    refine p_one 15 rfl (by kernel_rfl) ?_
    refine t_yes rfl rfl hg7 ?_
    refine t_call Try.call104 (only_calls (x := x) (by omega)) rfl ?_
    rintro e w ⟨rfl, hT⟩
    refine ⟨_, rfl, ?_⟩
    replace hS := hS.after hT
    refine t_nil ?_
    refine ⟨.inr ⟨_, hS.pick (by repeat constructor)⟩, ?_⟩
    refine p_one 17 rfl (by kernel_rfl) ?_
    refine t_yes rfl rfl hg7 ?_
    refine t_call Try.call62 (wsame_calls (x := keepV (fl x.kind) x) (y := x) ((hx.st hS).keep _) (hx.st hS)) rfl ?_
    rintro e w ⟨rfl, hT⟩
    refine ⟨_, rfl, ?_⟩
    replace hS := hS.after hT
    refine t_nil ?_
    refine ⟨.inr ⟨_, hS.pick (by repeat constructor)⟩, ?_⟩
    refine p_q hap hsel 18 rfl rfl ⟨_, hS.pick (by repeat constructor)⟩ (fun w hI => q_pick_t rfl hg7) ?_
    refine p_q hap hsel 19 rfl rfl ⟨_, hS.pick (by repeat constructor)⟩ (fun w hI => q_mv (.bool _) rfl) ?_
    refine p_case 26 rfl ?_ ?_
    ·
     intro hg10
     refine p_yes hap hsel 20 rfl rfl ⟨_, hS.pick (by repeat constructor)⟩ rfl rfl hg10 (fun w hI => (q_cast (v' := .agg x.cells.toArray) (q_load_blk Try.isAgg114 Try.sizeOf114 rfl (hI.choose_spec.blk (by repeat constructor)) rfl) (by rfl))) ?_
     refine p_one 21 rfl (by kernel_rfl) ?_
     refine t_yes rfl rfl hg10 ?_
     refine t_call Try.call105 (fits_calls (x := x) (hx.st hS)) rfl ?_
     rintro e w ⟨rfl, hT⟩
     refine ⟨_, rfl, ?_⟩
     replace hS := hS.after hT
     refine t_nil ?_
     refine ⟨.inr ⟨_, hS.pick (by repeat constructor)⟩, ?_⟩
     refine p_q hap hsel 22 rfl rfl ⟨_, hS.pick (by repeat constructor)⟩ (fun w hI => q_pick_t rfl hg10) ?_
     refine p_q hap hsel 23 rfl rfl ⟨_, hS.pick (by repeat constructor)⟩ (fun w hI => q_as (.bool _) rfl) ?_
     refine p_end (by kernel_rfl) ?_
     refine c_ret ?_
     refine r_one rfl rfl ?_
     have hN := hS.nil
     clear hS
     refine ⟨congrArg (fun b => Ending.returned (.bool b)) ?_, hN⟩
     unfold soundB
     first
       | (simp [*]; done)
       | (simp_all; done)
    ·
     intro hg10
     refine p_no hap hsel 20 rfl rfl ⟨_, hS.pick (by repeat constructor)⟩ rfl rfl (by rw [hg10]; decide) ?_
     refine p_no hap hsel 21 rfl rfl ⟨_, hS.pick (by repeat constructor)⟩ rfl rfl (by rw [hg10]; decide) ?_
     refine p_q hap hsel 22 rfl rfl ⟨_, hS.pick (by repeat constructor)⟩ (fun w hI => q_pick_f rfl hg10) ?_
     refine p_q hap hsel 23 rfl rfl ⟨_, hS.pick (by repeat constructor)⟩ (fun w hI => q_as (.bool _) rfl) ?_
     refine p_end (by kernel_rfl) ?_
     refine c_ret ?_
     refine r_one rfl rfl ?_
     have hN := hS.nil
     clear hS
     refine ⟨congrArg (fun b => Ending.returned (.bool b)) ?_, hN⟩
     unfold soundB
     first
       | (simp [*]; done)
       | (simp_all; done)
   ·
    intro hg7
    refine p_no hap hsel 13 rfl rfl ⟨_, hS.pick (by repeat constructor)⟩ rfl rfl (by rw [hg7]; decide) ?_
    refine p_no hap hsel 14 rfl rfl ⟨_, hS.pick (by repeat constructor)⟩ rfl rfl (by rw [hg7]; decide) ?_
    refine p_no hap hsel 15 rfl rfl ⟨_, hS.pick (by repeat constructor)⟩ rfl rfl (by rw [hg7]; decide) ?_
    refine p_no hap hsel 16 rfl rfl ⟨_, hS.pick (by repeat constructor)⟩ rfl rfl (by rw [hg7]; decide) ?_
    refine p_no hap hsel 17 rfl rfl ⟨_, hS.pick (by repeat constructor)⟩ rfl rfl (by rw [hg7]; decide) ?_
    refine p_q hap hsel 18 rfl rfl ⟨_, hS.pick (by repeat constructor)⟩ (fun w hI => q_pick_f rfl hg7) ?_
    refine p_q hap hsel 19 rfl rfl ⟨_, hS.pick (by repeat constructor)⟩ (fun w hI => q_mv (.bool _) rfl) ?_
    refine p_no hap hsel 20 rfl rfl ⟨_, hS.pick (by repeat constructor)⟩ rfl rfl (by decide) ?_
    refine p_no hap hsel 21 rfl rfl ⟨_, hS.pick (by repeat constructor)⟩ rfl rfl (by decide) ?_
    refine p_q hap hsel 22 rfl rfl ⟨_, hS.pick (by repeat constructor)⟩ (fun w hI => q_pick_f rfl rfl) ?_
    refine p_q hap hsel 23 rfl rfl ⟨_, hS.pick (by repeat constructor)⟩ (fun w hI => q_as (.bool _) rfl) ?_
    refine p_end (by kernel_rfl) ?_
    refine c_ret ?_
    refine r_one rfl rfl ?_
    have hN := hS.nil
    clear hS
    refine ⟨congrArg (fun b => Ending.returned (.bool b)) ?_, hN⟩
    unfold soundB
    first
      | (simp [*]; done)
      | (simp_all; done)
  ·
   intro hg5
   refine p_no hap hsel 8 rfl rfl ⟨_, hS.pick (by repeat constructor)⟩ rfl rfl (by rw [hg5]; decide) ?_
   refine p_no hap hsel 9 rfl rfl ⟨_, hS.pick (by repeat constructor)⟩ rfl rfl (by rw [hg5]; decide) ?_
   refine p_no hap hsel 10 rfl rfl ⟨_, hS.pick (by repeat constructor)⟩ rfl rfl (by rw [hg5]; decide) ?_
   refine p_q hap hsel 11 rfl rfl ⟨_, hS.pick (by repeat constructor)⟩ (fun w hI => q_pick_f rfl hg5) ?_
   refine p_q hap hsel 12 rfl rfl ⟨_, hS.pick (by repeat constructor)⟩ (fun w hI => q_mv (.bool _) rfl) ?_
   refine p_no hap hsel 13 rfl rfl ⟨_, hS.pick (by repeat constructor)⟩ rfl rfl (by decide) ?_
   refine p_no hap hsel 14 rfl rfl ⟨_, hS.pick (by repeat constructor)⟩ rfl rfl (by decide) ?_
   refine p_no hap hsel 15 rfl rfl ⟨_, hS.pick (by repeat constructor)⟩ rfl rfl (by decide) ?_
   refine p_no hap hsel 16 rfl rfl ⟨_, hS.pick (by repeat constructor)⟩ rfl rfl (by decide) ?_
   refine p_no hap hsel 17 rfl rfl ⟨_, hS.pick (by repeat constructor)⟩ rfl rfl (by decide) ?_
   refine p_q hap hsel 18 rfl rfl ⟨_, hS.pick (by repeat constructor)⟩ (fun w hI => q_pick_f rfl rfl) ?_
   refine p_q hap hsel 19 rfl rfl ⟨_, hS.pick (by repeat constructor)⟩ (fun w hI => q_mv (.bool _) rfl) ?_
   refine p_no hap hsel 20 rfl rfl ⟨_, hS.pick (by repeat constructor)⟩ rfl rfl (by decide) ?_
   refine p_no hap hsel 21 rfl rfl ⟨_, hS.pick (by repeat constructor)⟩ rfl rfl (by decide) ?_
   refine p_q hap hsel 22 rfl rfl ⟨_, hS.pick (by repeat constructor)⟩ (fun w hI => q_pick_f rfl rfl) ?_
   refine p_q hap hsel 23 rfl rfl ⟨_, hS.pick (by repeat constructor)⟩ (fun w hI => q_as (.bool _) rfl) ?_
   refine p_end (by kernel_rfl) ?_
   refine c_ret ?_
   refine r_one rfl rfl ?_
   have hN := hS.nil
   clear hS
   refine ⟨congrArg (fun b => Ending.returned (.bool b)) ?_, hN⟩
   unfold soundB
   first
     | (simp [*]; done)
     | (simp_all; done)
 ·
  intro hg3
  have hg3d := of_decide_eq_false hg3
  refine p_no hap hsel 3 rfl rfl ⟨_, hS.pick (by repeat constructor)⟩ rfl rfl (by rw [hg3]; decide) ?_
  refine p_no hap hsel 4 rfl rfl ⟨_, hS.pick (by repeat constructor)⟩ rfl rfl (by rw [hg3]; decide) ?_
  refine p_no hap hsel 5 rfl rfl ⟨_, hS.pick (by repeat constructor)⟩ rfl rfl (by rw [hg3]; decide) ?_
  refine p_q hap hsel 6 rfl rfl ⟨_, hS.pick (by repeat constructor)⟩ (fun w hI => q_pick_f rfl hg3) ?_
  refine p_q hap hsel 7 rfl rfl ⟨_, hS.pick (by repeat constructor)⟩ (fun w hI => q_mv (.bool _) rfl) ?_
  refine p_no hap hsel 8 rfl rfl ⟨_, hS.pick (by repeat constructor)⟩ rfl rfl (by decide) ?_
  refine p_no hap hsel 9 rfl rfl ⟨_, hS.pick (by repeat constructor)⟩ rfl rfl (by decide) ?_
  refine p_no hap hsel 10 rfl rfl ⟨_, hS.pick (by repeat constructor)⟩ rfl rfl (by decide) ?_
  refine p_q hap hsel 11 rfl rfl ⟨_, hS.pick (by repeat constructor)⟩ (fun w hI => q_pick_f rfl rfl) ?_
  refine p_q hap hsel 12 rfl rfl ⟨_, hS.pick (by repeat constructor)⟩ (fun w hI => q_mv (.bool _) rfl) ?_
  refine p_no hap hsel 13 rfl rfl ⟨_, hS.pick (by repeat constructor)⟩ rfl rfl (by decide) ?_
  refine p_no hap hsel 14 rfl rfl ⟨_, hS.pick (by repeat constructor)⟩ rfl rfl (by decide) ?_
  refine p_no hap hsel 15 rfl rfl ⟨_, hS.pick (by repeat constructor)⟩ rfl rfl (by decide) ?_
  refine p_no hap hsel 16 rfl rfl ⟨_, hS.pick (by repeat constructor)⟩ rfl rfl (by decide) ?_
  refine p_no hap hsel 17 rfl rfl ⟨_, hS.pick (by repeat constructor)⟩ rfl rfl (by decide) ?_
  refine p_q hap hsel 18 rfl rfl ⟨_, hS.pick (by repeat constructor)⟩ (fun w hI => q_pick_f rfl rfl) ?_
  refine p_q hap hsel 19 rfl rfl ⟨_, hS.pick (by repeat constructor)⟩ (fun w hI => q_mv (.bool _) rfl) ?_
  refine p_no hap hsel 20 rfl rfl ⟨_, hS.pick (by repeat constructor)⟩ rfl rfl (by decide) ?_
  refine p_no hap hsel 21 rfl rfl ⟨_, hS.pick (by repeat constructor)⟩ rfl rfl (by decide) ?_
  refine p_q hap hsel 22 rfl rfl ⟨_, hS.pick (by repeat constructor)⟩ (fun w hI => q_pick_f rfl rfl) ?_
  refine p_q hap hsel 23 rfl rfl ⟨_, hS.pick (by repeat constructor)⟩ (fun w hI => q_as (.bool _) rfl) ?_
  refine p_end (by kernel_rfl) ?_
  refine c_ret ?_
  refine r_one rfl rfl ?_
  have hN := hS.nil
  clear hS
  refine ⟨congrArg (fun b => Ending.returned (.bool b)) ?_, hN⟩
  unfold soundB
  first
    | (simp [*]; done)
    | (simp_all; done)
end Go.Proofs.Ytlppgpidakfnlaa
