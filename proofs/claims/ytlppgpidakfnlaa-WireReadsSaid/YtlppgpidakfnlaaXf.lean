/- Messages: which may be: the document's. -/
import Derived.Test.YtlppgpidakfnlaaXe
namespace Go.Proofs.Ytlppgpidakfnlaa
open Go Go.RowKit Go.Lib
variable {W : World}
attribute [local irreducible] blkA rowA
set_option maxHeartbeats 2000000 in
set_option maxRecDepth 100000 in
theorem kept_calls {x : MsgV} : Calls Try.prog 106 #[.agg x.cells.toArray] W fun e w' => e = .returned (.tuple #[.agg (keepV (fl x.kind) x).cells.toArray, .bool (decide (fl x.kind ≠ 0))]) ∧ St W w' [] := by
 have hS := St.init W
 refine calls_of_wpE (args := [_]) Try.func106 rfl rfl rfl ?_
 refine c_seq (c_region ?_)
 refine t_box (v := (.agg _)) rfl rfl hS (fun g1 w hS => ?_)
 replace hS := hS.recast (show _ = bmA g1 119 x from rfl)
 refine t_alloc Try.zeroValue119 rfl hS (fun g2 w hS => ?_)
 refine t_q (q_assign) ?_
 refine t_nil (c_seq (c_region ?_))
 refine t_q (q_fieldAddr 0 Try.runUnderlying119 rfl Try.sizeOf3 (by decide) rfl rfl) ?_
 refine t_q (q_load1 Try.isAgg3 rfl (hS.cell (by repeat constructor) rfl)) ?_
 refine t_q (q_fieldAddr 1 Try.runUnderlying119 rfl Try.sizeOf3 (by decide) rfl rfl) ?_
 refine t_q (q_load1 Try.isAgg3 rfl (hS.cell (by repeat constructor) rfl)) ?_
 refine t_q (q_fieldAddr 2 Try.runUnderlying119 rfl Try.sizeOf3 (by decide) rfl rfl) ?_
 refine t_q (q_load1 Try.isAgg3 rfl (hS.cell (by repeat constructor) rfl)) ?_
 refine t_q (q_fieldAddr 3 Try.runUnderlying119 rfl Try.sizeOf43 (by decide) rfl rfl) ?_
 refine t_q (q_load1 Try.isAgg43 rfl (hS.cell (by repeat constructor) rfl)) ?_
 refine t_q (q_build (qs := [(0, 1), (1, 1), (2, 1), (3, 1), (4, 1), (5, 1), (6, 1), (7, 1), (8, 1), (9, 1), (10, 1), (11, 1), (12, 1)]) [(.int _ _), (.int _ _), (.int _ _), (.int _ _), (.int _ _), (.int _ _), (.int _ _), (.bool _), (.slice _ _ _), (.slice _ _ _), (.int _ _), (.int _ _), (.slice _ _ _)] Try.zeroValue119 Try.runUnderlying119 ⟨rfl, Try.sizeOf3, rfl, Try.sizeOf3, rfl, Try.sizeOf3, rfl, Try.sizeOf43, rfl, Try.sizeOf43, rfl, Try.sizeOf43, rfl, Try.sizeOf43, rfl, Try.sizeOf4, rfl, Try.sizeOf117, rfl, Try.sizeOf25, rfl, Try.sizeOf43, rfl, Try.sizeOf43, rfl, Try.sizeOf112, trivial⟩ rfl rfl) ?_
 refine t_alloc Try.zeroValue119 rfl hS (fun g4 w hS => ?_)
 refine t_store (v := (.agg _)) Try.sizeOf119 hS (by repeat constructor) rfl rfl rfl rfl rfl rfl (fun w hS => ?_)
 replace hS := hS.recast (show blkA g4 119 _ = blkA g4 119 [.int .i64 x.kind, .int .i64 x.frm, .int .i64 x.to, .int .u64 x.term, .int .u64 0, .int .u64 0, .int .u64 0, .bool false, .slice none 0 0, .slice none 0 0, .int .u64 0, .int .u64 0, .slice none 0 0] from rfl)
 refine t_nil (c_seq (c_seq (c_region ?_)))
 refine t_q (q_fieldAddr 0 Try.runUnderlying119 rfl Try.sizeOf3 (by decide) rfl rfl) ?_
 refine t_q (q_load1 Try.isAgg3 rfl (hS.cell (by repeat constructor) rfl)) ?_
 refine t_nil (c_block (c_seq (c_region ?_)))
 refine t_q (q_eql rfl rfl) ?_
 refine t_q (q_as (.bool _) rfl) ?_
 refine t_nil ?_
 refine c_cond rfl ?_ ?_
 ·
  intro hc2
  have hc2d := of_decide_eq_true hc2
  have hfl : fl x.kind = 6 := by rcases fl_some x.kind with ⟨h, h'⟩ | ⟨h, h'⟩ | ⟨h, h'⟩ | ⟨h, h'⟩ | ⟨h, h'⟩ | ⟨h, h'⟩ | ⟨h, h'⟩ | ⟨h, h'⟩ | ⟨h, h'⟩ <;> first | exact h' | (exfalso; omega)
  refine c_draw ?_
  refine d_keep (bmA g1 119 x) 8 [0, 1, 2, 3, 4, 5, 6, 7] [0, 1, 4, 5, 2, 3, 6, 7] hS rfl (by kernel_rfl) (by kernel_rfl) (by kernel_rfl) (by kernel_rfl) (fun hap hsel w hS => ?_)
  refine p_q hap hsel 0 rfl rfl ⟨_, hS.pick (by repeat constructor)⟩ (fun w hI => q_fieldAddr 4 Try.runUnderlying119 rfl Try.sizeOf43 (by decide) rfl rfl) ?_
  refine p_q hap hsel 1 rfl rfl ⟨_, hS.pick (by repeat constructor)⟩ (fun w hI => q_load1 Try.isAgg43 rfl (hI.choose_spec.cell (by repeat constructor) rfl)) ?_
  refine p_q hap hsel 2 rfl rfl ⟨_, hS.pick (by repeat constructor)⟩ (fun w hI => q_fieldAddr 5 Try.runUnderlying119 rfl Try.sizeOf43 (by decide) rfl rfl) ?_
  refine p_q hap hsel 3 rfl rfl ⟨_, hS.pick (by repeat constructor)⟩ (fun w hI => q_load1 Try.isAgg43 rfl (hI.choose_spec.cell (by repeat constructor) rfl)) ?_
  refine p_q hap hsel 4 rfl rfl ⟨_, hS.pick (by repeat constructor)⟩ (fun w hI => q_fieldAddr 4 Try.runUnderlying119 rfl Try.sizeOf43 (by decide) rfl rfl) ?_
  refine p_one 5 rfl (by kernel_rfl) ?_
  refine t_store (v := (.int _ _)) Try.sizeOf43 hS (by repeat constructor) rfl rfl rfl rfl rfl rfl (fun w hS => ?_)
  replace hS := hS.recast (show blkA g4 119 _ = blkA g4 119 [.int .i64 x.kind, .int .i64 x.frm, .int .i64 x.to, .int .u64 x.term, .int .u64 x.index, .int .u64 0, .int .u64 0, .bool false, .slice none 0 0, .slice none 0 0, .int .u64 0, .int .u64 0, .slice none 0 0] from rfl)
  refine t_nil ?_
  refine ⟨.inr ⟨_, hS.pick (by repeat constructor)⟩, ?_⟩
  refine p_q hap hsel 6 rfl rfl ⟨_, hS.pick (by repeat constructor)⟩ (fun w hI => q_fieldAddr 5 Try.runUnderlying119 rfl Try.sizeOf43 (by decide) rfl rfl) ?_
  refine p_one 7 rfl (by kernel_rfl) ?_
  refine t_store (v := (.int _ _)) Try.sizeOf43 hS (by repeat constructor) rfl rfl rfl rfl rfl rfl (fun w hS => ?_)
  replace hS := hS.recast (show blkA g4 119 _ = blkA g4 119 [.int .i64 x.kind, .int .i64 x.frm, .int .i64 x.to, .int .u64 x.term, .int .u64 x.index, .int .u64 x.logTerm, .int .u64 0, .bool false, .slice none 0 0, .slice none 0 0, .int .u64 0, .int .u64 0, .slice none 0 0] from rfl)
  refine t_nil ?_
  refine ⟨.inl (by kernel_rfl), ?_⟩
  refine p_end (by kernel_rfl) ?_
  refine c_seq (c_region ?_)
  refine t_q (q_load_blk Try.isAgg119 Try.sizeOf119 rfl (hS.blk (by repeat constructor)) rfl) ?_
  refine t_store (v := (.agg _)) Try.sizeOf119 hS (by repeat constructor) rfl rfl rfl rfl rfl rfl (fun w hS => ?_)
  refine t_q (q_assign) ?_
  refine t_nil (c_ret ?_)
  refine r_two rfl (res1_cellN Try.isAgg119 Try.sizeOf119 rfl (hS.blk (by repeat constructor)) rfl) rfl ?_
  rw [hfl]
  exact ⟨rfl, hS.nil⟩
 ·
  intro hc2
  have hc2d := of_decide_eq_false hc2
  refine c_seq (c_region ?_)
  refine t_q (q_eql rfl rfl) ?_
  refine t_q (q_as (.bool _) rfl) ?_
  refine t_nil ?_
  refine c_cond rfl ?_ ?_
  ·
   intro hc4
   have hc4d := of_decide_eq_true hc4
   have hfl : fl x.kind = 1 := by rcases fl_some x.kind with ⟨h, h'⟩ | ⟨h, h'⟩ | ⟨h, h'⟩ | ⟨h, h'⟩ | ⟨h, h'⟩ | ⟨h, h'⟩ | ⟨h, h'⟩ | ⟨h, h'⟩ | ⟨h, h'⟩ <;> first | exact h' | (exfalso; omega)
   refine c_region ?_
   refine t_q (q_fieldAddr 7 Try.runUnderlying119 rfl Try.sizeOf4 (by decide) rfl rfl) ?_
   refine t_q (q_load1 Try.isAgg4 rfl (hS.cell (by repeat constructor) rfl)) ?_
   refine t_q (q_fieldAddr 7 Try.runUnderlying119 rfl Try.sizeOf4 (by decide) rfl rfl) ?_
   refine t_store (v := (.bool _)) Try.sizeOf4 hS (by repeat constructor) rfl rfl rfl rfl rfl rfl (fun w hS => ?_)
   replace hS := hS.recast (show blkA g4 119 _ = blkA g4 119 [.int .i64 x.kind, .int .i64 x.frm, .int .i64 x.to, .int .u64 x.term, .int .u64 0, .int .u64 0, .int .u64 0, .bool x.ok, .slice none 0 0, .slice none 0 0, .int .u64 0, .int .u64 0, .slice none 0 0] from rfl)
   refine t_nil (c_seq (c_region ?_))
   refine t_q (q_load_blk Try.isAgg119 Try.sizeOf119 rfl (hS.blk (by repeat constructor)) rfl) ?_
   refine t_store (v := (.agg _)) Try.sizeOf119 hS (by repeat constructor) rfl rfl rfl rfl rfl rfl (fun w hS => ?_)
   refine t_q (q_assign) ?_
   refine t_nil (c_ret ?_)
   refine r_two rfl (res1_cellN Try.isAgg119 Try.sizeOf119 rfl (hS.blk (by repeat constructor)) rfl) rfl ?_
   rw [hfl]
   exact ⟨rfl, hS.nil⟩
  ·
   intro hc4
   have hc4d := of_decide_eq_false hc4
   refine c_seq (c_region ?_)
   refine t_q (q_eql rfl rfl) ?_
   refine t_q (q_as (.bool _) rfl) ?_
   refine t_nil ?_
   refine c_cond rfl ?_ ?_
   ·
    intro hc7
    have hc7d := of_decide_eq_true hc7
    have hfl : fl x.kind = 30 := by rcases fl_some x.kind with ⟨h, h'⟩ | ⟨h, h'⟩ | ⟨h, h'⟩ | ⟨h, h'⟩ | ⟨h, h'⟩ | ⟨h, h'⟩ | ⟨h, h'⟩ | ⟨h, h'⟩ | ⟨h, h'⟩ <;> first | exact h' | (exfalso; omega)
    refine c_draw ?_
    refine d_keep (bmA g1 119 x) 16 [0, 1, 2, 3, 4, 5, 6, 7, 8, 9, 10, 11, 12, 13, 14, 15] [0, 1, 8, 9, 2, 3, 10, 11, 4, 5, 12, 13, 6, 7, 14, 15] hS rfl (by kernel_rfl) (by kernel_rfl) (by kernel_rfl) (by kernel_rfl) (fun hap hsel w hS => ?_)
    refine p_q hap hsel 0 rfl rfl ⟨_, hS.pick (by repeat constructor)⟩ (fun w hI => q_fieldAddr 4 Try.runUnderlying119 rfl Try.sizeOf43 (by decide) rfl rfl) ?_
    refine p_q hap hsel 1 rfl rfl ⟨_, hS.pick (by repeat constructor)⟩ (fun w hI => q_load1 Try.isAgg43 rfl (hI.choose_spec.cell (by repeat constructor) rfl)) ?_
    refine p_q hap hsel 2 rfl rfl ⟨_, hS.pick (by repeat constructor)⟩ (fun w hI => q_fieldAddr 5 Try.runUnderlying119 rfl Try.sizeOf43 (by decide) rfl rfl) ?_
    refine p_q hap hsel 3 rfl rfl ⟨_, hS.pick (by repeat constructor)⟩ (fun w hI => q_load1 Try.isAgg43 rfl (hI.choose_spec.cell (by repeat constructor) rfl)) ?_
    refine p_q hap hsel 4 rfl rfl ⟨_, hS.pick (by repeat constructor)⟩ (fun w hI => q_fieldAddr 6 Try.runUnderlying119 rfl Try.sizeOf43 (by decide) rfl rfl) ?_
    refine p_q hap hsel 5 rfl rfl ⟨_, hS.pick (by repeat constructor)⟩ (fun w hI => q_load1 Try.isAgg43 rfl (hI.choose_spec.cell (by repeat constructor) rfl)) ?_
    refine p_q hap hsel 6 rfl rfl ⟨_, hS.pick (by repeat constructor)⟩ (fun w hI => q_fieldAddr 8 Try.runUnderlying119 rfl Try.sizeOf117 (by decide) rfl rfl) ?_
    refine p_q hap hsel 7 rfl rfl ⟨_, hS.pick (by repeat constructor)⟩ (fun w hI => q_load1 Try.isAgg117 rfl (hI.choose_spec.cell (by repeat constructor) rfl)) ?_
    refine p_q hap hsel 8 rfl rfl ⟨_, hS.pick (by repeat constructor)⟩ (fun w hI => q_fieldAddr 4 Try.runUnderlying119 rfl Try.sizeOf43 (by decide) rfl rfl) ?_
    refine p_one 9 rfl (by kernel_rfl) ?_
    refine t_store (v := (.int _ _)) Try.sizeOf43 hS (by repeat constructor) rfl rfl rfl rfl rfl rfl (fun w hS => ?_)
    replace hS := hS.recast (show blkA g4 119 _ = blkA g4 119 [.int .i64 x.kind, .int .i64 x.frm, .int .i64 x.to, .int .u64 x.term, .int .u64 x.index, .int .u64 0, .int .u64 0, .bool false, .slice none 0 0, .slice none 0 0, .int .u64 0, .int .u64 0, .slice none 0 0] from rfl)
    refine t_nil ?_
    refine ⟨.inr ⟨_, hS.pick (by repeat constructor)⟩, ?_⟩
    refine p_q hap hsel 10 rfl rfl ⟨_, hS.pick (by repeat constructor)⟩ (fun w hI => q_fieldAddr 5 Try.runUnderlying119 rfl Try.sizeOf43 (by decide) rfl rfl) ?_
    refine p_one 11 rfl (by kernel_rfl) ?_
    refine t_store (v := (.int _ _)) Try.sizeOf43 hS (by repeat constructor) rfl rfl rfl rfl rfl rfl (fun w hS => ?_)
    replace hS := hS.recast (show blkA g4 119 _ = blkA g4 119 [.int .i64 x.kind, .int .i64 x.frm, .int .i64 x.to, .int .u64 x.term, .int .u64 x.index, .int .u64 x.logTerm, .int .u64 0, .bool false, .slice none 0 0, .slice none 0 0, .int .u64 0, .int .u64 0, .slice none 0 0] from rfl)
    refine t_nil ?_
    refine ⟨.inr ⟨_, hS.pick (by repeat constructor)⟩, ?_⟩
    refine p_q hap hsel 12 rfl rfl ⟨_, hS.pick (by repeat constructor)⟩ (fun w hI => q_fieldAddr 6 Try.runUnderlying119 rfl Try.sizeOf43 (by decide) rfl rfl) ?_
    refine p_one 13 rfl (by kernel_rfl) ?_
    refine t_store (v := (.int _ _)) Try.sizeOf43 hS (by repeat constructor) rfl rfl rfl rfl rfl rfl (fun w hS => ?_)
    replace hS := hS.recast (show blkA g4 119 _ = blkA g4 119 [.int .i64 x.kind, .int .i64 x.frm, .int .i64 x.to, .int .u64 x.term, .int .u64 x.index, .int .u64 x.logTerm, .int .u64 x.commit, .bool false, .slice none 0 0, .slice none 0 0, .int .u64 0, .int .u64 0, .slice none 0 0] from rfl)
    refine t_nil ?_
    refine ⟨.inr ⟨_, hS.pick (by repeat constructor)⟩, ?_⟩
    refine p_q hap hsel 14 rfl rfl ⟨_, hS.pick (by repeat constructor)⟩ (fun w hI => q_fieldAddr 8 Try.runUnderlying119 rfl Try.sizeOf117 (by decide) rfl rfl) ?_
    refine p_one 15 rfl (by kernel_rfl) ?_
    refine t_store (v := (.slice _ _ _)) Try.sizeOf117 hS (by repeat constructor) rfl rfl rfl rfl rfl rfl (fun w hS => ?_)
    replace hS := hS.recast (show blkA g4 119 _ = blkA g4 119 [.int .i64 x.kind, .int .i64 x.frm, .int .i64 x.to, .int .u64 x.term, .int .u64 x.index, .int .u64 x.logTerm, .int .u64 x.commit, .bool false, .slice x.entries.A x.entries.l.length x.entries.c, .slice none 0 0, .int .u64 0, .int .u64 0, .slice none 0 0] from rfl)
    refine t_nil ?_
    refine ⟨.inl (by kernel_rfl), ?_⟩
    refine p_end (by kernel_rfl) ?_
    refine c_seq (c_region ?_)
    refine t_q (q_load_blk Try.isAgg119 Try.sizeOf119 rfl (hS.blk (by repeat constructor)) rfl) ?_
    refine t_store (v := (.agg _)) Try.sizeOf119 hS (by repeat constructor) rfl rfl rfl rfl rfl rfl (fun w hS => ?_)
    refine t_q (q_assign) ?_
    refine t_nil (c_ret ?_)
    refine r_two rfl (res1_cellN Try.isAgg119 Try.sizeOf119 rfl (hS.blk (by repeat constructor)) rfl) rfl ?_
    rw [hfl]
    exact ⟨rfl, hS.nil⟩
   ·
    intro hc7
    have hc7d := of_decide_eq_false hc7
    refine c_seq (c_region ?_)
    refine t_q (q_eql rfl rfl) ?_
    refine t_q (q_as (.bool _) rfl) ?_
    refine t_nil ?_
    refine c_cond rfl ?_ ?_
    ·
     intro hc9
     have hc9d := of_decide_eq_true hc9
     have hfl : fl x.kind = 3 := by rcases fl_some x.kind with ⟨h, h'⟩ | ⟨h, h'⟩ | ⟨h, h'⟩ | ⟨h, h'⟩ | ⟨h, h'⟩ | ⟨h, h'⟩ | ⟨h, h'⟩ | ⟨h, h'⟩ | ⟨h, h'⟩ <;> first | exact h' | (exfalso; omega)
     refine c_draw ?_
     refine d_keep (bmA g1 119 x) 8 [0, 1, 2, 3, 4, 5, 6, 7] [0, 1, 4, 5, 2, 3, 6, 7] hS rfl (by kernel_rfl) (by kernel_rfl) (by kernel_rfl) (by kernel_rfl) (fun hap hsel w hS => ?_)
     refine p_q hap hsel 0 rfl rfl ⟨_, hS.pick (by repeat constructor)⟩ (fun w hI => q_fieldAddr 7 Try.runUnderlying119 rfl Try.sizeOf4 (by decide) rfl rfl) ?_
     refine p_q hap hsel 1 rfl rfl ⟨_, hS.pick (by repeat constructor)⟩ (fun w hI => q_load1 Try.isAgg4 rfl (hI.choose_spec.cell (by repeat constructor) rfl)) ?_
     refine p_q hap hsel 2 rfl rfl ⟨_, hS.pick (by repeat constructor)⟩ (fun w hI => q_fieldAddr 4 Try.runUnderlying119 rfl Try.sizeOf43 (by decide) rfl rfl) ?_
     refine p_q hap hsel 3 rfl rfl ⟨_, hS.pick (by repeat constructor)⟩ (fun w hI => q_load1 Try.isAgg43 rfl (hI.choose_spec.cell (by repeat constructor) rfl)) ?_
     refine p_q hap hsel 4 rfl rfl ⟨_, hS.pick (by repeat constructor)⟩ (fun w hI => q_fieldAddr 7 Try.runUnderlying119 rfl Try.sizeOf4 (by decide) rfl rfl) ?_
     refine p_one 5 rfl (by kernel_rfl) ?_
     refine t_store (v := (.bool _)) Try.sizeOf4 hS (by repeat constructor) rfl rfl rfl rfl rfl rfl (fun w hS => ?_)
     replace hS := hS.recast (show blkA g4 119 _ = blkA g4 119 [.int .i64 x.kind, .int .i64 x.frm, .int .i64 x.to, .int .u64 x.term, .int .u64 0, .int .u64 0, .int .u64 0, .bool x.ok, .slice none 0 0, .slice none 0 0, .int .u64 0, .int .u64 0, .slice none 0 0] from rfl)
     refine t_nil ?_
     refine ⟨.inr ⟨_, hS.pick (by repeat constructor)⟩, ?_⟩
     refine p_q hap hsel 6 rfl rfl ⟨_, hS.pick (by repeat constructor)⟩ (fun w hI => q_fieldAddr 4 Try.runUnderlying119 rfl Try.sizeOf43 (by decide) rfl rfl) ?_
     refine p_one 7 rfl (by kernel_rfl) ?_
     refine t_store (v := (.int _ _)) Try.sizeOf43 hS (by repeat constructor) rfl rfl rfl rfl rfl rfl (fun w hS => ?_)
     replace hS := hS.recast (show blkA g4 119 _ = blkA g4 119 [.int .i64 x.kind, .int .i64 x.frm, .int .i64 x.to, .int .u64 x.term, .int .u64 x.index, .int .u64 0, .int .u64 0, .bool x.ok, .slice none 0 0, .slice none 0 0, .int .u64 0, .int .u64 0, .slice none 0 0] from rfl)
     refine t_nil ?_
     refine ⟨.inl (by kernel_rfl), ?_⟩
     refine p_end (by kernel_rfl) ?_
     refine c_seq (c_region ?_)
     refine t_q (q_load_blk Try.isAgg119 Try.sizeOf119 rfl (hS.blk (by repeat constructor)) rfl) ?_
     refine t_store (v := (.agg _)) Try.sizeOf119 hS (by repeat constructor) rfl rfl rfl rfl rfl rfl (fun w hS => ?_)
     refine t_q (q_assign) ?_
     refine t_nil (c_ret ?_)
     refine r_two rfl (res1_cellN Try.isAgg119 Try.sizeOf119 rfl (hS.blk (by repeat constructor)) rfl) rfl ?_
     rw [hfl]
     exact ⟨rfl, hS.nil⟩
    ·
     intro hc9
     have hc9d := of_decide_eq_false hc9
     refine c_seq (c_region ?_)
     refine t_q (q_eql rfl rfl) ?_
     refine t_q (q_as (.bool _) rfl) ?_
     refine t_nil ?_
     refine c_cond rfl ?_ ?_
     ·
      intro hc12
      have hc12d := of_decide_eq_true hc12
      have hfl : fl x.kind = 38 := by rcases fl_some x.kind with ⟨h, h'⟩ | ⟨h, h'⟩ | ⟨h, h'⟩ | ⟨h, h'⟩ | ⟨h, h'⟩ | ⟨h, h'⟩ | ⟨h, h'⟩ | ⟨h, h'⟩ | ⟨h, h'⟩ <;> first | exact h' | (exfalso; omega)
      refine c_draw ?_
      refine d_keep (bmA g1 119 x) 12 [0, 1, 2, 3, 4, 5, 6, 7, 8, 9, 10, 11] [0, 1, 6, 7, 2, 3, 8, 9, 4, 5, 10, 11] hS rfl (by kernel_rfl) (by kernel_rfl) (by kernel_rfl) (by kernel_rfl) (fun hap hsel w hS => ?_)
      refine p_q hap hsel 0 rfl rfl ⟨_, hS.pick (by repeat constructor)⟩ (fun w hI => q_fieldAddr 4 Try.runUnderlying119 rfl Try.sizeOf43 (by decide) rfl rfl) ?_
      refine p_q hap hsel 1 rfl rfl ⟨_, hS.pick (by repeat constructor)⟩ (fun w hI => q_load1 Try.isAgg43 rfl (hI.choose_spec.cell (by repeat constructor) rfl)) ?_
      refine p_q hap hsel 2 rfl rfl ⟨_, hS.pick (by repeat constructor)⟩ (fun w hI => q_fieldAddr 5 Try.runUnderlying119 rfl Try.sizeOf43 (by decide) rfl rfl) ?_
      refine p_q hap hsel 3 rfl rfl ⟨_, hS.pick (by repeat constructor)⟩ (fun w hI => q_load1 Try.isAgg43 rfl (hI.choose_spec.cell (by repeat constructor) rfl)) ?_
      refine p_q hap hsel 4 rfl rfl ⟨_, hS.pick (by repeat constructor)⟩ (fun w hI => q_fieldAddr 9 Try.runUnderlying119 rfl Try.sizeOf25 (by decide) rfl rfl) ?_
      refine p_q hap hsel 5 rfl rfl ⟨_, hS.pick (by repeat constructor)⟩ (fun w hI => q_load1 Try.isAgg25 rfl (hI.choose_spec.cell (by repeat constructor) rfl)) ?_
      refine p_q hap hsel 6 rfl rfl ⟨_, hS.pick (by repeat constructor)⟩ (fun w hI => q_fieldAddr 4 Try.runUnderlying119 rfl Try.sizeOf43 (by decide) rfl rfl) ?_
      refine p_one 7 rfl (by kernel_rfl) ?_
      refine t_store (v := (.int _ _)) Try.sizeOf43 hS (by repeat constructor) rfl rfl rfl rfl rfl rfl (fun w hS => ?_)
      replace hS := hS.recast (show blkA g4 119 _ = blkA g4 119 [.int .i64 x.kind, .int .i64 x.frm, .int .i64 x.to, .int .u64 x.term, .int .u64 x.index, .int .u64 0, .int .u64 0, .bool false, .slice none 0 0, .slice none 0 0, .int .u64 0, .int .u64 0, .slice none 0 0] from rfl)
      refine t_nil ?_
      refine ⟨.inr ⟨_, hS.pick (by repeat constructor)⟩, ?_⟩
      refine p_q hap hsel 8 rfl rfl ⟨_, hS.pick (by repeat constructor)⟩ (fun w hI => q_fieldAddr 5 Try.runUnderlying119 rfl Try.sizeOf43 (by decide) rfl rfl) ?_
      refine p_one 9 rfl (by kernel_rfl) ?_
      refine t_store (v := (.int _ _)) Try.sizeOf43 hS (by repeat constructor) rfl rfl rfl rfl rfl rfl (fun w hS => ?_)
      replace hS := hS.recast (show blkA g4 119 _ = blkA g4 119 [.int .i64 x.kind, .int .i64 x.frm, .int .i64 x.to, .int .u64 x.term, .int .u64 x.index, .int .u64 x.logTerm, .int .u64 0, .bool false, .slice none 0 0, .slice none 0 0, .int .u64 0, .int .u64 0, .slice none 0 0] from rfl)
      refine t_nil ?_
      refine ⟨.inr ⟨_, hS.pick (by repeat constructor)⟩, ?_⟩
      refine p_q hap hsel 10 rfl rfl ⟨_, hS.pick (by repeat constructor)⟩ (fun w hI => q_fieldAddr 9 Try.runUnderlying119 rfl Try.sizeOf25 (by decide) rfl rfl) ?_
      refine p_one 11 rfl (by kernel_rfl) ?_
      refine t_store (v := (.slice _ _ _)) Try.sizeOf25 hS (by repeat constructor) rfl rfl rfl rfl rfl rfl (fun w hS => ?_)
      replace hS := hS.recast (show blkA g4 119 _ = blkA g4 119 [.int .i64 x.kind, .int .i64 x.frm, .int .i64 x.to, .int .u64 x.term, .int .u64 x.index, .int .u64 x.logTerm, .int .u64 0, .bool false, .slice none 0 0, .slice x.body.A x.body.l.length x.body.c, .int .u64 0, .int .u64 0, .slice none 0 0] from rfl)
      refine t_nil ?_
      refine ⟨.inl (by kernel_rfl), ?_⟩
      refine p_end (by kernel_rfl) ?_
      refine c_seq (c_region ?_)
      refine t_q (q_load_blk Try.isAgg119 Try.sizeOf119 rfl (hS.blk (by repeat constructor)) rfl) ?_
      refine t_store (v := (.agg _)) Try.sizeOf119 hS (by repeat constructor) rfl rfl rfl rfl rfl rfl (fun w hS => ?_)
      refine t_q (q_assign) ?_
      refine t_nil (c_ret ?_)
      refine r_two rfl (res1_cellN Try.isAgg119 Try.sizeOf119 rfl (hS.blk (by repeat constructor)) rfl) rfl ?_
      rw [hfl]
      exact ⟨rfl, hS.nil⟩
     ·
      intro hc12
      have hc12d := of_decide_eq_false hc12
      refine c_seq (c_region ?_)
      refine t_q (q_eql rfl rfl) ?_
      refine t_q (q_as (.bool _) rfl) ?_
      refine t_nil ?_
      refine c_cond rfl ?_ ?_
      ·
       intro hc14
       have hc14d := of_decide_eq_true hc14
       have hfl : fl x.kind = 2 := by rcases fl_some x.kind with ⟨h, h'⟩ | ⟨h, h'⟩ | ⟨h, h'⟩ | ⟨h, h'⟩ | ⟨h, h'⟩ | ⟨h, h'⟩ | ⟨h, h'⟩ | ⟨h, h'⟩ | ⟨h, h'⟩ <;> first | exact h' | (exfalso; omega)
       refine c_region ?_
       refine t_q (q_fieldAddr 4 Try.runUnderlying119 rfl Try.sizeOf43 (by decide) rfl rfl) ?_
       refine t_q (q_load1 Try.isAgg43 rfl (hS.cell (by repeat constructor) rfl)) ?_
       refine t_q (q_fieldAddr 4 Try.runUnderlying119 rfl Try.sizeOf43 (by decide) rfl rfl) ?_
       refine t_store (v := (.int _ _)) Try.sizeOf43 hS (by repeat constructor) rfl rfl rfl rfl rfl rfl (fun w hS => ?_)
       replace hS := hS.recast (show blkA g4 119 _ = blkA g4 119 [.int .i64 x.kind, .int .i64 x.frm, .int .i64 x.to, .int .u64 x.term, .int .u64 x.index, .int .u64 0, .int .u64 0, .bool false, .slice none 0 0, .slice none 0 0, .int .u64 0, .int .u64 0, .slice none 0 0] from rfl)
       refine t_nil (c_seq (c_region ?_))
       refine t_q (q_load_blk Try.isAgg119 Try.sizeOf119 rfl (hS.blk (by repeat constructor)) rfl) ?_
       refine t_store (v := (.agg _)) Try.sizeOf119 hS (by repeat constructor) rfl rfl rfl rfl rfl rfl (fun w hS => ?_)
       refine t_q (q_assign) ?_
       refine t_nil (c_ret ?_)
       refine r_two rfl (res1_cellN Try.isAgg119 Try.sizeOf119 rfl (hS.blk (by repeat constructor)) rfl) rfl ?_
       rw [hfl]
       exact ⟨rfl, hS.nil⟩
      ·
       intro hc14
       have hc14d := of_decide_eq_false hc14
       refine c_seq (c_region ?_)
       refine t_q (q_eql rfl rfl) ?_
       refine t_q (q_as (.bool _) rfl) ?_
       refine t_nil ?_
       refine c_cond rfl ?_ ?_
       ·
        intro hc16
        have hc16d := of_decide_eq_true hc16
        have hfl : fl x.kind = 32 := by rcases fl_some x.kind with ⟨h, h'⟩ | ⟨h, h'⟩ | ⟨h, h'⟩ | ⟨h, h'⟩ | ⟨h, h'⟩ | ⟨h, h'⟩ | ⟨h, h'⟩ | ⟨h, h'⟩ | ⟨h, h'⟩ <;> first | exact h' | (exfalso; omega)
        refine c_region ?_
        refine t_q (q_fieldAddr 9 Try.runUnderlying119 rfl Try.sizeOf25 (by decide) rfl rfl) ?_
        refine t_q (q_load1 Try.isAgg25 rfl (hS.cell (by repeat constructor) rfl)) ?_
        refine t_q (q_fieldAddr 9 Try.runUnderlying119 rfl Try.sizeOf25 (by decide) rfl rfl) ?_
        refine t_store (v := (.slice _ _ _)) Try.sizeOf25 hS (by repeat constructor) rfl rfl rfl rfl rfl rfl (fun w hS => ?_)
        replace hS := hS.recast (show blkA g4 119 _ = blkA g4 119 [.int .i64 x.kind, .int .i64 x.frm, .int .i64 x.to, .int .u64 x.term, .int .u64 0, .int .u64 0, .int .u64 0, .bool false, .slice none 0 0, .slice x.body.A x.body.l.length x.body.c, .int .u64 0, .int .u64 0, .slice none 0 0] from rfl)
        refine t_nil (c_seq (c_region ?_))
        refine t_q (q_load_blk Try.isAgg119 Try.sizeOf119 rfl (hS.blk (by repeat constructor)) rfl) ?_
        refine t_store (v := (.agg _)) Try.sizeOf119 hS (by repeat constructor) rfl rfl rfl rfl rfl rfl (fun w hS => ?_)
        refine t_q (q_assign) ?_
        refine t_nil (c_ret ?_)
        refine r_two rfl (res1_cellN Try.isAgg119 Try.sizeOf119 rfl (hS.blk (by repeat constructor)) rfl) rfl ?_
        rw [hfl]
        exact ⟨rfl, hS.nil⟩
       ·
        intro hc16
        have hc16d := of_decide_eq_false hc16
        refine c_seq (c_region ?_)
        refine t_q (q_eql rfl rfl) ?_
        refine t_q (q_as (.bool _) rfl) ?_
        refine t_nil ?_
        refine c_cond rfl ?_ ?_
        ·
         intro hc18
         have hc18d := of_decide_eq_true hc18
         have hfl : fl x.kind = 64 := by rcases fl_some x.kind with ⟨h, h'⟩ | ⟨h, h'⟩ | ⟨h, h'⟩ | ⟨h, h'⟩ | ⟨h, h'⟩ | ⟨h, h'⟩ | ⟨h, h'⟩ | ⟨h, h'⟩ | ⟨h, h'⟩ <;> first | exact h' | (exfalso; omega)
         refine c_draw ?_
         refine d_keep (bmA g1 119 x) 12 [0, 1, 2, 3, 4, 5, 6, 7, 8, 9, 10, 11] [0, 1, 6, 7, 2, 3, 8, 9, 4, 5, 10, 11] hS rfl (by kernel_rfl) (by kernel_rfl) (by kernel_rfl) (by kernel_rfl) (fun hap hsel w hS => ?_)
         refine p_q hap hsel 0 rfl rfl ⟨_, hS.pick (by repeat constructor)⟩ (fun w hI => q_fieldAddr 10 Try.runUnderlying119 rfl Try.sizeOf43 (by decide) rfl rfl) ?_
         refine p_q hap hsel 1 rfl rfl ⟨_, hS.pick (by repeat constructor)⟩ (fun w hI => q_load1 Try.isAgg43 rfl (hI.choose_spec.cell (by repeat constructor) rfl)) ?_
         refine p_q hap hsel 2 rfl rfl ⟨_, hS.pick (by repeat constructor)⟩ (fun w hI => q_fieldAddr 11 Try.runUnderlying119 rfl Try.sizeOf43 (by decide) rfl rfl) ?_
         refine p_q hap hsel 3 rfl rfl ⟨_, hS.pick (by repeat constructor)⟩ (fun w hI => q_load1 Try.isAgg43 rfl (hI.choose_spec.cell (by repeat constructor) rfl)) ?_
         refine p_q hap hsel 4 rfl rfl ⟨_, hS.pick (by repeat constructor)⟩ (fun w hI => q_fieldAddr 12 Try.runUnderlying119 rfl Try.sizeOf112 (by decide) rfl rfl) ?_
         refine p_q hap hsel 5 rfl rfl ⟨_, hS.pick (by repeat constructor)⟩ (fun w hI => q_load1 Try.isAgg112 rfl (hI.choose_spec.cell (by repeat constructor) rfl)) ?_
         refine p_q hap hsel 6 rfl rfl ⟨_, hS.pick (by repeat constructor)⟩ (fun w hI => q_fieldAddr 10 Try.runUnderlying119 rfl Try.sizeOf43 (by decide) rfl rfl) ?_
         refine p_one 7 rfl (by kernel_rfl) ?_
         refine t_store (v := (.int _ _)) Try.sizeOf43 hS (by repeat constructor) rfl rfl rfl rfl rfl rfl (fun w hS => ?_)
         replace hS := hS.recast (show blkA g4 119 _ = blkA g4 119 [.int .i64 x.kind, .int .i64 x.frm, .int .i64 x.to, .int .u64 x.term, .int .u64 0, .int .u64 0, .int .u64 0, .bool false, .slice none 0 0, .slice none 0 0, .int .u64 x.client, .int .u64 0, .slice none 0 0] from rfl)
         refine t_nil ?_
         refine ⟨.inr ⟨_, hS.pick (by repeat constructor)⟩, ?_⟩
         refine p_q hap hsel 8 rfl rfl ⟨_, hS.pick (by repeat constructor)⟩ (fun w hI => q_fieldAddr 11 Try.runUnderlying119 rfl Try.sizeOf43 (by decide) rfl rfl) ?_
         refine p_one 9 rfl (by kernel_rfl) ?_
         refine t_store (v := (.int _ _)) Try.sizeOf43 hS (by repeat constructor) rfl rfl rfl rfl rfl rfl (fun w hS => ?_)
         replace hS := hS.recast (show blkA g4 119 _ = blkA g4 119 [.int .i64 x.kind, .int .i64 x.frm, .int .i64 x.to, .int .u64 x.term, .int .u64 0, .int .u64 0, .int .u64 0, .bool false, .slice none 0 0, .slice none 0 0, .int .u64 x.client, .int .u64 x.req, .slice none 0 0] from rfl)
         refine t_nil ?_
         refine ⟨.inr ⟨_, hS.pick (by repeat constructor)⟩, ?_⟩
         refine p_q hap hsel 10 rfl rfl ⟨_, hS.pick (by repeat constructor)⟩ (fun w hI => q_fieldAddr 12 Try.runUnderlying119 rfl Try.sizeOf112 (by decide) rfl rfl) ?_
         refine p_one 11 rfl (by kernel_rfl) ?_
         refine t_store (v := (.slice _ _ _)) Try.sizeOf112 hS (by repeat constructor) rfl rfl rfl rfl rfl rfl (fun w hS => ?_)
         replace hS := hS.recast (show blkA g4 119 _ = blkA g4 119 [.int .i64 x.kind, .int .i64 x.frm, .int .i64 x.to, .int .u64 x.term, .int .u64 0, .int .u64 0, .int .u64 0, .bool false, .slice none 0 0, .slice none 0 0, .int .u64 x.client, .int .u64 x.req, .slice x.events.A x.events.l.length x.events.c] from rfl)
         refine t_nil ?_
         refine ⟨.inl (by kernel_rfl), ?_⟩
         refine p_end (by kernel_rfl) ?_
         refine c_seq (c_region ?_)
         refine t_q (q_load_blk Try.isAgg119 Try.sizeOf119 rfl (hS.blk (by repeat constructor)) rfl) ?_
         refine t_store (v := (.agg _)) Try.sizeOf119 hS (by repeat constructor) rfl rfl rfl rfl rfl rfl (fun w hS => ?_)
         refine t_q (q_assign) ?_
         refine t_nil (c_ret ?_)
         refine r_two rfl (res1_cellN Try.isAgg119 Try.sizeOf119 rfl (hS.blk (by repeat constructor)) rfl) rfl ?_
         rw [hfl]
         exact ⟨rfl, hS.nil⟩
        ·
         intro hc18
         have hc18d := of_decide_eq_false hc18
         have hfl : fl x.kind = 0 := by rcases fl_some x.kind with ⟨h, h'⟩ | ⟨h, h'⟩ | ⟨h, h'⟩ | ⟨h, h'⟩ | ⟨h, h'⟩ | ⟨h, h'⟩ | ⟨h, h'⟩ | ⟨h, h'⟩ | ⟨h, h'⟩ <;> first | exact h' | (exfalso; omega)
         refine c_seq (c_region ?_)
         refine t_q (q_load_blk Try.isAgg119 Try.sizeOf119 rfl (hS.blk (by repeat constructor)) rfl) ?_
         refine t_store (v := (.agg _)) Try.sizeOf119 hS (by repeat constructor) rfl rfl rfl rfl rfl rfl (fun w hS => ?_)
         refine t_q (q_assign) ?_
         refine t_nil (c_ret ?_)
         refine r_two rfl (res1_cellN Try.isAgg119 Try.sizeOf119 rfl (hS.blk (by repeat constructor)) rfl) rfl ?_
         rw [hfl]
         exact ⟨rfl, hS.nil⟩
theorem sound_no {x : MsgV} (h : ¬ (fl x.kind ≠ 0 ∧ (keepV (fl x.kind) x).vw = x.vw ∧ (0 ≤ x.frm ∧ x.frm < 16) ∧ (0 ≤ x.to ∧ x.to < 16) ∧ x.term ≤ 4611686018427387904 ∧ x.index ≤ 4611686018427387904 ∧ x.logTerm ≤ 4611686018427387904 ∧ x.commit ≤ 4611686018427387904 ∧ x.entries.l.length ≤ 32 ∧ x.body.l.length ≤ 524288 ∧ (x.kind = 7 → x.body.l.length ≤ 512) ∧ x.client ≤ 8)) : soundB x = false := by
  cases hb : soundB x with
  | false => rfl
  | true =>
    exfalso
    apply h
    unfold soundB nodeB fitB at hb
    simp only [Bool.and_eq_true, decide_eq_true_eq] at hb
    obtain ⟨h1, h2, h3, h4, q1, q2, q3, q4, q5, q6, q7, q8, q9, q10⟩ := hb
    exact ⟨h1, h4, h2, h3, q1, q2, q3, q4, q6, q7, q8, q5⟩
theorem sound_ent {x : MsgV} (h : x.entries.l.all entFine = false) : soundB x = false := by
  unfold soundB fitB
  simp [h]
theorem sound_ev {x : MsgV} (hx : fl x.kind ≠ 0 ∧ (keepV (fl x.kind) x).vw = x.vw ∧ (0 ≤ x.frm ∧ x.frm < 16) ∧ (0 ≤ x.to ∧ x.to < 16) ∧ x.term ≤ 4611686018427387904 ∧ x.index ≤ 4611686018427387904 ∧ x.logTerm ≤ 4611686018427387904 ∧ x.commit ≤ 4611686018427387904 ∧ x.entries.l.length ≤ 32 ∧ x.body.l.length ≤ 524288 ∧ (x.kind = 7 → x.body.l.length ≤ 512) ∧ x.client ≤ 8) (h : x.entries.l.all entFine = true) : soundB x = decide (evE x.events.l = 0) := by
  obtain ⟨h1, h4, h2, h3, q1, q2, q3, q4, q6, q7, q8, q5⟩ := hx
  unfold soundB nodeB fitB
  rw [decide_eq_true h1, decide_eq_true h2, decide_eq_true h3, decide_eq_true h4, Bool.true_and, Bool.true_and, Bool.true_and, Bool.true_and, decide_eq_decide]
  exact ⟨fun hh => hh.2.2.2.2.2.2.2.2.1, fun hh => ⟨q1, q2, q3, q4, q5, q6, q7, q8, hh, h⟩⟩
set_option maxHeartbeats 8000000 in
set_option maxRecDepth 100000 in
theorem qwsound_calls {x : MsgV} (hx : x.Gd W) : Calls Try.prog 60 #[.agg x.cells.toArray] W fun e w' => e = .returned (.bool (soundB x)) ∧ St W w' [] := by
 have hS := St.init W
 have hele := hx.ele
 obtain ⟨kv, hkv⟩ : ∃ y, y = keepV (fl x.kind) x := ⟨_, rfl⟩
 have hkg : kv.Gd W := by rw [hkv]; exact hx.keep _
 refine calls_of_wpE (args := [_]) Try.func60 rfl rfl rfl ?_
 refine c_seq (c_region ?_)
 refine t_box (v := (.agg _)) rfl rfl hS (fun g1 w hS => ?_)
 replace hS := hS.recast (show _ = bmA g1 119 x from rfl)
 refine t_q (q_assign) ?_
 refine t_nil (c_seq (c_region ?_))
 refine t_q (q_cast (v' := .agg x.cells.toArray) (q_load_blk Try.isAgg119 Try.sizeOf119 rfl (hS.blk (by repeat constructor)) rfl) (by rfl)) ?_
 refine t_call Try.call106 (kept_calls (x := x)) rfl ?_
 rintro e w ⟨rfl, hT⟩
 refine ⟨_, rfl, ?_⟩
 replace hS := hS.after hT
 rw [← hkv]
 refine t_q (q_mv (.tuple _) rfl) ?_
 refine t_q (q_extract rfl rfl) ?_
 refine t_q (q_extract rfl rfl) ?_
 refine t_alloc Try.zeroValue119 rfl hS (fun g3 w hS => ?_)
 refine t_store (v := (.agg _)) Try.sizeOf119 hS (by repeat constructor) rfl rfl rfl rfl rfl rfl (fun w hS => ?_)
 replace hS := hS.recast (show blkA g3 119 _ = bmA g3 119 kv from rfl)
 refine t_q (q_as (.bool _) rfl) ?_
 refine t_nil (c_seq ?_)
 refine c_cut [14, 15, 16, 17, 18, 19, 20, 21, 22, 23, 24, 25, 26, 27, 28, 29, 30, 31, 32, 33, 34, 35, 36, 37, 38, 39, 40, 41, 42, 43, 44, 45, 46, 47, 48, 49, 50, 51, 52, 53, 54, 55, 56, 57, 58, 59, 60, 61, 62, 63, 64, 65, 66, 67, 68, 69, 70, 71, 72, 73, 74, 75, 76, 77, 78, 79, 80, 81, 82, 83, 84, 85, 86, 87, 88, 89] (fun σ w => ∃ b : Bool, σ 89 = .bool b ∧ (b = false → (fl x.kind ≠ 0 ∧ (keepV (fl x.kind) x).vw = x.vw ∧ (0 ≤ x.frm ∧ x.frm < 16) ∧ (0 ≤ x.to ∧ x.to < 16) ∧ x.term ≤ 4611686018427387904 ∧ x.index ≤ 4611686018427387904 ∧ x.logTerm ≤ 4611686018427387904 ∧ x.commit ≤ 4611686018427387904 ∧ x.entries.l.length ≤ 32 ∧ x.body.l.length ≤ 524288 ∧ (x.kind = 7 → x.body.l.length ≤ 512) ∧ x.client ≤ 8)) ∧ (b = true → soundB x = false) ∧ St W w [bmA g1 119 x, bmA g3 119 kv]) rfl ?_ ?_
 ·
  refine c_region ?_
  refine t_q (q_mv (.bool _) rfl) ?_
  refine t_q (q_not rfl) ?_
  refine t_q (q_mv (.bool _) rfl) ?_
  refine t_case 16 rfl ?_ ?_
  ·
   intro hg4
   refine t_no rfl rfl (by rw [(congrArg not (not_back hg4))]; decide) ?_
   refine t_no rfl rfl (by rw [(congrArg not (not_back hg4))]; decide) ?_
   refine t_no rfl rfl (by rw [(congrArg not (not_back hg4))]; decide) ?_
   refine t_no rfl rfl (by rw [(congrArg not (not_back hg4))]; decide) ?_
   refine t_q (q_pick_t rfl (congrArg not (not_back hg4))) ?_
   refine t_q (q_mv (.bool _) rfl) ?_
   refine t_no rfl rfl (by decide) ?_
   refine t_no rfl rfl (by decide) ?_
   refine t_no rfl rfl (by decide) ?_
   refine t_q (q_pick_t rfl rfl) ?_
   refine t_q (q_mv (.bool _) rfl) ?_
   refine t_no rfl rfl (by decide) ?_
   refine t_no rfl rfl (by decide) ?_
   refine t_no rfl rfl (by decide) ?_
   refine t_q (q_pick_t rfl rfl) ?_
   refine t_q (q_mv (.bool _) rfl) ?_
   refine t_no rfl rfl (by decide) ?_
   refine t_no rfl rfl (by decide) ?_
   refine t_no rfl rfl (by decide) ?_
   refine t_q (q_pick_t rfl rfl) ?_
   refine t_q (q_mv (.bool _) rfl) ?_
   refine t_no rfl rfl (by decide) ?_
   refine t_no rfl rfl (by decide) ?_
   refine t_no rfl rfl (by decide) ?_
   refine t_q (q_pick_t rfl rfl) ?_
   refine t_q (q_mv (.bool _) rfl) ?_
   refine t_no rfl rfl (by decide) ?_
   refine t_no rfl rfl (by decide) ?_
   refine t_no rfl rfl (by decide) ?_
   refine t_q (q_pick_t rfl rfl) ?_
   refine t_q (q_mv (.bool _) rfl) ?_
   refine t_no rfl rfl (by decide) ?_
   refine t_no rfl rfl (by decide) ?_
   refine t_no rfl rfl (by decide) ?_
   refine t_q (q_pick_t rfl rfl) ?_
   refine t_q (q_mv (.bool _) rfl) ?_
   refine t_no rfl rfl (by decide) ?_
   refine t_no rfl rfl (by decide) ?_
   refine t_no rfl rfl (by decide) ?_
   refine t_q (q_pick_t rfl rfl) ?_
   refine t_q (q_mv (.bool _) rfl) ?_
   refine t_no rfl rfl (by decide) ?_
   refine t_no rfl rfl (by decide) ?_
   refine t_no rfl rfl (by decide) ?_
   refine t_q (q_pick_t rfl rfl) ?_
   refine t_q (q_mv (.bool _) rfl) ?_
   refine t_no rfl rfl (by decide) ?_
   refine t_no rfl rfl (by decide) ?_
   refine t_no rfl rfl (by decide) ?_
   refine t_no rfl rfl (by decide) ?_
   refine t_q (q_pick_t rfl rfl) ?_
   refine t_q (q_mv (.bool _) rfl) ?_
   refine t_no rfl rfl (by decide) ?_
   refine t_no rfl rfl (by decide) ?_
   refine t_no rfl rfl (by decide) ?_
   refine t_no rfl rfl (by decide) ?_
   refine t_q (q_pick_t rfl rfl) ?_
   refine t_q (q_mv (.bool _) rfl) ?_
   refine t_no rfl rfl (by decide) ?_
   refine t_no rfl rfl (by decide) ?_
   refine t_no rfl rfl (by decide) ?_
   refine t_no rfl rfl (by decide) ?_
   refine t_nu rfl rfl ?_
   refine t_nu rfl rfl ?_
   refine t_nu rfl rfl ?_
   refine t_nu rfl rfl ?_
   refine t_no rfl rfl (by decide) ?_
   refine t_q (q_pick_t rfl rfl) ?_
   refine t_q (q_mv (.bool _) rfl) ?_
   refine t_no rfl rfl (by decide) ?_
   refine t_no rfl rfl (by decide) ?_
   refine t_no rfl rfl (by decide) ?_
   refine t_q (q_pick_t rfl rfl) ?_
   refine t_nil ?_
   first
     | exact ⟨true, rfl, (fun h => by cases h), (fun _ => sound_no (fun hh => by
         obtain ⟨h1, h4, h2, h3, q1, q2, q3, q4, q6, q7, q8, q5⟩ := hh
         rw [← hkv] at h4
         first
           | exact of_decide_eq_false (bnt (by assumption)) h1
           | exact of_decide_eq_false (bnt (by assumption)) h4
           | omega
           | (have q9 := q8 (by omega); omega))), (((hS.pick (A := bmA g3 119 kv) (by repeat constructor)).pick (A := bmA g1 119 x) (by repeat constructor))).front2⟩
     | exact ⟨decide (8 < x.client), rfl, (fun h => by
         have h := of_decide_eq_false h
         refine ⟨?_, ?_, by omega, by omega, by omega, by omega, by omega, by omega, by omega, by omega, fun hk => by omega, by omega⟩
         · exact of_decide_eq_true (bnf (by assumption))
         · rw [← hkv]; exact of_decide_eq_true (bnf (by assumption))), (fun h => sound_no (fun hh => by
         have h := of_decide_eq_true h
         obtain ⟨h1, h4, h2, h3, q1, q2, q3, q4, q6, q7, q8, q5⟩ := hh
         omega)), (((hS.pick (A := bmA g3 119 kv) (by repeat constructor)).pick (A := bmA g1 119 x) (by repeat constructor))).front2⟩
  ·
   intro hg4
   refine t_yes rfl rfl (congrArg not (not_back hg4)) ?_
   refine t_q (q_cast (v' := .agg kv.cells.toArray) (q_load_blk Try.isAgg119 Try.sizeOf119 rfl (hS.blk (by repeat constructor)) rfl) (by rfl)) ?_
   refine t_yes rfl rfl (congrArg not (not_back hg4)) ?_
   refine t_q (q_cast (v' := .agg x.cells.toArray) (q_load_blk Try.isAgg119 Try.sizeOf119 rfl (hS.blk (by repeat constructor)) rfl) (by rfl)) ?_
   refine t_yes rfl rfl (congrArg not (not_back hg4)) ?_
   refine t_call Try.call63 (qwsame_calls (x := kv) (y := x) (hkg.st hS) (hx.st hS)) rfl ?_
   rintro e w ⟨rfl, hT⟩
   refine ⟨_, rfl, ?_⟩
   replace hS := hS.after hT
   refine t_yes rfl rfl (congrArg not (not_back hg4)) ?_
   refine t_q (q_not rfl) ?_
   refine t_q (q_pick_f rfl (congrArg not (not_back hg4))) ?_
   refine t_q (q_mv (.bool _) rfl) ?_
   refine t_case 22 rfl ?_ ?_
   ·
    intro hg6
    refine t_no rfl rfl (by rw [(congrArg not (not_back hg6))]; decide) ?_
    refine t_no rfl rfl (by rw [(congrArg not (not_back hg6))]; decide) ?_
    refine t_no rfl rfl (by rw [(congrArg not (not_back hg6))]; decide) ?_
    refine t_q (q_pick_t rfl (congrArg not (not_back hg6))) ?_
    refine t_q (q_mv (.bool _) rfl) ?_
    refine t_no rfl rfl (by decide) ?_
    refine t_no rfl rfl (by decide) ?_
    refine t_no rfl rfl (by decide) ?_
    refine t_q (q_pick_t rfl rfl) ?_
    refine t_q (q_mv (.bool _) rfl) ?_
    refine t_no rfl rfl (by decide) ?_
    refine t_no rfl rfl (by decide) ?_
    refine t_no rfl rfl (by decide) ?_
    refine t_q (q_pick_t rfl rfl) ?_
    refine t_q (q_mv (.bool _) rfl) ?_
    refine t_no rfl rfl (by decide) ?_
    refine t_no rfl rfl (by decide) ?_
    refine t_no rfl rfl (by decide) ?_
    refine t_q (q_pick_t rfl rfl) ?_
    refine t_q (q_mv (.bool _) rfl) ?_
    refine t_no rfl rfl (by decide) ?_
    refine t_no rfl rfl (by decide) ?_
    refine t_no rfl rfl (by decide) ?_
    refine t_q (q_pick_t rfl rfl) ?_
    refine t_q (q_mv (.bool _) rfl) ?_
    refine t_no rfl rfl (by decide) ?_
    refine t_no rfl rfl (by decide) ?_
    refine t_no rfl rfl (by decide) ?_
    refine t_q (q_pick_t rfl rfl) ?_
    refine t_q (q_mv (.bool _) rfl) ?_
    refine t_no rfl rfl (by decide) ?_
    refine t_no rfl rfl (by decide) ?_
    refine t_no rfl rfl (by decide) ?_
    refine t_q (q_pick_t rfl rfl) ?_
    refine t_q (q_mv (.bool _) rfl) ?_
    refine t_no rfl rfl (by decide) ?_
    refine t_no rfl rfl (by decide) ?_
    refine t_no rfl rfl (by decide) ?_
    refine t_q (q_pick_t rfl rfl) ?_
    refine t_q (q_mv (.bool _) rfl) ?_
    refine t_no rfl rfl (by decide) ?_
    refine t_no rfl rfl (by decide) ?_
    refine t_no rfl rfl (by decide) ?_
    refine t_no rfl rfl (by decide) ?_
    refine t_q (q_pick_t rfl rfl) ?_
    refine t_q (q_mv (.bool _) rfl) ?_
    refine t_no rfl rfl (by decide) ?_
    refine t_no rfl rfl (by decide) ?_
    refine t_no rfl rfl (by decide) ?_
    refine t_no rfl rfl (by decide) ?_
    refine t_q (q_pick_t rfl rfl) ?_
    refine t_q (q_mv (.bool _) rfl) ?_
    refine t_no rfl rfl (by decide) ?_
    refine t_no rfl rfl (by decide) ?_
    refine t_no rfl rfl (by decide) ?_
    refine t_no rfl rfl (by decide) ?_
    refine t_nu rfl rfl ?_
    refine t_nu rfl rfl ?_
    refine t_nu rfl rfl ?_
    refine t_nu rfl rfl ?_
    refine t_no rfl rfl (by decide) ?_
    refine t_q (q_pick_t rfl rfl) ?_
    refine t_q (q_mv (.bool _) rfl) ?_
    refine t_no rfl rfl (by decide) ?_
    refine t_no rfl rfl (by decide) ?_
    refine t_no rfl rfl (by decide) ?_
    refine t_q (q_pick_t rfl rfl) ?_
    refine t_nil ?_
    first
      | exact ⟨true, rfl, (fun h => by cases h), (fun _ => sound_no (fun hh => by
          obtain ⟨h1, h4, h2, h3, q1, q2, q3, q4, q6, q7, q8, q5⟩ := hh
          rw [← hkv] at h4
          first
            | exact of_decide_eq_false (bnt (by assumption)) h1
            | exact of_decide_eq_false (bnt (by assumption)) h4
            | omega
            | (have q9 := q8 (by omega); omega))), (((hS.pick (A := bmA g3 119 kv) (by repeat constructor)).pick (A := bmA g1 119 x) (by repeat constructor))).front2⟩
      | exact ⟨decide (8 < x.client), rfl, (fun h => by
          have h := of_decide_eq_false h
          refine ⟨?_, ?_, by omega, by omega, by omega, by omega, by omega, by omega, by omega, by omega, fun hk => by omega, by omega⟩
          · exact of_decide_eq_true (bnf (by assumption))
          · rw [← hkv]; exact of_decide_eq_true (bnf (by assumption))), (fun h => sound_no (fun hh => by
          have h := of_decide_eq_true h
          obtain ⟨h1, h4, h2, h3, q1, q2, q3, q4, q6, q7, q8, q5⟩ := hh
          omega)), (((hS.pick (A := bmA g3 119 kv) (by repeat constructor)).pick (A := bmA g1 119 x) (by repeat constructor))).front2⟩
   ·
    intro hg6
    refine t_yes rfl rfl (congrArg not (not_back hg6)) ?_
    refine t_q (q_fieldAddr 1 Try.runUnderlying119 rfl Try.sizeOf3 (by decide) rfl rfl) ?_
    refine t_yes rfl rfl (congrArg not (not_back hg6)) ?_
    refine t_q (q_load1 Try.isAgg3 rfl (hS.cell (by repeat constructor) rfl)) ?_
    refine t_yes rfl rfl (congrArg not (not_back hg6)) ?_
    refine t_q (q_lss rfl rfl) ?_
    refine t_q (q_pick_f rfl (congrArg not (not_back hg6))) ?_
    refine t_q (q_mv (.bool _) rfl) ?_
    refine t_case 27 rfl ?_ ?_
    ·
     intro hg8
     have hg8d := of_decide_eq_true hg8
     refine t_no rfl rfl (by rw [hg8]; decide) ?_
     refine t_no rfl rfl (by rw [hg8]; decide) ?_
     refine t_no rfl rfl (by rw [hg8]; decide) ?_
     refine t_q (q_pick_t rfl hg8) ?_
     refine t_q (q_mv (.bool _) rfl) ?_
     refine t_no rfl rfl (by decide) ?_
     refine t_no rfl rfl (by decide) ?_
     refine t_no rfl rfl (by decide) ?_
     refine t_q (q_pick_t rfl rfl) ?_
     refine t_q (q_mv (.bool _) rfl) ?_
     refine t_no rfl rfl (by decide) ?_
     refine t_no rfl rfl (by decide) ?_
     refine t_no rfl rfl (by decide) ?_
     refine t_q (q_pick_t rfl rfl) ?_
     refine t_q (q_mv (.bool _) rfl) ?_
     refine t_no rfl rfl (by decide) ?_
     refine t_no rfl rfl (by decide) ?_
     refine t_no rfl rfl (by decide) ?_
     refine t_q (q_pick_t rfl rfl) ?_
     refine t_q (q_mv (.bool _) rfl) ?_
     refine t_no rfl rfl (by decide) ?_
     refine t_no rfl rfl (by decide) ?_
     refine t_no rfl rfl (by decide) ?_
     refine t_q (q_pick_t rfl rfl) ?_
     refine t_q (q_mv (.bool _) rfl) ?_
     refine t_no rfl rfl (by decide) ?_
     refine t_no rfl rfl (by decide) ?_
     refine t_no rfl rfl (by decide) ?_
     refine t_q (q_pick_t rfl rfl) ?_
     refine t_q (q_mv (.bool _) rfl) ?_
     refine t_no rfl rfl (by decide) ?_
     refine t_no rfl rfl (by decide) ?_
     refine t_no rfl rfl (by decide) ?_
     refine t_q (q_pick_t rfl rfl) ?_
     refine t_q (q_mv (.bool _) rfl) ?_
     refine t_no rfl rfl (by decide) ?_
     refine t_no rfl rfl (by decide) ?_
     refine t_no rfl rfl (by decide) ?_
     refine t_no rfl rfl (by decide) ?_
     refine t_q (q_pick_t rfl rfl) ?_
     refine t_q (q_mv (.bool _) rfl) ?_
     refine t_no rfl rfl (by decide) ?_
     refine t_no rfl rfl (by decide) ?_
     refine t_no rfl rfl (by decide) ?_
     refine t_no rfl rfl (by decide) ?_
     refine t_q (q_pick_t rfl rfl) ?_
     refine t_q (q_mv (.bool _) rfl) ?_
     refine t_no rfl rfl (by decide) ?_
     refine t_no rfl rfl (by decide) ?_
     refine t_no rfl rfl (by decide) ?_
     refine t_no rfl rfl (by decide) ?_
     refine t_nu rfl rfl ?_
     refine t_nu rfl rfl ?_
     refine t_nu rfl rfl ?_
     refine t_nu rfl rfl ?_
     refine t_no rfl rfl (by decide) ?_
     refine t_q (q_pick_t rfl rfl) ?_
     refine t_q (q_mv (.bool _) rfl) ?_
     refine t_no rfl rfl (by decide) ?_
     refine t_no rfl rfl (by decide) ?_
     refine t_no rfl rfl (by decide) ?_
     refine t_q (q_pick_t rfl rfl) ?_
     refine t_nil ?_
     first
       | exact ⟨true, rfl, (fun h => by cases h), (fun _ => sound_no (fun hh => by
           obtain ⟨h1, h4, h2, h3, q1, q2, q3, q4, q6, q7, q8, q5⟩ := hh
           rw [← hkv] at h4
           first
             | exact of_decide_eq_false (bnt (by assumption)) h1
             | exact of_decide_eq_false (bnt (by assumption)) h4
             | omega
             | (have q9 := q8 (by omega); omega))), (((hS.pick (A := bmA g3 119 kv) (by repeat constructor)).pick (A := bmA g1 119 x) (by repeat constructor))).front2⟩
       | exact ⟨decide (8 < x.client), rfl, (fun h => by
           have h := of_decide_eq_false h
           refine ⟨?_, ?_, by omega, by omega, by omega, by omega, by omega, by omega, by omega, by omega, fun hk => by omega, by omega⟩
           · exact of_decide_eq_true (bnf (by assumption))
           · rw [← hkv]; exact of_decide_eq_true (bnf (by assumption))), (fun h => sound_no (fun hh => by
           have h := of_decide_eq_true h
           obtain ⟨h1, h4, h2, h3, q1, q2, q3, q4, q6, q7, q8, q5⟩ := hh
           omega)), (((hS.pick (A := bmA g3 119 kv) (by repeat constructor)).pick (A := bmA g1 119 x) (by repeat constructor))).front2⟩
    ·
     intro hg8
     have hg8d := of_decide_eq_false hg8
     refine t_yes rfl rfl hg8 ?_
     refine t_q (q_fieldAddr 1 Try.runUnderlying119 rfl Try.sizeOf3 (by decide) rfl rfl) ?_
     refine t_yes rfl rfl hg8 ?_
     refine t_q (q_load1 Try.isAgg3 rfl (hS.cell (by repeat constructor) rfl)) ?_
     refine t_yes rfl rfl hg8 ?_
     refine t_q (q_geq rfl rfl) ?_
     refine t_q (q_pick_f rfl hg8) ?_
     refine t_q (q_mv (.bool _) rfl) ?_
     refine t_case 32 rfl ?_ ?_
     ·
      intro hg10
      have hg10d := of_decide_eq_true hg10
      refine t_no rfl rfl (by rw [hg10]; decide) ?_
      refine t_no rfl rfl (by rw [hg10]; decide) ?_
      refine t_no rfl rfl (by rw [hg10]; decide) ?_
      refine t_q (q_pick_t rfl hg10) ?_
      refine t_q (q_mv (.bool _) rfl) ?_
      refine t_no rfl rfl (by decide) ?_
      refine t_no rfl rfl (by decide) ?_
      refine t_no rfl rfl (by decide) ?_
      refine t_q (q_pick_t rfl rfl) ?_
      refine t_q (q_mv (.bool _) rfl) ?_
      refine t_no rfl rfl (by decide) ?_
      refine t_no rfl rfl (by decide) ?_
      refine t_no rfl rfl (by decide) ?_
      refine t_q (q_pick_t rfl rfl) ?_
      refine t_q (q_mv (.bool _) rfl) ?_
      refine t_no rfl rfl (by decide) ?_
      refine t_no rfl rfl (by decide) ?_
      refine t_no rfl rfl (by decide) ?_
      refine t_q (q_pick_t rfl rfl) ?_
      refine t_q (q_mv (.bool _) rfl) ?_
      refine t_no rfl rfl (by decide) ?_
      refine t_no rfl rfl (by decide) ?_
      refine t_no rfl rfl (by decide) ?_
      refine t_q (q_pick_t rfl rfl) ?_
      refine t_q (q_mv (.bool _) rfl) ?_
      refine t_no rfl rfl (by decide) ?_
      refine t_no rfl rfl (by decide) ?_
      refine t_no rfl rfl (by decide) ?_
      refine t_q (q_pick_t rfl rfl) ?_
      refine t_q (q_mv (.bool _) rfl) ?_
      refine t_no rfl rfl (by decide) ?_
      refine t_no rfl rfl (by decide) ?_
      refine t_no rfl rfl (by decide) ?_
      refine t_no rfl rfl (by decide) ?_
      refine t_q (q_pick_t rfl rfl) ?_
      refine t_q (q_mv (.bool _) rfl) ?_
      refine t_no rfl rfl (by decide) ?_
      refine t_no rfl rfl (by decide) ?_
      refine t_no rfl rfl (by decide) ?_
      refine t_no rfl rfl (by decide) ?_
      refine t_q (q_pick_t rfl rfl) ?_
      refine t_q (q_mv (.bool _) rfl) ?_
      refine t_no rfl rfl (by decide) ?_
      refine t_no rfl rfl (by decide) ?_
      refine t_no rfl rfl (by decide) ?_
      refine t_no rfl rfl (by decide) ?_
      refine t_nu rfl rfl ?_
      refine t_nu rfl rfl ?_
      refine t_nu rfl rfl ?_
      refine t_nu rfl rfl ?_
      refine t_no rfl rfl (by decide) ?_
      refine t_q (q_pick_t rfl rfl) ?_
      refine t_q (q_mv (.bool _) rfl) ?_
      refine t_no rfl rfl (by decide) ?_
      refine t_no rfl rfl (by decide) ?_
      refine t_no rfl rfl (by decide) ?_
      refine t_q (q_pick_t rfl rfl) ?_
      refine t_nil ?_
      first
        | exact ⟨true, rfl, (fun h => by cases h), (fun _ => sound_no (fun hh => by
            obtain ⟨h1, h4, h2, h3, q1, q2, q3, q4, q6, q7, q8, q5⟩ := hh
            rw [← hkv] at h4
            first
              | exact of_decide_eq_false (bnt (by assumption)) h1
              | exact of_decide_eq_false (bnt (by assumption)) h4
              | omega
              | (have q9 := q8 (by omega); omega))), (((hS.pick (A := bmA g3 119 kv) (by repeat constructor)).pick (A := bmA g1 119 x) (by repeat constructor))).front2⟩
        | exact ⟨decide (8 < x.client), rfl, (fun h => by
            have h := of_decide_eq_false h
            refine ⟨?_, ?_, by omega, by omega, by omega, by omega, by omega, by omega, by omega, by omega, fun hk => by omega, by omega⟩
            · exact of_decide_eq_true (bnf (by assumption))
            · rw [← hkv]; exact of_decide_eq_true (bnf (by assumption))), (fun h => sound_no (fun hh => by
            have h := of_decide_eq_true h
            obtain ⟨h1, h4, h2, h3, q1, q2, q3, q4, q6, q7, q8, q5⟩ := hh
            omega)), (((hS.pick (A := bmA g3 119 kv) (by repeat constructor)).pick (A := bmA g1 119 x) (by repeat constructor))).front2⟩
     ·
      intro hg10
      have hg10d := of_decide_eq_false hg10
      refine t_yes rfl rfl hg10 ?_
      refine t_q (q_fieldAddr 2 Try.runUnderlying119 rfl Try.sizeOf3 (by decide) rfl rfl) ?_
      refine t_yes rfl rfl hg10 ?_
      refine t_q (q_load1 Try.isAgg3 rfl (hS.cell (by repeat constructor) rfl)) ?_
      refine t_yes rfl rfl hg10 ?_
      refine t_q (q_lss rfl rfl) ?_
      refine t_q (q_pick_f rfl hg10) ?_
      refine t_q (q_mv (.bool _) rfl) ?_
      refine t_case 37 rfl ?_ ?_
      ·
       intro hg12
       have hg12d := of_decide_eq_true hg12
       refine t_no rfl rfl (by rw [hg12]; decide) ?_
       refine t_no rfl rfl (by rw [hg12]; decide) ?_
       refine t_no rfl rfl (by rw [hg12]; decide) ?_
       refine t_q (q_pick_t rfl hg12) ?_
       refine t_q (q_mv (.bool _) rfl) ?_
       refine t_no rfl rfl (by decide) ?_
       refine t_no rfl rfl (by decide) ?_
       refine t_no rfl rfl (by decide) ?_
       refine t_q (q_pick_t rfl rfl) ?_
       refine t_q (q_mv (.bool _) rfl) ?_
       refine t_no rfl rfl (by decide) ?_
       refine t_no rfl rfl (by decide) ?_
       refine t_no rfl rfl (by decide) ?_
       refine t_q (q_pick_t rfl rfl) ?_
       refine t_q (q_mv (.bool _) rfl) ?_
       refine t_no rfl rfl (by decide) ?_
       refine t_no rfl rfl (by decide) ?_
       refine t_no rfl rfl (by decide) ?_
       refine t_q (q_pick_t rfl rfl) ?_
       refine t_q (q_mv (.bool _) rfl) ?_
       refine t_no rfl rfl (by decide) ?_
       refine t_no rfl rfl (by decide) ?_
       refine t_no rfl rfl (by decide) ?_
       refine t_q (q_pick_t rfl rfl) ?_
       refine t_q (q_mv (.bool _) rfl) ?_
       refine t_no rfl rfl (by decide) ?_
       refine t_no rfl rfl (by decide) ?_
       refine t_no rfl rfl (by decide) ?_
       refine t_no rfl rfl (by decide) ?_
       refine t_q (q_pick_t rfl rfl) ?_
       refine t_q (q_mv (.bool _) rfl) ?_
       refine t_no rfl rfl (by decide) ?_
       refine t_no rfl rfl (by decide) ?_
       refine t_no rfl rfl (by decide) ?_
       refine t_no rfl rfl (by decide) ?_
       refine t_q (q_pick_t rfl rfl) ?_
       refine t_q (q_mv (.bool _) rfl) ?_
       refine t_no rfl rfl (by decide) ?_
       refine t_no rfl rfl (by decide) ?_
       refine t_no rfl rfl (by decide) ?_
       refine t_no rfl rfl (by decide) ?_
       refine t_nu rfl rfl ?_
       refine t_nu rfl rfl ?_
       refine t_nu rfl rfl ?_
       refine t_nu rfl rfl ?_
       refine t_no rfl rfl (by decide) ?_
       refine t_q (q_pick_t rfl rfl) ?_
       refine t_q (q_mv (.bool _) rfl) ?_
       refine t_no rfl rfl (by decide) ?_
       refine t_no rfl rfl (by decide) ?_
       refine t_no rfl rfl (by decide) ?_
       refine t_q (q_pick_t rfl rfl) ?_
       refine t_nil ?_
       first
         | exact ⟨true, rfl, (fun h => by cases h), (fun _ => sound_no (fun hh => by
             obtain ⟨h1, h4, h2, h3, q1, q2, q3, q4, q6, q7, q8, q5⟩ := hh
             rw [← hkv] at h4
             first
               | exact of_decide_eq_false (bnt (by assumption)) h1
               | exact of_decide_eq_false (bnt (by assumption)) h4
               | omega
               | (have q9 := q8 (by omega); omega))), (((hS.pick (A := bmA g3 119 kv) (by repeat constructor)).pick (A := bmA g1 119 x) (by repeat constructor))).front2⟩
         | exact ⟨decide (8 < x.client), rfl, (fun h => by
             have h := of_decide_eq_false h
             refine ⟨?_, ?_, by omega, by omega, by omega, by omega, by omega, by omega, by omega, by omega, fun hk => by omega, by omega⟩
             · exact of_decide_eq_true (bnf (by assumption))
             · rw [← hkv]; exact of_decide_eq_true (bnf (by assumption))), (fun h => sound_no (fun hh => by
             have h := of_decide_eq_true h
             obtain ⟨h1, h4, h2, h3, q1, q2, q3, q4, q6, q7, q8, q5⟩ := hh
             omega)), (((hS.pick (A := bmA g3 119 kv) (by repeat constructor)).pick (A := bmA g1 119 x) (by repeat constructor))).front2⟩
      ·
       intro hg12
       have hg12d := of_decide_eq_false hg12
       refine t_yes rfl rfl hg12 ?_
       refine t_q (q_fieldAddr 2 Try.runUnderlying119 rfl Try.sizeOf3 (by decide) rfl rfl) ?_
       refine t_yes rfl rfl hg12 ?_
       refine t_q (q_load1 Try.isAgg3 rfl (hS.cell (by repeat constructor) rfl)) ?_
       refine t_yes rfl rfl hg12 ?_
       refine t_q (q_geq rfl rfl) ?_
       refine t_q (q_pick_f rfl hg12) ?_
       refine t_q (q_mv (.bool _) rfl) ?_
       refine t_case 42 rfl ?_ ?_
       ·
        intro hg14
        have hg14d := of_decide_eq_true hg14
        refine t_no rfl rfl (by rw [hg14]; decide) ?_
        refine t_no rfl rfl (by rw [hg14]; decide) ?_
        refine t_no rfl rfl (by rw [hg14]; decide) ?_
        refine t_q (q_pick_t rfl hg14) ?_
        refine t_q (q_mv (.bool _) rfl) ?_
        refine t_no rfl rfl (by decide) ?_
        refine t_no rfl rfl (by decide) ?_
        refine t_no rfl rfl (by decide) ?_
        refine t_q (q_pick_t rfl rfl) ?_
        refine t_q (q_mv (.bool _) rfl) ?_
        refine t_no rfl rfl (by decide) ?_
        refine t_no rfl rfl (by decide) ?_
        refine t_no rfl rfl (by decide) ?_
        refine t_q (q_pick_t rfl rfl) ?_
        refine t_q (q_mv (.bool _) rfl) ?_
        refine t_no rfl rfl (by decide) ?_
        refine t_no rfl rfl (by decide) ?_
        refine t_no rfl rfl (by decide) ?_
        refine t_q (q_pick_t rfl rfl) ?_
        refine t_q (q_mv (.bool _) rfl) ?_
        refine t_no rfl rfl (by decide) ?_
        refine t_no rfl rfl (by decide) ?_
        refine t_no rfl rfl (by decide) ?_
        refine t_no rfl rfl (by decide) ?_
        refine t_q (q_pick_t rfl rfl) ?_
        refine t_q (q_mv (.bool _) rfl) ?_
        refine t_no rfl rfl (by decide) ?_
        refine t_no rfl rfl (by decide) ?_
        refine t_no rfl rfl (by decide) ?_
        refine t_no rfl rfl (by decide) ?_
        refine t_q (q_pick_t rfl rfl) ?_
        refine t_q (q_mv (.bool _) rfl) ?_
        refine t_no rfl rfl (by decide) ?_
        refine t_no rfl rfl (by decide) ?_
        refine t_no rfl rfl (by decide) ?_
        refine t_no rfl rfl (by decide) ?_
        refine t_nu rfl rfl ?_
        refine t_nu rfl rfl ?_
        refine t_nu rfl rfl ?_
        refine t_nu rfl rfl ?_
        refine t_no rfl rfl (by decide) ?_
        refine t_q (q_pick_t rfl rfl) ?_
        refine t_q (q_mv (.bool _) rfl) ?_
        refine t_no rfl rfl (by decide) ?_
        refine t_no rfl rfl (by decide) ?_
        refine t_no rfl rfl (by decide) ?_
        refine t_q (q_pick_t rfl rfl) ?_
        refine t_nil ?_
        first
          | exact ⟨true, rfl, (fun h => by cases h), (fun _ => sound_no (fun hh => by
              obtain ⟨h1, h4, h2, h3, q1, q2, q3, q4, q6, q7, q8, q5⟩ := hh
              rw [← hkv] at h4
              first
                | exact of_decide_eq_false (bnt (by assumption)) h1
                | exact of_decide_eq_false (bnt (by assumption)) h4
                | omega
                | (have q9 := q8 (by omega); omega))), (((hS.pick (A := bmA g3 119 kv) (by repeat constructor)).pick (A := bmA g1 119 x) (by repeat constructor))).front2⟩
          | exact ⟨decide (8 < x.client), rfl, (fun h => by
              have h := of_decide_eq_false h
              refine ⟨?_, ?_, by omega, by omega, by omega, by omega, by omega, by omega, by omega, by omega, fun hk => by omega, by omega⟩
              · exact of_decide_eq_true (bnf (by assumption))
              · rw [← hkv]; exact of_decide_eq_true (bnf (by assumption))), (fun h => sound_no (fun hh => by
              have h := of_decide_eq_true h
              obtain ⟨h1, h4, h2, h3, q1, q2, q3, q4, q6, q7, q8, q5⟩ := hh
              omega)), (((hS.pick (A := bmA g3 119 kv) (by repeat constructor)).pick (A := bmA g1 119 x) (by repeat constructor))).front2⟩
       ·
        intro hg14
        have hg14d := of_decide_eq_false hg14
        refine t_yes rfl rfl hg14 ?_
        refine t_q (q_fieldAddr 3 Try.runUnderlying119 rfl Try.sizeOf43 (by decide) rfl rfl) ?_
        refine t_yes rfl rfl hg14 ?_
        refine t_q (q_load1 Try.isAgg43 rfl (hS.cell (by repeat constructor) rfl)) ?_
        refine t_yes rfl rfl hg14 ?_
        refine t_q (q_gtr rfl rfl) ?_
        refine t_q (q_pick_f rfl hg14) ?_
        refine t_q (q_mv (.bool _) rfl) ?_
        refine t_case 47 rfl ?_ ?_
        ·
         intro hg16
         have hg16d := of_decide_eq_true hg16
         refine t_no rfl rfl (by rw [hg16]; decide) ?_
         refine t_no rfl rfl (by rw [hg16]; decide) ?_
         refine t_no rfl rfl (by rw [hg16]; decide) ?_
         refine t_q (q_pick_t rfl hg16) ?_
         refine t_q (q_mv (.bool _) rfl) ?_
         refine t_no rfl rfl (by decide) ?_
         refine t_no rfl rfl (by decide) ?_
         refine t_no rfl rfl (by decide) ?_
         refine t_q (q_pick_t rfl rfl) ?_
         refine t_q (q_mv (.bool _) rfl) ?_
         refine t_no rfl rfl (by decide) ?_
         refine t_no rfl rfl (by decide) ?_
         refine t_no rfl rfl (by decide) ?_
         refine t_q (q_pick_t rfl rfl) ?_
         refine t_q (q_mv (.bool _) rfl) ?_
         refine t_no rfl rfl (by decide) ?_
         refine t_no rfl rfl (by decide) ?_
         refine t_no rfl rfl (by decide) ?_
         refine t_no rfl rfl (by decide) ?_
         refine t_q (q_pick_t rfl rfl) ?_
         refine t_q (q_mv (.bool _) rfl) ?_
         refine t_no rfl rfl (by decide) ?_
         refine t_no rfl rfl (by decide) ?_
         refine t_no rfl rfl (by decide) ?_
         refine t_no rfl rfl (by decide) ?_
         refine t_q (q_pick_t rfl rfl) ?_
         refine t_q (q_mv (.bool _) rfl) ?_
         refine t_no rfl rfl (by decide) ?_
         refine t_no rfl rfl (by decide) ?_
         refine t_no rfl rfl (by decide) ?_
         refine t_no rfl rfl (by decide) ?_
         refine t_nu rfl rfl ?_
         refine t_nu rfl rfl ?_
         refine t_nu rfl rfl ?_
         refine t_nu rfl rfl ?_
         refine t_no rfl rfl (by decide) ?_
         refine t_q (q_pick_t rfl rfl) ?_
         refine t_q (q_mv (.bool _) rfl) ?_
         refine t_no rfl rfl (by decide) ?_
         refine t_no rfl rfl (by decide) ?_
         refine t_no rfl rfl (by decide) ?_
         refine t_q (q_pick_t rfl rfl) ?_
         refine t_nil ?_
         first
           | exact ⟨true, rfl, (fun h => by cases h), (fun _ => sound_no (fun hh => by
               obtain ⟨h1, h4, h2, h3, q1, q2, q3, q4, q6, q7, q8, q5⟩ := hh
               rw [← hkv] at h4
               first
                 | exact of_decide_eq_false (bnt (by assumption)) h1
                 | exact of_decide_eq_false (bnt (by assumption)) h4
                 | omega
                 | (have q9 := q8 (by omega); omega))), (((hS.pick (A := bmA g3 119 kv) (by repeat constructor)).pick (A := bmA g1 119 x) (by repeat constructor))).front2⟩
           | exact ⟨decide (8 < x.client), rfl, (fun h => by
               have h := of_decide_eq_false h
               refine ⟨?_, ?_, by omega, by omega, by omega, by omega, by omega, by omega, by omega, by omega, fun hk => by omega, by omega⟩
               · exact of_decide_eq_true (bnf (by assumption))
               · rw [← hkv]; exact of_decide_eq_true (bnf (by assumption))), (fun h => sound_no (fun hh => by
               have h := of_decide_eq_true h
               obtain ⟨h1, h4, h2, h3, q1, q2, q3, q4, q6, q7, q8, q5⟩ := hh
               omega)), (((hS.pick (A := bmA g3 119 kv) (by repeat constructor)).pick (A := bmA g1 119 x) (by repeat constructor))).front2⟩
        ·
         intro hg16
         have hg16d := of_decide_eq_false hg16
         refine t_yes rfl rfl hg16 ?_
         refine t_q (q_fieldAddr 4 Try.runUnderlying119 rfl Try.sizeOf43 (by decide) rfl rfl) ?_
         refine t_yes rfl rfl hg16 ?_
         refine t_q (q_load1 Try.isAgg43 rfl (hS.cell (by repeat constructor) rfl)) ?_
         refine t_yes rfl rfl hg16 ?_
         refine t_q (q_gtr rfl rfl) ?_
         refine t_q (q_pick_f rfl hg16) ?_
         refine t_q (q_mv (.bool _) rfl) ?_
         refine t_case 52 rfl ?_ ?_
         ·
          intro hg18
          have hg18d := of_decide_eq_true hg18
          refine t_no rfl rfl (by rw [hg18]; decide) ?_
          refine t_no rfl rfl (by rw [hg18]; decide) ?_
          refine t_no rfl rfl (by rw [hg18]; decide) ?_
          refine t_q (q_pick_t rfl hg18) ?_
          refine t_q (q_mv (.bool _) rfl) ?_
          refine t_no rfl rfl (by decide) ?_
          refine t_no rfl rfl (by decide) ?_
          refine t_no rfl rfl (by decide) ?_
          refine t_q (q_pick_t rfl rfl) ?_
          refine t_q (q_mv (.bool _) rfl) ?_
          refine t_no rfl rfl (by decide) ?_
          refine t_no rfl rfl (by decide) ?_
          refine t_no rfl rfl (by decide) ?_
          refine t_no rfl rfl (by decide) ?_
          refine t_q (q_pick_t rfl rfl) ?_
          refine t_q (q_mv (.bool _) rfl) ?_
          refine t_no rfl rfl (by decide) ?_
          refine t_no rfl rfl (by decide) ?_
          refine t_no rfl rfl (by decide) ?_
          refine t_no rfl rfl (by decide) ?_
          refine t_q (q_pick_t rfl rfl) ?_
          refine t_q (q_mv (.bool _) rfl) ?_
          refine t_no rfl rfl (by decide) ?_
          refine t_no rfl rfl (by decide) ?_
          refine t_no rfl rfl (by decide) ?_
          refine t_no rfl rfl (by decide) ?_
          refine t_nu rfl rfl ?_
          refine t_nu rfl rfl ?_
          refine t_nu rfl rfl ?_
          refine t_nu rfl rfl ?_
          refine t_no rfl rfl (by decide) ?_
          refine t_q (q_pick_t rfl rfl) ?_
          refine t_q (q_mv (.bool _) rfl) ?_
          refine t_no rfl rfl (by decide) ?_
          refine t_no rfl rfl (by decide) ?_
          refine t_no rfl rfl (by decide) ?_
          refine t_q (q_pick_t rfl rfl) ?_
          refine t_nil ?_
          first
            | exact ⟨true, rfl, (fun h => by cases h), (fun _ => sound_no (fun hh => by
                obtain ⟨h1, h4, h2, h3, q1, q2, q3, q4, q6, q7, q8, q5⟩ := hh
                rw [← hkv] at h4
                first
                  | exact of_decide_eq_false (bnt (by assumption)) h1
                  | exact of_decide_eq_false (bnt (by assumption)) h4
                  | omega
                  | (have q9 := q8 (by omega); omega))), (((hS.pick (A := bmA g3 119 kv) (by repeat constructor)).pick (A := bmA g1 119 x) (by repeat constructor))).front2⟩
            | exact ⟨decide (8 < x.client), rfl, (fun h => by
                have h := of_decide_eq_false h
                refine ⟨?_, ?_, by omega, by omega, by omega, by omega, by omega, by omega, by omega, by omega, fun hk => by omega, by omega⟩
                · exact of_decide_eq_true (bnf (by assumption))
                · rw [← hkv]; exact of_decide_eq_true (bnf (by assumption))), (fun h => sound_no (fun hh => by
                have h := of_decide_eq_true h
                obtain ⟨h1, h4, h2, h3, q1, q2, q3, q4, q6, q7, q8, q5⟩ := hh
                omega)), (((hS.pick (A := bmA g3 119 kv) (by repeat constructor)).pick (A := bmA g1 119 x) (by repeat constructor))).front2⟩
         ·
          intro hg18
          have hg18d := of_decide_eq_false hg18
          refine t_yes rfl rfl hg18 ?_
          refine t_q (q_fieldAddr 5 Try.runUnderlying119 rfl Try.sizeOf43 (by decide) rfl rfl) ?_
          refine t_yes rfl rfl hg18 ?_
          refine t_q (q_load1 Try.isAgg43 rfl (hS.cell (by repeat constructor) rfl)) ?_
          refine t_yes rfl rfl hg18 ?_
          refine t_q (q_gtr rfl rfl) ?_
          refine t_q (q_pick_f rfl hg18) ?_
          refine t_q (q_mv (.bool _) rfl) ?_
          refine t_case 57 rfl ?_ ?_
          ·
           intro hg20
           have hg20d := of_decide_eq_true hg20
           refine t_no rfl rfl (by rw [hg20]; decide) ?_
           refine t_no rfl rfl (by rw [hg20]; decide) ?_
           refine t_no rfl rfl (by rw [hg20]; decide) ?_
           refine t_q (q_pick_t rfl hg20) ?_
           refine t_q (q_mv (.bool _) rfl) ?_
           refine t_no rfl rfl (by decide) ?_
           refine t_no rfl rfl (by decide) ?_
           refine t_no rfl rfl (by decide) ?_
           refine t_no rfl rfl (by decide) ?_
           refine t_q (q_pick_t rfl rfl) ?_
           refine t_q (q_mv (.bool _) rfl) ?_
           refine t_no rfl rfl (by decide) ?_
           refine t_no rfl rfl (by decide) ?_
           refine t_no rfl rfl (by decide) ?_
           refine t_no rfl rfl (by decide) ?_
           refine t_q (q_pick_t rfl rfl) ?_
           refine t_q (q_mv (.bool _) rfl) ?_
           refine t_no rfl rfl (by decide) ?_
           refine t_no rfl rfl (by decide) ?_
           refine t_no rfl rfl (by decide) ?_
           refine t_no rfl rfl (by decide) ?_
           refine t_nu rfl rfl ?_
           refine t_nu rfl rfl ?_
           refine t_nu rfl rfl ?_
           refine t_nu rfl rfl ?_
           refine t_no rfl rfl (by decide) ?_
           refine t_q (q_pick_t rfl rfl) ?_
           refine t_q (q_mv (.bool _) rfl) ?_
           refine t_no rfl rfl (by decide) ?_
           refine t_no rfl rfl (by decide) ?_
           refine t_no rfl rfl (by decide) ?_
           refine t_q (q_pick_t rfl rfl) ?_
           refine t_nil ?_
           first
             | exact ⟨true, rfl, (fun h => by cases h), (fun _ => sound_no (fun hh => by
                 obtain ⟨h1, h4, h2, h3, q1, q2, q3, q4, q6, q7, q8, q5⟩ := hh
                 rw [← hkv] at h4
                 first
                   | exact of_decide_eq_false (bnt (by assumption)) h1
                   | exact of_decide_eq_false (bnt (by assumption)) h4
                   | omega
                   | (have q9 := q8 (by omega); omega))), (((hS.pick (A := bmA g3 119 kv) (by repeat constructor)).pick (A := bmA g1 119 x) (by repeat constructor))).front2⟩
             | exact ⟨decide (8 < x.client), rfl, (fun h => by
                 have h := of_decide_eq_false h
                 refine ⟨?_, ?_, by omega, by omega, by omega, by omega, by omega, by omega, by omega, by omega, fun hk => by omega, by omega⟩
                 · exact of_decide_eq_true (bnf (by assumption))
                 · rw [← hkv]; exact of_decide_eq_true (bnf (by assumption))), (fun h => sound_no (fun hh => by
                 have h := of_decide_eq_true h
                 obtain ⟨h1, h4, h2, h3, q1, q2, q3, q4, q6, q7, q8, q5⟩ := hh
                 omega)), (((hS.pick (A := bmA g3 119 kv) (by repeat constructor)).pick (A := bmA g1 119 x) (by repeat constructor))).front2⟩
          ·
           intro hg20
           have hg20d := of_decide_eq_false hg20
           refine t_yes rfl rfl hg20 ?_
           refine t_q (q_fieldAddr 6 Try.runUnderlying119 rfl Try.sizeOf43 (by decide) rfl rfl) ?_
           refine t_yes rfl rfl hg20 ?_
           refine t_q (q_load1 Try.isAgg43 rfl (hS.cell (by repeat constructor) rfl)) ?_
           refine t_yes rfl rfl hg20 ?_
           refine t_q (q_gtr rfl rfl) ?_
           refine t_q (q_pick_f rfl hg20) ?_
           refine t_q (q_mv (.bool _) rfl) ?_
           refine t_case 62 rfl ?_ ?_
           ·
            intro hg22
            have hg22d := of_decide_eq_true hg22
            refine t_no rfl rfl (by rw [hg22]; decide) ?_
            refine t_no rfl rfl (by rw [hg22]; decide) ?_
            refine t_no rfl rfl (by rw [hg22]; decide) ?_
            refine t_no rfl rfl (by rw [hg22]; decide) ?_
            refine t_q (q_pick_t rfl hg22) ?_
            refine t_q (q_mv (.bool _) rfl) ?_
            refine t_no rfl rfl (by decide) ?_
            refine t_no rfl rfl (by decide) ?_
            refine t_no rfl rfl (by decide) ?_
            refine t_no rfl rfl (by decide) ?_
            refine t_q (q_pick_t rfl rfl) ?_
            refine t_q (q_mv (.bool _) rfl) ?_
            refine t_no rfl rfl (by decide) ?_
            refine t_no rfl rfl (by decide) ?_
            refine t_no rfl rfl (by decide) ?_
            refine t_no rfl rfl (by decide) ?_
            refine t_nu rfl rfl ?_
            refine t_nu rfl rfl ?_
            refine t_nu rfl rfl ?_
            refine t_nu rfl rfl ?_
            refine t_no rfl rfl (by decide) ?_
            refine t_q (q_pick_t rfl rfl) ?_
            refine t_q (q_mv (.bool _) rfl) ?_
            refine t_no rfl rfl (by decide) ?_
            refine t_no rfl rfl (by decide) ?_
            refine t_no rfl rfl (by decide) ?_
            refine t_q (q_pick_t rfl rfl) ?_
            refine t_nil ?_
            first
              | exact ⟨true, rfl, (fun h => by cases h), (fun _ => sound_no (fun hh => by
                  obtain ⟨h1, h4, h2, h3, q1, q2, q3, q4, q6, q7, q8, q5⟩ := hh
                  rw [← hkv] at h4
                  first
                    | exact of_decide_eq_false (bnt (by assumption)) h1
                    | exact of_decide_eq_false (bnt (by assumption)) h4
                    | omega
                    | (have q9 := q8 (by omega); omega))), (((hS.pick (A := bmA g3 119 kv) (by repeat constructor)).pick (A := bmA g1 119 x) (by repeat constructor))).front2⟩
              | exact ⟨decide (8 < x.client), rfl, (fun h => by
                  have h := of_decide_eq_false h
                  refine ⟨?_, ?_, by omega, by omega, by omega, by omega, by omega, by omega, by omega, by omega, fun hk => by omega, by omega⟩
                  · exact of_decide_eq_true (bnf (by assumption))
                  · rw [← hkv]; exact of_decide_eq_true (bnf (by assumption))), (fun h => sound_no (fun hh => by
                  have h := of_decide_eq_true h
                  obtain ⟨h1, h4, h2, h3, q1, q2, q3, q4, q6, q7, q8, q5⟩ := hh
                  omega)), (((hS.pick (A := bmA g3 119 kv) (by repeat constructor)).pick (A := bmA g1 119 x) (by repeat constructor))).front2⟩
           ·
            intro hg22
            have hg22d := of_decide_eq_false hg22
            refine t_yes rfl rfl hg22 ?_
            refine t_q (q_fieldAddr 8 Try.runUnderlying119 rfl Try.sizeOf117 (by decide) rfl rfl) ?_
            refine t_yes rfl rfl hg22 ?_
            refine t_q (q_load1 Try.isAgg117 rfl (hS.cell (by repeat constructor) rfl)) ?_
            refine t_yes rfl rfl hg22 ?_
            refine t_q (q_len_slice Try.runUnderlying117 rfl) ?_
            refine t_yes rfl rfl hg22 ?_
            refine t_q (q_gtr rfl rfl) ?_
            refine t_q (q_pick_f rfl hg22) ?_
            refine t_q (q_mv (.bool _) rfl) ?_
            refine t_case 68 rfl ?_ ?_
            ·
             intro hg24
             have hg24d := of_decide_eq_true hg24
             refine t_no rfl rfl (by rw [hg24]; decide) ?_
             refine t_no rfl rfl (by rw [hg24]; decide) ?_
             refine t_no rfl rfl (by rw [hg24]; decide) ?_
             refine t_no rfl rfl (by rw [hg24]; decide) ?_
             refine t_q (q_pick_t rfl hg24) ?_
             refine t_q (q_mv (.bool _) rfl) ?_
             refine t_no rfl rfl (by decide) ?_
             refine t_no rfl rfl (by decide) ?_
             refine t_no rfl rfl (by decide) ?_
             refine t_no rfl rfl (by decide) ?_
             refine t_nu rfl rfl ?_
             refine t_nu rfl rfl ?_
             refine t_nu rfl rfl ?_
             refine t_nu rfl rfl ?_
             refine t_no rfl rfl (by decide) ?_
             refine t_q (q_pick_t rfl rfl) ?_
             refine t_q (q_mv (.bool _) rfl) ?_
             refine t_no rfl rfl (by decide) ?_
             refine t_no rfl rfl (by decide) ?_
             refine t_no rfl rfl (by decide) ?_
             refine t_q (q_pick_t rfl rfl) ?_
             refine t_nil ?_
             first
               | exact ⟨true, rfl, (fun h => by cases h), (fun _ => sound_no (fun hh => by
                   obtain ⟨h1, h4, h2, h3, q1, q2, q3, q4, q6, q7, q8, q5⟩ := hh
                   rw [← hkv] at h4
                   first
                     | exact of_decide_eq_false (bnt (by assumption)) h1
                     | exact of_decide_eq_false (bnt (by assumption)) h4
                     | omega
                     | (have q9 := q8 (by omega); omega))), (((hS.pick (A := bmA g3 119 kv) (by repeat constructor)).pick (A := bmA g1 119 x) (by repeat constructor))).front2⟩
               | exact ⟨decide (8 < x.client), rfl, (fun h => by
                   have h := of_decide_eq_false h
                   refine ⟨?_, ?_, by omega, by omega, by omega, by omega, by omega, by omega, by omega, by omega, fun hk => by omega, by omega⟩
                   · exact of_decide_eq_true (bnf (by assumption))
                   · rw [← hkv]; exact of_decide_eq_true (bnf (by assumption))), (fun h => sound_no (fun hh => by
                   have h := of_decide_eq_true h
                   obtain ⟨h1, h4, h2, h3, q1, q2, q3, q4, q6, q7, q8, q5⟩ := hh
                   omega)), (((hS.pick (A := bmA g3 119 kv) (by repeat constructor)).pick (A := bmA g1 119 x) (by repeat constructor))).front2⟩
            ·
             intro hg24
             have hg24d := of_decide_eq_false hg24
             refine t_yes rfl rfl hg24 ?_
             refine t_q (q_fieldAddr 9 Try.runUnderlying119 rfl Try.sizeOf25 (by decide) rfl rfl) ?_
             refine t_yes rfl rfl hg24 ?_
             refine t_q (q_load1 Try.isAgg25 rfl (hS.cell (by repeat constructor) rfl)) ?_
             refine t_yes rfl rfl hg24 ?_
             refine t_q (q_len_slice Try.runUnderlying25 rfl) ?_
             refine t_yes rfl rfl hg24 ?_
             refine t_q (q_gtr rfl rfl) ?_
             refine t_q (q_pick_f rfl hg24) ?_
             refine t_q (q_mv (.bool _) rfl) ?_
             refine t_case 74 rfl ?_ ?_
             ·
              intro hg26
              have hg26d := of_decide_eq_true hg26
              refine t_no rfl rfl (by rw [hg26]; decide) ?_
              refine t_no rfl rfl (by rw [hg26]; decide) ?_
              refine t_no rfl rfl (by rw [hg26]; decide) ?_
              refine t_no rfl rfl (by rw [hg26]; decide) ?_
              refine t_nu rfl rfl ?_
              refine t_nu rfl rfl ?_
              refine t_nu rfl rfl ?_
              refine t_nu rfl rfl ?_
              refine t_no rfl rfl (by rw [hg26]; decide) ?_
              refine t_q (q_pick_t rfl hg26) ?_
              refine t_q (q_mv (.bool _) rfl) ?_
              refine t_no rfl rfl (by decide) ?_
              refine t_no rfl rfl (by decide) ?_
              refine t_no rfl rfl (by decide) ?_
              refine t_q (q_pick_t rfl rfl) ?_
              refine t_nil ?_
              first
                | exact ⟨true, rfl, (fun h => by cases h), (fun _ => sound_no (fun hh => by
                    obtain ⟨h1, h4, h2, h3, q1, q2, q3, q4, q6, q7, q8, q5⟩ := hh
                    rw [← hkv] at h4
                    first
                      | exact of_decide_eq_false (bnt (by assumption)) h1
                      | exact of_decide_eq_false (bnt (by assumption)) h4
                      | omega
                      | (have q9 := q8 (by omega); omega))), (((hS.pick (A := bmA g3 119 kv) (by repeat constructor)).pick (A := bmA g1 119 x) (by repeat constructor))).front2⟩
                | exact ⟨decide (8 < x.client), rfl, (fun h => by
                    have h := of_decide_eq_false h
                    refine ⟨?_, ?_, by omega, by omega, by omega, by omega, by omega, by omega, by omega, by omega, fun hk => by omega, by omega⟩
                    · exact of_decide_eq_true (bnf (by assumption))
                    · rw [← hkv]; exact of_decide_eq_true (bnf (by assumption))), (fun h => sound_no (fun hh => by
                    have h := of_decide_eq_true h
                    obtain ⟨h1, h4, h2, h3, q1, q2, q3, q4, q6, q7, q8, q5⟩ := hh
                    omega)), (((hS.pick (A := bmA g3 119 kv) (by repeat constructor)).pick (A := bmA g1 119 x) (by repeat constructor))).front2⟩
             ·
              intro hg26
              have hg26d := of_decide_eq_false hg26
              refine t_yes rfl rfl hg26 ?_
              refine t_q (q_fieldAddr 0 Try.runUnderlying119 rfl Try.sizeOf3 (by decide) rfl rfl) ?_
              refine t_yes rfl rfl hg26 ?_
              refine t_q (q_load1 Try.isAgg3 rfl (hS.cell (by repeat constructor) rfl)) ?_
              refine t_yes rfl rfl hg26 ?_
              refine t_q (q_eql rfl rfl) ?_
              refine t_yes rfl rfl hg26 ?_
              refine t_q (q_mv (.bool _) rfl) ?_
              refine t_case 78 rfl ?_ ?_
              ·
               intro hg28
               have hg28d := of_decide_eq_true hg28
               refine t_yes rfl rfl hg28 ?_
               refine t_q (q_fieldAddr 9 Try.runUnderlying119 rfl Try.sizeOf25 (by decide) rfl rfl) ?_
               refine t_yes rfl rfl hg28 ?_
               refine t_q (q_load1 Try.isAgg25 rfl (hS.cell (by repeat constructor) rfl)) ?_
               refine t_yes rfl rfl hg28 ?_
               refine t_q (q_len_slice Try.runUnderlying25 rfl) ?_
               refine t_yes rfl rfl hg28 ?_
               refine t_q (q_gtr rfl rfl) ?_
               refine t_yes rfl rfl hg26 ?_
               refine t_q (q_pick_t rfl hg28) ?_
               refine t_q (q_pick_f rfl hg26) ?_
               refine t_q (q_mv (.bool _) rfl) ?_
               refine t_case 85 rfl ?_ ?_
               ·
                intro hg30
                have hg30d := of_decide_eq_true hg30
                refine t_no rfl rfl (by rw [hg30]; decide) ?_
                refine t_no rfl rfl (by rw [hg30]; decide) ?_
                refine t_no rfl rfl (by rw [hg30]; decide) ?_
                refine t_q (q_pick_t rfl hg30) ?_
                refine t_nil ?_
                first
                  | exact ⟨true, rfl, (fun h => by cases h), (fun _ => sound_no (fun hh => by
                      obtain ⟨h1, h4, h2, h3, q1, q2, q3, q4, q6, q7, q8, q5⟩ := hh
                      rw [← hkv] at h4
                      first
                        | exact of_decide_eq_false (bnt (by assumption)) h1
                        | exact of_decide_eq_false (bnt (by assumption)) h4
                        | omega
                        | (have q9 := q8 (by omega); omega))), (((hS.pick (A := bmA g3 119 kv) (by repeat constructor)).pick (A := bmA g1 119 x) (by repeat constructor))).front2⟩
                  | exact ⟨decide (8 < x.client), rfl, (fun h => by
                      have h := of_decide_eq_false h
                      refine ⟨?_, ?_, by omega, by omega, by omega, by omega, by omega, by omega, by omega, by omega, fun hk => by omega, by omega⟩
                      · exact of_decide_eq_true (bnf (by assumption))
                      · rw [← hkv]; exact of_decide_eq_true (bnf (by assumption))), (fun h => sound_no (fun hh => by
                      have h := of_decide_eq_true h
                      obtain ⟨h1, h4, h2, h3, q1, q2, q3, q4, q6, q7, q8, q5⟩ := hh
                      omega)), (((hS.pick (A := bmA g3 119 kv) (by repeat constructor)).pick (A := bmA g1 119 x) (by repeat constructor))).front2⟩
               ·
                intro hg30
                have hg30d := of_decide_eq_false hg30
                refine t_yes rfl rfl hg30 ?_
                refine t_q (q_fieldAddr 10 Try.runUnderlying119 rfl Try.sizeOf43 (by decide) rfl rfl) ?_
                refine t_yes rfl rfl hg30 ?_
                refine t_q (q_load1 Try.isAgg43 rfl (hS.cell (by repeat constructor) rfl)) ?_
                refine t_yes rfl rfl hg30 ?_
                refine t_q (q_gtr rfl rfl) ?_
                refine t_q (q_pick_f rfl hg30) ?_
                refine t_nil ?_
                first
                  | exact ⟨true, rfl, (fun h => by cases h), (fun _ => sound_no (fun hh => by
                      obtain ⟨h1, h4, h2, h3, q1, q2, q3, q4, q6, q7, q8, q5⟩ := hh
                      rw [← hkv] at h4
                      first
                        | exact of_decide_eq_false (bnt (by assumption)) h1
                        | exact of_decide_eq_false (bnt (by assumption)) h4
                        | omega
                        | (have q9 := q8 (by omega); omega))), (((hS.pick (A := bmA g3 119 kv) (by repeat constructor)).pick (A := bmA g1 119 x) (by repeat constructor))).front2⟩
                  | exact ⟨decide (8 < x.client), rfl, (fun h => by
                      have h := of_decide_eq_false h
                      refine ⟨?_, ?_, by omega, by omega, by omega, by omega, by omega, by omega, by omega, by omega, fun hk => by omega, by omega⟩
                      · exact of_decide_eq_true (bnf (by assumption))
                      · rw [← hkv]; exact of_decide_eq_true (bnf (by assumption))), (fun h => sound_no (fun hh => by
                      have h := of_decide_eq_true h
                      obtain ⟨h1, h4, h2, h3, q1, q2, q3, q4, q6, q7, q8, q5⟩ := hh
                      omega)), (((hS.pick (A := bmA g3 119 kv) (by repeat constructor)).pick (A := bmA g1 119 x) (by repeat constructor))).front2⟩
              ·
               intro hg28
               have hg28d := of_decide_eq_false hg28
               refine t_no rfl rfl (by rw [hg28]; decide) ?_
               refine t_no rfl rfl (by rw [hg28]; decide) ?_
               refine t_no rfl rfl (by rw [hg28]; decide) ?_
               refine t_no rfl rfl (by rw [hg28]; decide) ?_
               refine t_yes rfl rfl hg26 ?_
               refine t_q (q_pick_f rfl hg28) ?_
               refine t_q (q_pick_f rfl hg26) ?_
               refine t_q (q_mv (.bool _) rfl) ?_
               refine t_yes rfl rfl rfl ?_
               refine t_q (q_fieldAddr 10 Try.runUnderlying119 rfl Try.sizeOf43 (by decide) rfl rfl) ?_
               refine t_yes rfl rfl rfl ?_
               refine t_q (q_load1 Try.isAgg43 rfl (hS.cell (by repeat constructor) rfl)) ?_
               refine t_yes rfl rfl rfl ?_
               refine t_q (q_gtr rfl rfl) ?_
               refine t_q (q_pick_f rfl rfl) ?_
               refine t_nil ?_
               first
                 | exact ⟨true, rfl, (fun h => by cases h), (fun _ => sound_no (fun hh => by
                     obtain ⟨h1, h4, h2, h3, q1, q2, q3, q4, q6, q7, q8, q5⟩ := hh
                     rw [← hkv] at h4
                     first
                       | exact of_decide_eq_false (bnt (by assumption)) h1
                       | exact of_decide_eq_false (bnt (by assumption)) h4
                       | omega
                       | (have q9 := q8 (by omega); omega))), (((hS.pick (A := bmA g3 119 kv) (by repeat constructor)).pick (A := bmA g1 119 x) (by repeat constructor))).front2⟩
                 | exact ⟨decide (8 < x.client), rfl, (fun h => by
                     have h := of_decide_eq_false h
                     refine ⟨?_, ?_, by omega, by omega, by omega, by omega, by omega, by omega, by omega, by omega, fun hk => by omega, by omega⟩
                     · exact of_decide_eq_true (bnf (by assumption))
                     · rw [← hkv]; exact of_decide_eq_true (bnf (by assumption))), (fun h => sound_no (fun hh => by
                     have h := of_decide_eq_true h
                     obtain ⟨h1, h4, h2, h3, q1, q2, q3, q4, q6, q7, q8, q5⟩ := hh
                     omega)), (((hS.pick (A := bmA g3 119 kv) (by repeat constructor)).pick (A := bmA g1 119 x) (by repeat constructor))).front2⟩
 ·
  rintro σ w ⟨b89, h89, hq1, hq2, hS⟩
  refine c_know 89 h89 ?_
  refine c_cond rfl ?_ ?_
  ·
   intro hc33
   have hD := hq2 hc33
   refine c_seq (c_region ?_)
   refine t_q (q_assign) ?_
   refine t_nil (c_ret ?_)
   refine r_one rfl rfl ?_
   rw [hD]
   exact ⟨rfl, hS.nil⟩
  ·
   intro hc33
   have hQ := hq1 hc33
   refine c_skip (c_seq (c_seq (c_region ?_)))
   refine t_q (q_assign) ?_
   refine t_nil (c_block ?_)
   refine c_loop [2, 5, 6, 90, 91, 92, 93, 94, 95, 96, 97, 98, 99, 100, 101, 102, 103, 104, 105, 106, 107, 108, 109, 110, 111, 112, 113, 114, 115] (fun k σ w => ∃ j : Nat, σ 5 = .int .i64 (j : Int) ∧ j ≤ x.entries.l.length ∧ x.entries.l.length - j ≤ k ∧ (∀ i, i < j → entFine (x.entries.l.getD i default) = true) ∧ St W w [bmA g1 119 x]) (x.entries.l.length) rfl (⟨0, rfl, by omega, by omega, (fun i h => absurd h (by omega)), ((hS.pick (A := bmA g1 119 x) (by repeat constructor))).front1⟩) ?_
   skip
   rintro k σ w ⟨j, h5, hj, hk, hall, hS⟩
   refine c_know 5 h5 ?_
   clear h5
   refine c_seq (c_seq (c_region ?_))
   refine t_q (q_mv (.int _ _) rfl) ?_
   refine t_q (q_fieldAddr 8 Try.runUnderlying119 rfl Try.sizeOf117 (by decide) rfl rfl) ?_
   refine t_q (q_load1 Try.isAgg117 rfl (hS.cell (by repeat constructor) rfl)) ?_
   refine t_q (q_len_slice Try.runUnderlying117 rfl) ?_
   refine t_q (q_lss rfl rfl) ?_
   refine t_nil ?_
   refine c_cond rfl ?_ ?_
   ·
    intro hc35
    have hc35d := of_decide_eq_true hc35
    refine c_skip (c_seq (c_block (c_seq (c_region ?_))))
    refine t_q (q_fieldAddr 8 Try.runUnderlying119 rfl Try.sizeOf117 (by decide) rfl rfl) ?_
    refine t_q (q_load1 Try.isAgg117 rfl (hS.cell (by repeat constructor) rfl)) ?_
    refine t_q (q_mv (.int _ _) rfl) ?_
    first | refine t_index_nat Try.runUnderlying117 Try.sizeOf174 (Rd.st hx.erd hS) rfl rfl (by omega) (fun ad36 hl36 hx36 => ?_) | refine t_index Try.runUnderlying117 Try.sizeOf174 (Rd.st hx.erd hS) rfl rfl (by omega) (fun ad36 hl36 hx36 => ?_)
    refine t_q (q_loadN Try.isAgg174 Try.sizeOf174 rfl hl36 hx36) ?_
    refine t_alloc Try.zeroValue174 rfl hS (fun g6 w hS => ?_)
    refine t_store (v := (.agg _)) Try.sizeOf174 hS (by repeat constructor) rfl rfl rfl rfl rfl rfl (fun w hS => ?_)
    replace hS := hS.recast (show blkA g6 174 _ = blkA g6 174 [.int .u64 (x.entries.l.getD j default).index, .int .u64 (x.entries.l.getD j default).term, .slice (x.entries.l.getD j default).body.A (x.entries.l.getD j default).body.l.length (x.entries.l.getD j default).body.c] from rfl)
    refine t_nil (c_seq (c_region ?_))
    refine t_q (q_fieldAddr 0 Try.runUnderlying174 rfl Try.sizeOf43 (by decide) rfl rfl) ?_
    refine t_q (q_load1 Try.isAgg43 rfl (hS.cell (by repeat constructor) rfl)) ?_
    refine t_q (q_gtr rfl rfl) ?_
    refine t_q (q_mv (.bool _) rfl) ?_
    refine t_case 105 rfl ?_ ?_
    ·
     intro hg38
     have hg38d := of_decide_eq_true hg38
     refine t_no rfl rfl (by rw [hg38]; decide) ?_
     refine t_no rfl rfl (by rw [hg38]; decide) ?_
     refine t_no rfl rfl (by rw [hg38]; decide) ?_
     refine t_q (q_pick_t rfl hg38) ?_
     refine t_q (q_mv (.bool _) rfl) ?_
     refine t_no rfl rfl (by decide) ?_
     refine t_no rfl rfl (by decide) ?_
     refine t_no rfl rfl (by decide) ?_
     refine t_no rfl rfl (by decide) ?_
     refine t_q (q_pick_t rfl rfl) ?_
     refine t_nil ?_
     refine c_cond_t rfl rfl ?_
     have hD : soundB x = false := sound_ent (all_not (j := j) (by omega) (decide_eq_false (by omega)))
     refine c_seq (c_region ?_)
     refine t_q (q_assign) ?_
     refine t_nil (c_ret ?_)
     refine r_one rfl rfl ?_
     rw [hD]
     exact ⟨rfl, hS.nil⟩
    ·
     intro hg38
     have hg38d := of_decide_eq_false hg38
     refine t_yes rfl rfl hg38 ?_
     refine t_q (q_fieldAddr 1 Try.runUnderlying174 rfl Try.sizeOf43 (by decide) rfl rfl) ?_
     refine t_yes rfl rfl hg38 ?_
     refine t_q (q_load1 Try.isAgg43 rfl (hS.cell (by repeat constructor) rfl)) ?_
     refine t_yes rfl rfl hg38 ?_
     refine t_q (q_gtr rfl rfl) ?_
     refine t_q (q_pick_f rfl hg38) ?_
     refine t_q (q_mv (.bool _) rfl) ?_
     refine t_case 110 rfl ?_ ?_
     ·
      intro hg40
      have hg40d := of_decide_eq_true hg40
      refine t_no rfl rfl (by rw [hg40]; decide) ?_
      refine t_no rfl rfl (by rw [hg40]; decide) ?_
      refine t_no rfl rfl (by rw [hg40]; decide) ?_
      refine t_no rfl rfl (by rw [hg40]; decide) ?_
      refine t_q (q_pick_t rfl hg40) ?_
      refine t_nil ?_
      refine c_cond_t rfl rfl ?_
      have hD : soundB x = false := sound_ent (all_not (j := j) (by omega) (decide_eq_false (by omega)))
      refine c_seq (c_region ?_)
      refine t_q (q_assign) ?_
      refine t_nil (c_ret ?_)
      refine r_one rfl rfl ?_
      rw [hD]
      exact ⟨rfl, hS.nil⟩
     ·
      intro hg40
      have hg40d := of_decide_eq_false hg40
      refine t_yes rfl rfl hg40 ?_
      refine t_q (q_fieldAddr 2 Try.runUnderlying174 rfl Try.sizeOf25 (by decide) rfl rfl) ?_
      refine t_yes rfl rfl hg40 ?_
      refine t_q (q_load1 Try.isAgg25 rfl (hS.cell (by repeat constructor) rfl)) ?_
      refine t_yes rfl rfl hg40 ?_
      refine t_q (q_len_slice Try.runUnderlying25 rfl) ?_
      refine t_yes rfl rfl hg40 ?_
      refine t_q (q_gtr rfl rfl) ?_
      refine t_q (q_pick_f rfl hg40) ?_
      refine t_nil ?_
      refine c_cond rfl ?_ ?_
      ·
       intro hc42
       have hc42d := of_decide_eq_true hc42
       have hD : soundB x = false := sound_ent (all_not (j := j) (by omega) (decide_eq_false (by omega)))
       refine c_seq (c_region ?_)
       refine t_q (q_assign) ?_
       refine t_nil (c_ret ?_)
       refine r_one rfl rfl ?_
       rw [hD]
       exact ⟨rfl, hS.nil⟩
      ·
       intro hc42
       have hc42d := of_decide_eq_false hc42
       have hyes : entFine (x.entries.l.getD j default) = true := decide_eq_true (by omega)
       refine c_skip (c_region ?_)
       refine t_q (q_mv (.int _ _) rfl) ?_
       refine t_q (q_add_i64 rfl rfl (by omega)) ?_
       refine t_q (q_as (.int _ _) rfl) ?_
       refine t_nil ?_
       exact ⟨k - 1, by omega, j + 1, rfl, by omega, by omega, (fun i hi => by
         rcases Nat.lt_or_ge i j with h | h
         · exact hall i h
         · obtain rfl : i = j := by omega
           exact hyes), ((hS.pick (A := bmA g1 119 x) (by repeat constructor))).front1⟩
   ·
    intro hc35
    have hc35d := of_decide_eq_false hc35
    obtain rfl : j = x.entries.l.length := by omega
    have hD := sound_ev hQ (all_fine hall)
    refine c_exit ?_
    refine ite_t rfl ?_
    refine c_seq (c_region ?_)
    refine t_q (q_fieldAddr 12 Try.runUnderlying119 rfl Try.sizeOf112 (by decide) rfl rfl) ?_
    refine t_q (q_load1 Try.isAgg112 rfl (hS.cell (by repeat constructor) rfl)) ?_
    refine t_call Try.call107 (qebytes_calls (l := x.events.l) (Rd.st hx.vrd hS) hx.vin hx.vle) rfl ?_
    rintro e w ⟨A119, m119, c119, rfl, hm119, hT⟩
    refine ⟨_, rfl, ?_⟩
    have hS : St W w (_ :: _) := hS.lift hT
    refine t_q (q_mv (.tuple _) rfl) ?_
    refine t_q (q_extract rfl rfl) ?_
    refine t_q (q_extract rfl rfl) ?_
    refine t_q (q_as (.slice _ _ _) rfl) ?_
    refine t_q (q_as (.int _ _) rfl) ?_
    refine t_nil (c_seq (c_region ?_))
    refine t_q (q_mv (.int _ _) rfl) ?_
    refine t_q (q_eql rfl rfl) ?_
    refine t_q (q_as (.bool _) rfl) ?_
    refine t_nil (c_ret ?_)
    refine r_one rfl rfl ?_
    rw [hD]
    exact ⟨rfl, hS.nil⟩
end Go.Proofs.Ytlppgpidakfnlaa
