/- What who does an entry must support. -/
import Derived.Test.YtmgobaojioaioaaYa
namespace Go.Proofs.Ytmgobaojioaioaa
open Go Go.RowKit Go.Lib
variable {W : World}
attribute [local irreducible] blkA rowA rdsA mapA regA
set_option maxRecDepth 100000 in
theorem needs_calls {x : StV} {c : CmdV} {i : Int} : Calls Try.prog 29 #[.agg x.cells.toArray, .agg c.cells.toArray, .int .u64 i] W fun e w' => e = .returned (.int .u64 (needV x c.kind c.version i : Int)) ∧ St W w' [] := by
  have hS := St.init W
  have hq1 := setV_lt [(stepV x i).1.active, (stepV x i).1.shadow]
  have hq2 := bitN_lt (backV (stepV x i).1).1.active
  have hq3 := bitN_lt c.version
  refine calls_of_wpE (args := [_, _, _]) Try.func29 rfl rfl rfl ?_
  refine c_seq ?_
  refine c_region ?_
  refine t_box (v := (.agg _)) rfl rfl hS (fun g3 w hS => ?_)
  replace hS := hS.recast (show _ = blkA g3 28 [.int .i64 x.active, .int .i64 x.previous, .int .i64 x.pending, .int .u64 x.at_, .int .i64 x.shadow] from rfl)
  refine t_box (v := (.agg _)) rfl rfl hS (fun g4 w hS => ?_)
  replace hS := hS.recast (show _ = blkA g4 49 [.int .i64 c.kind, .int .u64 c.client, .int .u64 c.req, .int .i64 c.account, .int .u64 c.id, .int .i64 c.side, .int .i64 c.typ, .int .i64 c.asset, .int .i64 c.price, .int .i64 c.qty, .int .i64 c.version, .int .i64 c.replica, .int .u64 c.at_, .int .i64 c.rules.version, .slice c.rules.ticks.A c.rules.ticks.l.length c.rules.ticks.c, .int .i64 c.rules.lot, .int .i64 c.rules.band, .slice c.rules.fees.A c.rules.fees.l.length c.rules.fees.c, .int .i64 c.rules.round, .int .i64 c.rules.priority, .int .i64 c.rules.self, .int .i64 c.rules.layout] from rfl)
  refine t_q (q_assign) ?_
  refine t_nil ?_
  refine c_seq ?_
  refine c_region ?_
  refine t_q (q_cast (v' := .agg x.cells.toArray) (q_load_blk Try.isAgg28 Try.sizeOf28 rfl (hS.blk (by repeat first | exact .here _ _ | assumption | apply Pick.there)) rfl) (by rfl)) ?_
  refine t_q (q_mv (.int _ _) rfl) ?_
  refine t_call Try.call18 (step_calls (x := x) (i := i)) rfl ?_
  rintro e w ⟨rfl, hT⟩
  refine ⟨_, rfl, ?_⟩
  replace hS := hS.after hT
  refine t_q (q_mv (.tuple _) rfl) ?_
  refine t_q (q_extract rfl rfl) ?_
  refine t_q (q_extract rfl rfl) ?_
  refine t_store (v := (.agg _)) Try.sizeOf28 hS (by repeat first | exact .here _ _ | assumption | apply Pick.there) rfl rfl rfl rfl rfl rfl (fun w hS => ?_)
  replace hS := hS.recast (congrArg (blkA g3 28) (rset_full (vs := (stepV x i).1.cells) rfl))
  replace hS := hS.recast (show _ = blkA g3 28 [.int .i64 (stepV x i).1.active, .int .i64 (stepV x i).1.previous, .int .i64 (stepV x i).1.pending, .int .u64 (stepV x i).1.at_, .int .i64 (stepV x i).1.shadow] from rfl)
  refine t_nil ?_
  refine c_seq ?_
  refine c_region ?_
  refine t_q (q_fieldAddr 0 Try.runUnderlying28 rfl Try.sizeOf3 (by decide) rfl rfl) ?_
  refine t_q (q_load1 Try.isAgg3 rfl (hS.cell (by repeat first | exact .here _ _ | assumption | apply Pick.there) rfl)) ?_
  refine t_q (q_fieldAddr 4 Try.runUnderlying28 rfl Try.sizeOf3 (by decide) rfl rfl) ?_
  refine t_q (q_load1 Try.isAgg3 rfl (hS.cell (by repeat first | exact .here _ _ | assumption | apply Pick.there) rfl)) ?_
  refine t_build_ints [_, _] Try.runUnderlying59 Try.sizeOf3 Try.zeroValue3 rfl rfl (by decide) hS (fun g20 w hS => ?_)
  replace hS := hS.recast (show _ = rowA 3 1 (some ⟨g20, 0, none⟩) 2 2 (([(stepV x i).1.active, (stepV x i).1.shadow]).map (Value.int .i64)) from rfl)
  refine t_call Try.call80 (set_calls (vs := [(stepV x i).1.active, (stepV x i).1.shadow]) (hS.rowInts (ns := [(stepV x i).1.active, (stepV x i).1.shadow]) (by repeat first | exact .here _ _ | assumption | apply Pick.there) rfl) (by show (2 : Nat) ≤ _; decide)) rfl ?_
  rintro e w ⟨rfl, hT⟩
  refine ⟨_, rfl, ?_⟩
  replace hS := hS.after hT
  refine t_q (q_as (.int _ _) rfl) ?_
  refine t_nil ?_
  refine c_seq ?_
  refine c_seq ?_
  refine c_region ?_
  refine t_q (q_fieldAddr 0 Try.runUnderlying49 rfl Try.sizeOf3 (by decide) rfl rfl) ?_
  refine t_q (q_load1 Try.isAgg3 rfl (hS.cell (by repeat first | exact .here _ _ | assumption | apply Pick.there) rfl)) ?_
  refine t_nil ?_
  refine c_block ?_
  refine c_seq ?_
  refine c_block ?_
  refine c_seq ?_
  refine c_block ?_
  refine c_seq ?_
  refine c_seq ?_
  refine c_seq ?_
  refine c_region ?_
  refine t_q (q_eql rfl rfl) ?_
  refine t_q (q_as (.bool _) rfl) ?_
  refine t_nil ?_
  refine c_cond rfl ?_ ?_
  · intro hc6
    have hc6d := of_decide_eq_true hc6
    have hk14 := hc6d
    refine c_exit ?_
    refine ite_t rfl ?_
    refine c_seq ?_
    refine c_region ?_
    refine t_q (q_cast (v' := .agg (stepV x i).1.cells.toArray) (q_load_blk Try.isAgg28 Try.sizeOf28 rfl (hS.blk (by repeat first | exact .here _ _ | assumption | apply Pick.there)) rfl) (by rfl)) ?_
    refine t_call Try.call81 (back_calls (x := (stepV x i).1)) rfl ?_
    rintro e w ⟨rfl, hT⟩
    refine ⟨_, rfl, ?_⟩
    replace hS := hS.after hT
    refine t_q (q_mv (.tuple _) rfl) ?_
    refine t_q (q_extract rfl rfl) ?_
    refine t_q (q_extract rfl rfl) ?_
    refine t_alloc Try.zeroValue28 rfl hS (fun g8 w hS => ?_)
    refine t_store (v := (.agg _)) Try.sizeOf28 hS (by repeat first | exact .here _ _ | assumption | apply Pick.there) rfl rfl rfl rfl rfl rfl (fun w hS => ?_)
    replace hS := hS.recast (congrArg (blkA g8 28) (rset_full (vs := (backV (stepV x i).1).1.cells) rfl))
    replace hS := hS.recast (show _ = blkA g8 28 [.int .i64 (backV (stepV x i).1).1.active, .int .i64 (backV (stepV x i).1).1.previous, .int .i64 (backV (stepV x i).1).1.pending, .int .u64 (backV (stepV x i).1).1.at_, .int .i64 (backV (stepV x i).1).1.shadow] from rfl)
    refine t_q (q_as (.int _ _) rfl) ?_
    refine t_nil ?_
    refine c_region ?_
    refine t_q (q_fieldAddr 0 Try.runUnderlying28 rfl Try.sizeOf3 (by decide) rfl rfl) ?_
    refine t_q (q_load1 Try.isAgg3 rfl (hS.cell (by repeat first | exact .here _ _ | assumption | apply Pick.there) rfl)) ?_
    refine t_q (q_fieldAddr 10 Try.runUnderlying49 rfl Try.sizeOf3 (by decide) rfl rfl) ?_
    refine t_store (v := (.int _ _)) Try.sizeOf3 hS (by repeat first | exact .here _ _ | assumption | apply Pick.there) rfl rfl rfl rfl rfl rfl (fun w hS => ?_)
    replace hS := hS.recast (show blkA g4 49 _ = blkA g4 49 [.int .i64 c.kind, .int .u64 c.client, .int .u64 c.req, .int .i64 c.account, .int .u64 c.id, .int .i64 c.side, .int .i64 c.typ, .int .i64 c.asset, .int .i64 c.price, .int .i64 c.qty, .int .i64 (backV (stepV x i).1).1.active, .int .i64 c.replica, .int .u64 c.at_, .int .i64 c.rules.version, .slice c.rules.ticks.A c.rules.ticks.l.length c.rules.ticks.c, .int .i64 c.rules.lot, .int .i64 c.rules.band, .slice c.rules.fees.A c.rules.fees.l.length c.rules.fees.c, .int .i64 c.rules.round, .int .i64 c.rules.priority, .int .i64 c.rules.self, .int .i64 c.rules.layout] from rfl)
    refine t_nil ?_
    refine c_seq ?_
    refine c_region ?_
    refine t_q (q_mv (.int _ _) rfl) ?_
    refine t_q (q_fieldAddr 10 Try.runUnderlying49 rfl Try.sizeOf3 (by decide) rfl rfl) ?_
    refine t_q (q_load1 Try.isAgg3 rfl (hS.cell (by repeat first | exact .here _ _ | assumption | apply Pick.there) rfl)) ?_
    refine t_call Try.call71 (bit_calls) rfl ?_
    rintro e w ⟨rfl, hT⟩
    refine ⟨_, rfl, ?_⟩
    replace hS := hS.after hT
    first
      | refine t_q (q_cast (v' := .int .u64 ((setV [(stepV x i).1.active, (stepV x i).1.shadow] ||| bitN (backV (stepV x i).1).1.active : Nat) : Int)) (q_or_u64 rfl rfl (by omega) (by omega)) (by rfl)) ?_
      | refine t_q (q_cast (v' := .int .u64 ((setV [(stepV x i).1.active, (stepV x i).1.shadow] ||| bitN c.version : Nat) : Int)) (q_or_u64 rfl rfl (by omega) (by omega)) (by rfl)) ?_
    refine t_q (q_as (.int _ _) rfl) ?_
    refine t_nil ?_
    refine c_exit ?_
    refine ite_t rfl ?_
    refine c_seq ?_
    refine c_region ?_
    refine t_q (q_mv (.int _ _) rfl) ?_
    refine t_q (q_as (.int _ _) rfl) ?_
    refine t_nil ?_
    refine c_ret ?_
    refine r_one rfl rfl ?_
    unfold needV
    first
      | (rw [if_pos hk14]; exact ⟨rfl, hS.nil⟩)
      | (rw [if_neg hk14, if_pos hk11]; exact ⟨rfl, hS.nil⟩)
      | (rw [if_neg hk14, if_neg hk11, Nat.or_zero]; exact ⟨rfl, hS.nil⟩)
  · intro hc6
    have hc6d := of_decide_eq_false hc6
    have hk14 := hc6d
    refine c_skip ?_
    refine c_seq ?_
    refine c_region ?_
    refine t_q (q_eql rfl rfl) ?_
    refine t_q (q_as (.bool _) rfl) ?_
    refine t_nil ?_
    refine c_cond rfl ?_ ?_
    · intro hc12
      have hc12d := of_decide_eq_true hc12
      have hk11 := hc12d
      refine c_exit ?_
      refine ite_f (by decide) ?_
      refine ite_t rfl ?_
      refine c_seq ?_
      refine c_region ?_
      refine t_q (q_mv (.int _ _) rfl) ?_
      refine t_q (q_fieldAddr 10 Try.runUnderlying49 rfl Try.sizeOf3 (by decide) rfl rfl) ?_
      refine t_q (q_load1 Try.isAgg3 rfl (hS.cell (by repeat first | exact .here _ _ | assumption | apply Pick.there) rfl)) ?_
      refine t_call Try.call71 (bit_calls) rfl ?_
      rintro e w ⟨rfl, hT⟩
      refine ⟨_, rfl, ?_⟩
      replace hS := hS.after hT
      first
        | refine t_q (q_cast (v' := .int .u64 ((setV [(stepV x i).1.active, (stepV x i).1.shadow] ||| bitN (backV (stepV x i).1).1.active : Nat) : Int)) (q_or_u64 rfl rfl (by omega) (by omega)) (by rfl)) ?_
        | refine t_q (q_cast (v' := .int .u64 ((setV [(stepV x i).1.active, (stepV x i).1.shadow] ||| bitN c.version : Nat) : Int)) (q_or_u64 rfl rfl (by omega) (by omega)) (by rfl)) ?_
      refine t_q (q_as (.int _ _) rfl) ?_
      refine t_nil ?_
      refine c_exit ?_
      refine ite_t rfl ?_
      refine c_seq ?_
      refine c_region ?_
      refine t_q (q_mv (.int _ _) rfl) ?_
      refine t_q (q_as (.int _ _) rfl) ?_
      refine t_nil ?_
      refine c_ret ?_
      refine r_one rfl rfl ?_
      unfold needV
      first
        | (rw [if_pos hk14]; exact ⟨rfl, hS.nil⟩)
        | (rw [if_neg hk14, if_pos hk11]; exact ⟨rfl, hS.nil⟩)
        | (rw [if_neg hk14, if_neg hk11, Nat.or_zero]; exact ⟨rfl, hS.nil⟩)
    · intro hc12
      have hc12d := of_decide_eq_false hc12
      have hk11 := hc12d
      refine c_skip ?_
      refine c_exit ?_
      refine ite_f (by decide) ?_
      refine ite_f (by decide) ?_
      refine ite_t rfl ?_
      refine c_seq ?_
      refine c_region ?_
      refine t_q (q_mv (.int _ _) rfl) ?_
      refine t_q (q_as (.int _ _) rfl) ?_
      refine t_nil ?_
      refine c_ret ?_
      refine r_one rfl rfl ?_
      unfold needV
      first
        | (rw [if_pos hk14]; exact ⟨rfl, hS.nil⟩)
        | (rw [if_neg hk14, if_pos hk11]; exact ⟨rfl, hS.nil⟩)
        | (rw [if_neg hk14, if_neg hk11, Nat.or_zero]; exact ⟨rfl, hS.nil⟩)
set_option maxRecDepth 100000 in
theorem qneeds_calls {x : StV} {c : CmdV} {i : Int} : Calls Try.prog 31 #[.agg x.cells.toArray, .agg c.cells.toArray, .int .u64 i] W fun e w' => ∃ A c', e = .returned (.slice A (needL x c.kind c.version i).length c') ∧ St W w' [rowA 3 1 A ((needL x c.kind c.version i)).length c' (((needL x c.kind c.version i)).map (Value.int .i64))] := by
  have hS := St.init W
  refine calls_of_wpE (args := [_, _, _]) Try.func31 rfl rfl rfl ?_
  refine c_seq ?_
  refine c_region ?_
  refine t_box (v := (.agg _)) rfl rfl hS (fun g3 w hS => ?_)
  replace hS := hS.recast (show _ = blkA g3 35 [.int .i64 x.active, .int .i64 x.previous, .int .i64 x.pending, .int .u64 x.at_, .int .i64 x.shadow] from rfl)
  refine t_box (v := (.agg _)) rfl rfl hS (fun g4 w hS => ?_)
  replace hS := hS.recast (show _ = blkA g4 49 [.int .i64 c.kind, .int .u64 c.client, .int .u64 c.req, .int .i64 c.account, .int .u64 c.id, .int .i64 c.side, .int .i64 c.typ, .int .i64 c.asset, .int .i64 c.price, .int .i64 c.qty, .int .i64 c.version, .int .i64 c.replica, .int .u64 c.at_, .int .i64 c.rules.version, .slice c.rules.ticks.A c.rules.ticks.l.length c.rules.ticks.c, .int .i64 c.rules.lot, .int .i64 c.rules.band, .slice c.rules.fees.A c.rules.fees.l.length c.rules.fees.c, .int .i64 c.rules.round, .int .i64 c.rules.priority, .int .i64 c.rules.self, .int .i64 c.rules.layout] from rfl)
  refine t_q (q_assign) ?_
  refine t_nil ?_
  refine c_seq ?_
  refine c_region ?_
  refine t_q (q_cast (v' := .agg x.cells.toArray) (q_load_blk Try.isAgg35 Try.sizeOf35 rfl (hS.blk (by repeat first | exact .here _ _ | assumption | apply Pick.there)) rfl) (by rfl)) ?_
  refine t_q (q_mv (.int _ _) rfl) ?_
  refine t_call Try.call26 (qstep_calls (x := x) (i := i)) rfl ?_
  rintro e w ⟨rfl, hT⟩
  refine ⟨_, rfl, ?_⟩
  replace hS := hS.after hT
  refine t_q (q_mv (.tuple _) rfl) ?_
  refine t_q (q_extract rfl rfl) ?_
  refine t_q (q_extract rfl rfl) ?_
  refine t_alloc Try.zeroValue35 rfl hS (fun g7 w hS => ?_)
  refine t_store (v := (.agg _)) Try.sizeOf35 hS (by repeat first | exact .here _ _ | assumption | apply Pick.there) rfl rfl rfl rfl rfl rfl (fun w hS => ?_)
  replace hS := hS.recast (congrArg (blkA g7 35) (rset_full (vs := (stepV x i).1.cells) rfl))
  replace hS := hS.recast (show _ = blkA g7 35 [.int .i64 (stepV x i).1.active, .int .i64 (stepV x i).1.previous, .int .i64 (stepV x i).1.pending, .int .u64 (stepV x i).1.at_, .int .i64 (stepV x i).1.shadow] from rfl)
  refine t_q (q_as (.bool _) rfl) ?_
  refine t_nil ?_
  refine c_seq ?_
  refine c_region ?_
  refine t_q (q_fieldAddr 0 Try.runUnderlying35 rfl Try.sizeOf3 (by decide) rfl rfl) ?_
  refine t_q (q_load1 Try.isAgg3 rfl (hS.cell (by repeat first | exact .here _ _ | assumption | apply Pick.there) rfl)) ?_
  refine t_q (q_fieldAddr 4 Try.runUnderlying35 rfl Try.sizeOf3 (by decide) rfl rfl) ?_
  refine t_q (q_load1 Try.isAgg3 rfl (hS.cell (by repeat first | exact .here _ _ | assumption | apply Pick.there) rfl)) ?_
  refine t_build_ints [_, _] Try.runUnderlying59 Try.sizeOf3 Try.zeroValue3 rfl rfl (by decide) hS (fun g20 w hS => ?_)
  replace hS := hS.recast (show _ = rowA 3 1 (some ⟨g20, 0, none⟩) 2 2 (([(stepV x i).1.active, (stepV x i).1.shadow]).map (Value.int .i64)) from rfl)
  refine t_q (q_as (.slice _ _ _) rfl) ?_
  refine t_nil ?_
  refine c_cut [9, 21, 22, 23, 24, 25, 26, 27, 28] (fun σ w => ∃ (l1 : List Int) (A9 : Option Addr) (c9 m : Nat), σ 9 = .slice A9 m c9 ∧ m = l1.length ∧ m ≤ 3 ∧ l1 = ([(stepV x i).1.active, (stepV x i).1.shadow] ++ (if c.kind = 11 then [c.version] else [])) ∧ St W w [rowA 3 1 A9 m c9 ((l1).map (Value.int .i64)), blkA g7 35 [.int .i64 (stepV x i).1.active, .int .i64 (stepV x i).1.previous, .int .i64 (stepV x i).1.pending, .int .u64 (stepV x i).1.at_, .int .i64 (stepV x i).1.shadow], blkA g4 49 [.int .i64 c.kind, .int .u64 c.client, .int .u64 c.req, .int .i64 c.account, .int .u64 c.id, .int .i64 c.side, .int .i64 c.typ, .int .i64 c.asset, .int .i64 c.price, .int .i64 c.qty, .int .i64 c.version, .int .i64 c.replica, .int .u64 c.at_, .int .i64 c.rules.version, .slice c.rules.ticks.A c.rules.ticks.l.length c.rules.ticks.c, .int .i64 c.rules.lot, .int .i64 c.rules.band, .slice c.rules.fees.A c.rules.fees.l.length c.rules.fees.c, .int .i64 c.rules.round, .int .i64 c.rules.priority, .int .i64 c.rules.self, .int .i64 c.rules.layout]]) rfl ?_ ?_
  ·
    refine c_seq ?_
    refine c_region ?_
    refine t_q (q_fieldAddr 0 Try.runUnderlying49 rfl Try.sizeOf3 (by decide) rfl rfl) ?_
    refine t_q (q_load1 Try.isAgg3 rfl (hS.cell (by repeat first | exact .here _ _ | assumption | apply Pick.there) rfl)) ?_
    refine t_q (q_eql rfl rfl) ?_
    refine t_nil ?_
    refine c_cond rfl ?_ ?_
    · intro hc5
      have hc5d := of_decide_eq_true hc5
      have hk11 := hc5d
      refine c_region ?_
      refine t_q (q_mv (.slice _ _ _) rfl) ?_
      refine t_q (q_fieldAddr 10 Try.runUnderlying49 rfl Try.sizeOf3 (by decide) rfl rfl) ?_
      refine t_q (q_load1 Try.isAgg3 rfl (hS.cell (by repeat first | exact .here _ _ | assumption | apply Pick.there) rfl)) ?_
      refine t_build_ints [_] Try.runUnderlying59 Try.sizeOf3 Try.zeroValue3 rfl rfl (by decide) hS (fun g27 w hS => ?_)
      replace hS := hS.recast (show _ = rowA 3 1 (some ⟨g27, 0, none⟩) 1 1 (([c.version]).map (Value.int .i64)) from rfl)
      refine t_append_own (size := 1) (bytes := 8) Try.underlying59 (info_of Try.type3) rfl rfl rfl rfl (by decide) hS (by repeat first | exact .here _ _ | assumption | apply Pick.there) (by repeat first | exact .here _ _ | assumption | apply Pick.there) rfl rfl (by first | exact allOne_bv _ | exact allOne_ints _ _ | rfl) (by unfold maxLen; omega) (by omega) (fun A28 c28 w hS => ?_)
      replace hS := (hS.pick (A := rowA 3 1 A28 _ c28 _) (by repeat first | exact .here _ _ | assumption | apply Pick.there)).recast (show _ = rowA 3 1 A28 ([(stepV x i).1.active, (stepV x i).1.shadow] ++ [c.version]).length c28 (([(stepV x i).1.active, (stepV x i).1.shadow] ++ [c.version]).map (Value.int .i64)) from rfl)
      refine t_q (q_as (.slice _ _ _) rfl) ?_
      refine t_nil ?_
      first
        | exact ⟨[(stepV x i).1.active, (stepV x i).1.shadow] ++ [c.version], A28, c28, _, rfl, rfl, by decide, by rw [if_pos hk11], ((((hS.pick (A := blkA g4 49 _) (by repeat first | exact .here _ _ | assumption | apply Pick.there)).pick (A := blkA g7 35 [.int .i64 (stepV x i).1.active, .int .i64 (stepV x i).1.previous, .int .i64 (stepV x i).1.pending, .int .u64 (stepV x i).1.at_, .int .i64 (stepV x i).1.shadow]) (by repeat first | exact .here _ _ | assumption | apply Pick.there)).pick (A := rowA 3 1 A28 _ c28 _) (by repeat first | exact .here _ _ | assumption | apply Pick.there))).front3⟩
        | exact ⟨[(stepV x i).1.active, (stepV x i).1.shadow], some ⟨g20, 0, none⟩, 2, 2, rfl, rfl, by decide, by rw [if_neg hk11, List.append_nil], ((((hS.pick (A := blkA g4 49 _) (by repeat first | exact .here _ _ | assumption | apply Pick.there)).pick (A := blkA g7 35 [.int .i64 (stepV x i).1.active, .int .i64 (stepV x i).1.previous, .int .i64 (stepV x i).1.pending, .int .u64 (stepV x i).1.at_, .int .i64 (stepV x i).1.shadow]) (by repeat first | exact .here _ _ | assumption | apply Pick.there)).pick (A := rowA 3 1 (some ⟨g20, 0, none⟩) 2 2 (([(stepV x i).1.active, (stepV x i).1.shadow]).map (Value.int .i64))) (by repeat first | exact .here _ _ | assumption | apply Pick.there))).front3⟩
    · intro hc5
      have hc5d := of_decide_eq_false hc5
      have hk11 := hc5d
      refine c_skip ?_
      first
        | exact ⟨[(stepV x i).1.active, (stepV x i).1.shadow] ++ [c.version], A28, c28, _, rfl, rfl, by decide, by rw [if_pos hk11], ((((hS.pick (A := blkA g4 49 _) (by repeat first | exact .here _ _ | assumption | apply Pick.there)).pick (A := blkA g7 35 [.int .i64 (stepV x i).1.active, .int .i64 (stepV x i).1.previous, .int .i64 (stepV x i).1.pending, .int .u64 (stepV x i).1.at_, .int .i64 (stepV x i).1.shadow]) (by repeat first | exact .here _ _ | assumption | apply Pick.there)).pick (A := rowA 3 1 A28 _ c28 _) (by repeat first | exact .here _ _ | assumption | apply Pick.there))).front3⟩
        | exact ⟨[(stepV x i).1.active, (stepV x i).1.shadow], some ⟨g20, 0, none⟩, 2, 2, rfl, rfl, by decide, by rw [if_neg hk11, List.append_nil], ((((hS.pick (A := blkA g4 49 _) (by repeat first | exact .here _ _ | assumption | apply Pick.there)).pick (A := blkA g7 35 [.int .i64 (stepV x i).1.active, .int .i64 (stepV x i).1.previous, .int .i64 (stepV x i).1.pending, .int .u64 (stepV x i).1.at_, .int .i64 (stepV x i).1.shadow]) (by repeat first | exact .here _ _ | assumption | apply Pick.there)).pick (A := rowA 3 1 (some ⟨g20, 0, none⟩) 2 2 (([(stepV x i).1.active, (stepV x i).1.shadow]).map (Value.int .i64))) (by repeat first | exact .here _ _ | assumption | apply Pick.there))).front3⟩
  ·
    rintro σ w ⟨l1, A9, c9, m, h9, hm, hm3, hl1, hS⟩
    subst hm
    refine c_know 9 h9 ?_
    refine c_seq ?_
    refine c_seq ?_
    refine c_region ?_
    refine t_q (q_fieldAddr 0 Try.runUnderlying49 rfl Try.sizeOf3 (by decide) rfl rfl) ?_
    refine t_q (q_load1 Try.isAgg3 rfl (hS.cell (by repeat first | exact .here _ _ | assumption | apply Pick.there) rfl)) ?_
    refine t_q (q_eql rfl rfl) ?_
    refine t_q (q_mv (.bool _) rfl) ?_
    refine t_case 32 rfl ?_ ?_
    · intro hg7
      have hg7d := of_decide_eq_true hg7
      refine t_yes rfl rfl hg7 ?_
      refine t_q (q_fieldAddr 2 Try.runUnderlying35 rfl Try.sizeOf3 (by decide) rfl rfl) ?_
      refine t_yes rfl rfl hg7 ?_
      refine t_q (q_load1 Try.isAgg3 rfl (hS.cell (by repeat first | exact .here _ _ | assumption | apply Pick.there) rfl)) ?_
      refine t_yes rfl rfl hg7 ?_
      refine t_q (q_eql rfl rfl) ?_
      refine t_q (q_pick_t rfl hg7) ?_
      refine t_q (q_mv (.bool _) rfl) ?_
      refine t_case 37 rfl ?_ ?_
      · intro hg9
        have hg9d := of_decide_eq_true hg9
        refine t_yes rfl rfl hg9 ?_
        refine t_q (q_fieldAddr 1 Try.runUnderlying35 rfl Try.sizeOf3 (by decide) rfl rfl) ?_
        refine t_yes rfl rfl hg9 ?_
        refine t_q (q_load1 Try.isAgg3 rfl (hS.cell (by repeat first | exact .here _ _ | assumption | apply Pick.there) rfl)) ?_
        refine t_yes rfl rfl hg9 ?_
        refine t_q (q_neq rfl rfl) ?_
        refine t_q (q_pick_t rfl hg9) ?_
        refine t_nil ?_
        refine c_cond rfl ?_ ?_
        · intro hc11
          have hc11d := of_decide_eq_true hc11
          have hL : (needL x c.kind c.version i) = l1 ++ [(stepV x i).1.previous] := by rw [hl1]; unfold needL; rw [if_pos (show c.kind = 14 ∧ (stepV x i).1.pending = 0 ∧ (stepV x i).1.previous ≠ 0 by omega), List.append_assoc]
          refine c_region ?_
          refine t_q (q_mv (.slice _ _ _) rfl) ?_
          refine t_q (q_fieldAddr 1 Try.runUnderlying35 rfl Try.sizeOf3 (by decide) rfl rfl) ?_
          refine t_q (q_load1 Try.isAgg3 rfl (hS.cell (by repeat first | exact .here _ _ | assumption | apply Pick.there) rfl)) ?_
          refine t_build_ints [_] Try.runUnderlying59 Try.sizeOf3 Try.zeroValue3 rfl rfl (by decide) hS (fun g45 w hS => ?_)
          replace hS := hS.recast (show _ = rowA 3 1 (some ⟨g45, 0, none⟩) 1 1 (([(stepV x i).1.previous]).map (Value.int .i64)) from rfl)
          refine t_append_own (size := 1) (bytes := 8) Try.underlying59 (info_of Try.type3) rfl rfl rfl rfl (by decide) hS (by repeat first | exact .here _ _ | assumption | apply Pick.there) (by repeat first | exact .here _ _ | assumption | apply Pick.there) rfl rfl (by first | exact allOne_bv _ | exact allOne_ints _ _ | rfl) (by unfold maxLen; omega) (by omega) (fun A46 c46 w hS => ?_)
          replace hS := (hS.pick (A := rowA 3 1 A46 _ c46 _) (by repeat first | exact .here _ _ | assumption | apply Pick.there)).recast (show _ = rowA 3 1 A46 (l1 ++ [(stepV x i).1.previous]).length c46 ((l1 ++ [(stepV x i).1.previous]).map (Value.int .i64)) from by rw [List.length_append, List.map_append]; rfl)
          refine t_q (q_as (.slice _ _ _) rfl) ?_
          refine t_nil ?_
          refine c_seq ?_
          refine c_region ?_
          refine t_q (q_mv (.slice _ _ _) rfl) ?_
          refine t_q (q_as (.slice _ _ _) rfl) ?_
          refine t_nil ?_
          refine c_ret ?_
          refine r_one rfl rfl ?_
          rw [hL]
          first
            | exact ⟨A46, c46, (by rw [List.length_append]; rfl), (hS.pick (A := rowA 3 1 A46 _ c46 _) (by repeat first | exact .here _ _ | assumption | apply Pick.there)).front1⟩
            | exact ⟨A9, c9, rfl, (hS.pick (A := rowA 3 1 A9 _ c9 _) (by repeat first | exact .here _ _ | assumption | apply Pick.there)).front1⟩
        · intro hc11
          have hc11d := of_decide_eq_false hc11
          have hL : (needL x c.kind c.version i) = l1 := by rw [hl1]; unfold needL; rw [if_neg (show ¬ (c.kind = 14 ∧ (stepV x i).1.pending = 0 ∧ (stepV x i).1.previous ≠ 0) by omega), List.append_nil]
          refine c_skip ?_
          refine c_seq ?_
          refine c_region ?_
          refine t_q (q_mv (.slice _ _ _) rfl) ?_
          refine t_q (q_as (.slice _ _ _) rfl) ?_
          refine t_nil ?_
          refine c_ret ?_
          refine r_one rfl rfl ?_
          rw [hL]
          first
            | exact ⟨A46, c46, (by rw [List.length_append]; rfl), (hS.pick (A := rowA 3 1 A46 _ c46 _) (by repeat first | exact .here _ _ | assumption | apply Pick.there)).front1⟩
            | exact ⟨A9, c9, rfl, (hS.pick (A := rowA 3 1 A9 _ c9 _) (by repeat first | exact .here _ _ | assumption | apply Pick.there)).front1⟩
      · intro hg9
        have hg9d := of_decide_eq_false hg9
        refine t_no rfl rfl (by rw [hg9]; decide) ?_
        refine t_no rfl rfl (by rw [hg9]; decide) ?_
        refine t_no rfl rfl (by rw [hg9]; decide) ?_
        refine t_q (q_pick_f rfl hg9) ?_
        refine t_nil ?_
        refine c_cond_f rfl rfl ?_
        have hL : (needL x c.kind c.version i) = l1 := by rw [hl1]; unfold needL; rw [if_neg (show ¬ (c.kind = 14 ∧ (stepV x i).1.pending = 0 ∧ (stepV x i).1.previous ≠ 0) by omega), List.append_nil]
        refine c_skip ?_
        refine c_seq ?_
        refine c_region ?_
        refine t_q (q_mv (.slice _ _ _) rfl) ?_
        refine t_q (q_as (.slice _ _ _) rfl) ?_
        refine t_nil ?_
        refine c_ret ?_
        refine r_one rfl rfl ?_
        rw [hL]
        first
          | exact ⟨A46, c46, (by rw [List.length_append]; rfl), (hS.pick (A := rowA 3 1 A46 _ c46 _) (by repeat first | exact .here _ _ | assumption | apply Pick.there)).front1⟩
          | exact ⟨A9, c9, rfl, (hS.pick (A := rowA 3 1 A9 _ c9 _) (by repeat first | exact .here _ _ | assumption | apply Pick.there)).front1⟩
    · intro hg7
      have hg7d := of_decide_eq_false hg7
      refine t_no rfl rfl (by rw [hg7]; decide) ?_
      refine t_no rfl rfl (by rw [hg7]; decide) ?_
      refine t_no rfl rfl (by rw [hg7]; decide) ?_
      refine t_q (q_pick_f rfl hg7) ?_
      refine t_q (q_mv (.bool _) rfl) ?_
      refine t_no rfl rfl (by decide) ?_
      refine t_no rfl rfl (by decide) ?_
      refine t_no rfl rfl (by decide) ?_
      refine t_q (q_pick_f rfl rfl) ?_
      refine t_nil ?_
      refine c_cond_f rfl rfl ?_
      have hL : (needL x c.kind c.version i) = l1 := by rw [hl1]; unfold needL; rw [if_neg (show ¬ (c.kind = 14 ∧ (stepV x i).1.pending = 0 ∧ (stepV x i).1.previous ≠ 0) by omega), List.append_nil]
      refine c_skip ?_
      refine c_seq ?_
      refine c_region ?_
      refine t_q (q_mv (.slice _ _ _) rfl) ?_
      refine t_q (q_as (.slice _ _ _) rfl) ?_
      refine t_nil ?_
      refine c_ret ?_
      refine r_one rfl rfl ?_
      rw [hL]
      first
        | exact ⟨A46, c46, (by rw [List.length_append]; rfl), (hS.pick (A := rowA 3 1 A46 _ c46 _) (by repeat first | exact .here _ _ | assumption | apply Pick.there)).front1⟩
        | exact ⟨A9, c9, rfl, (hS.pick (A := rowA 3 1 A9 _ c9 _) (by repeat first | exact .here _ _ | assumption | apply Pick.there)).front1⟩
set_option maxHeartbeats 1000000 in
set_option maxRecDepth 100000 in
theorem qbits_calls {A : Option Addr} {c : Nat} {vs : List Int} (hR : RdI W .i64 A vs) (hm : vs.length ≤ 1000000) : Calls Try.prog 30 #[.slice A vs.length c] W fun e w' => e = .returned (.int .u64 (bitsK vs 32 : Int)) ∧ St W w' [] := by
  have hS := St.init W
  refine calls_of_wpE (args := [_]) Try.func30 rfl rfl rfl ?_
  refine c_seq ?_
  refine c_region ?_
  refine t_q (q_assign) ?_
  refine t_nil ?_
  refine c_seq ?_
  refine c_region ?_
  refine t_q (q_assign) ?_
  refine t_nil ?_
  refine c_seq ?_
  refine c_seq ?_
  refine c_region ?_
  refine t_q (q_assign) ?_
  refine t_nil ?_
  refine c_block ?_
  refine c_loop [3, 4, 5, 6, 7, 8, 9, 10, 11, 12, 13, 14, 15, 16, 17, 18, 19, 20, 21, 22, 23, 24, 25] (fun k σ w => ∃ kk : Nat, σ 4 = .int .i64 ((kk : Int) + 1) ∧ σ 3 = .int .u64 (bitsK vs kk : Int) ∧ kk ≤ 32 ∧ 32 - kk ≤ k ∧ St W w []) (32) rfl (⟨0, rfl, rfl, by omega, by omega, hS⟩) ?_
  skip
  rintro k σ w ⟨kk, h4, h3, hkk, hk, hS⟩
  refine c_know 4 h4 ?_
  refine c_know 3 h3 ?_
  clear h4 h3
  obtain ⟨kO, hkO⟩ : ∃ x, x = k := ⟨_, rfl⟩
  rw [← hkO] at hk
  refine c_seq ?_
  refine c_seq ?_
  refine c_region ?_
  refine t_q (q_mv (.int _ _) rfl) ?_
  refine t_q (q_leq rfl rfl) ?_
  refine t_nil ?_
  refine c_cond rfl ?_ ?_
  · intro hc2
    have hc2d := of_decide_eq_true hc2
    have hK : kk < 32 := by omega
    refine c_skip ?_
    refine c_seq ?_
    refine c_block ?_
    refine c_seq ?_
    refine c_region ?_
    refine t_q (q_assign) ?_
    refine t_nil ?_
    refine c_block ?_
    refine c_loop [3, 5, 10, 11, 12, 13, 14, 15, 16, 17, 18, 19, 20, 21, 22, 23, 24, 25] (fun k σ w => ∃ j : Nat, σ 5 = .int .i64 (j : Int) ∧ σ 3 = .int .u64 (bitsK vs kk : Int) ∧ j ≤ vs.length ∧ vs.length - j ≤ k ∧ (∀ i, i < j → vs.getD i 0 ≠ (kk : Int) + 1) ∧ St W w []) (vs.length) rfl (⟨0, rfl, rfl, by omega, by omega, (fun i h => absurd h (by omega)), hS⟩) ?_
    skip
    rintro k σ w ⟨j, h5, h3, hj, hk2, hall, hS⟩
    refine c_know 5 h5 ?_
    refine c_know 3 h3 ?_
    clear h5 h3
    refine c_seq ?_
    refine c_seq ?_
    refine c_region ?_
    refine t_q (q_mv (.int _ _) rfl) ?_
    refine t_q (q_mv (.slice _ _ _) rfl) ?_
    refine t_q (q_len_slice Try.runUnderlying59 rfl) ?_
    refine t_q (q_lss rfl rfl) ?_
    refine t_nil ?_
    refine c_cond rfl ?_ ?_
    · intro hc4
      have hc4d := of_decide_eq_true hc4
      refine c_skip ?_
      refine c_seq ?_
      refine c_block ?_
      refine c_seq ?_
      refine c_region ?_
      refine t_q (q_mv (.slice _ _ _) rfl) ?_
      refine t_q (q_mv (.int _ _) rfl) ?_
      first | refine t_index_nat Try.runUnderlying59 Try.sizeOf3 (hR.st hS) rfl rfl (by omega) (fun ad5 hl5 hx5 => ?_) | refine t_index Try.runUnderlying59 Try.sizeOf3 (hR.st hS) rfl rfl (by omega) (fun ad5 hl5 hx5 => ?_)
      refine t_q (q_cast (v' := .int .i64 (vs.getD j 0)) (q_load1 Try.isAgg3 rfl (hx5 0 _ rfl)) (rfl)) ?_
      refine t_q (q_mv (.int _ _) rfl) ?_
      refine t_q (q_eql rfl rfl) ?_
      refine t_nil ?_
      refine c_cond rfl ?_ ?_
      · intro hc7
        have hc7d := of_decide_eq_true hc7
        have hmem : (kk : Int) + 1 ∈ vs := by rw [show (kk : Int) + 1 = vs.getD j 0 by omega]; rw [List.getD_eq_getElem?_getD, List.getElem?_eq_getElem (show j < vs.length by omega)]; exact List.getElem_mem _
        have hbe := bitN_nat hK
        have hbl := bitsK_lt vs kk (by omega)
        have hpw : 2 ^ kk ≤ 2147483648 := pow31 (by omega)
        refine c_seq ?_
        refine c_region ?_
        refine t_q (q_mv (.int _ _) rfl) ?_
        refine t_q (q_mv (.int _ _) rfl) ?_
        refine t_call Try.call82 (qbit_calls) rfl ?_
        rintro e w ⟨rfl, hT⟩
        refine ⟨_, rfl, ?_⟩
        replace hS := hS.after hT
        refine t_q (q_add_u64 rfl rfl (by omega)) ?_
        refine t_q (q_as (.int _ _) rfl) ?_
        refine t_nil ?_
        refine c_exit ?_
        refine ite_f (by decide) ?_
        refine ite_t rfl ?_
        refine c_region ?_
        refine t_q (q_mv (.int _ _) rfl) ?_
        refine t_q (q_add_i64 rfl rfl (by omega)) ?_
        refine t_q (q_as (.int _ _) rfl) ?_
        refine t_nil ?_
        first
          | exact ⟨kO - 1, by omega, kk + 1, congrArg (Value.int .i64) (by omega), congrArg (Value.int .u64) (by rw [bitsK, if_pos hmem]; omega), by omega, by omega, hS.nil⟩
          | exact ⟨kO - 1, by omega, kk + 1, congrArg (Value.int .i64) (by omega), congrArg (Value.int .u64) (by rw [bitsK, if_neg hmem, Nat.add_zero]), by omega, by omega, hS.nil⟩
      · intro hc7
        have hc7d := of_decide_eq_false hc7
        have hne := hc7d
        refine c_skip ?_
        refine c_region ?_
        refine t_q (q_mv (.int _ _) rfl) ?_
        refine t_q (q_add_i64 rfl rfl (by omega)) ?_
        refine t_q (q_as (.int _ _) rfl) ?_
        refine t_nil ?_
        exact ⟨k - 1, by omega, j + 1, rfl, rfl, by omega, by omega, (fun i hi => by
          rcases Nat.lt_or_ge i j with h | h
          · exact hall i h
          · obtain rfl : i = j := by omega
            exact hne), hS.nil⟩
    · intro hc4
      have hc4d := of_decide_eq_false hc4
      have hmem : (kk : Int) + 1 ∉ vs := fun h => by
        obtain ⟨i, hi, he⟩ := List.mem_iff_getElem.1 h
        have := hall i (by omega)
        rw [List.getD_eq_getElem?_getD, List.getElem?_eq_getElem hi] at this
        exact this he
      refine c_exit ?_
      refine ite_t rfl ?_
      refine c_region ?_
      refine t_q (q_mv (.int _ _) rfl) ?_
      refine t_q (q_add_i64 rfl rfl (by omega)) ?_
      refine t_q (q_as (.int _ _) rfl) ?_
      refine t_nil ?_
      first
        | exact ⟨kO - 1, by omega, kk + 1, congrArg (Value.int .i64) (by omega), congrArg (Value.int .u64) (by rw [bitsK, if_pos hmem]; omega), by omega, by omega, hS.nil⟩
        | exact ⟨kO - 1, by omega, kk + 1, congrArg (Value.int .i64) (by omega), congrArg (Value.int .u64) (by rw [bitsK, if_neg hmem, Nat.add_zero]), by omega, by omega, hS.nil⟩
  · intro hc2
    have hc2d := of_decide_eq_false hc2
    obtain rfl : kk = 32 := by omega
    refine c_exit ?_
    refine ite_t rfl ?_
    refine c_seq ?_
    refine c_region ?_
    refine t_q (q_mv (.int _ _) rfl) ?_
    refine t_q (q_as (.int _ _) rfl) ?_
    refine t_nil ?_
    refine c_ret ?_
    refine r_one rfl rfl ?_
    exact ⟨rfl, hS.nil⟩
end Go.Proofs.Ytmgobaojioaioaa
