/- Commands with just the fields of their kind. -/
import Derived.Test.YtmgobaojioaioaaVa
namespace Go.Proofs.Ytmgobaojioaioaa
open Go Go.RowKit Go.Lib
variable {W : World}
attribute [local irreducible] blkA rowA
set_option maxRecDepth 100000 in
theorem only1_calls {w : World} {L R : List Asn} {g3 : Nat} {v m : Int} {b : Bool} (h : decide (IntKind.i64.wrap (BitVec.ofInt IntKind.i64.bits v &&& BitVec.ofInt IntKind.i64.bits m).toNat = 0) = !b) (hS : St W w L) (pk : Pick L (blkA g3 3 [.int .i64 v]) R) : Calls Try.prog 131 #[.int .i64 m, .pointer (some ⟨g3, 0, none⟩)] w fun e w' => e = .returned (.bool b) ∧ St W w' (blkA g3 3 [.int .i64 v] :: R) := by
  replace hS := hS.pick pk
  clear pk
  refine calls_of_wpE (args := [_, _]) Try.func131 rfl rfl rfl ?_
  refine c_seq ?_
  refine c_region ?_
  refine t_q (q_assign) ?_
  refine t_nil ?_
  refine c_seq ?_
  refine c_region ?_
  refine t_q (q_load1 Try.isAgg3 rfl (hS.cell (by repeat first | exact .here _ _ | assumption | apply Pick.there) rfl)) ?_
  refine t_q (q_mv (.int _ _) rfl) ?_
  refine t_q (q_and rfl rfl) ?_
  refine t_q (q_neq rfl rfl) ?_
  refine t_q (q_as (.bool _) rfl) ?_
  refine t_nil ?_
  refine c_ret ?_
  refine r_one rfl rfl ?_
  exact ⟨congrArg (fun b => Ending.returned (.bool b)) (and_ne h), hS⟩
set_option maxHeartbeats 4000000 in
set_option maxRecDepth 100000 in
theorem conly_calls {x : CmdV} : Calls Try.prog 100 #[.agg x.cells.toArray, .int .i64 (cfl x.kind)] W fun e w' => e = .returned (.agg (keepC (cfl x.kind) x).cells.toArray) ∧ St W w' [] := by
  have hS := St.init W
  refine calls_of_wpE (args := [_, _]) Try.func100 rfl rfl rfl ?_
  refine c_seq ?_
  refine c_region ?_
  refine t_box (v := (.agg _)) rfl rfl hS (fun g2 w hS => ?_)
  replace hS := hS.recast (show _ = blkA g2 49 [.int .i64 x.kind, .int .u64 x.client, .int .u64 x.req, .int .i64 x.account, .int .u64 x.id, .int .i64 x.side, .int .i64 x.typ, .int .i64 x.asset, .int .i64 x.price, .int .i64 x.qty, .int .i64 x.version, .int .i64 x.replica, .int .u64 x.at_, .int .i64 x.rules.version, .slice x.rules.ticks.A x.rules.ticks.l.length x.rules.ticks.c, .int .i64 x.rules.lot, .int .i64 x.rules.band, .slice x.rules.fees.A x.rules.fees.l.length x.rules.fees.c, .int .i64 x.rules.round, .int .i64 x.rules.priority, .int .i64 x.rules.self, .int .i64 x.rules.layout] from rfl)
  refine t_box (v := (.int _ _)) rfl rfl hS (fun g3 w hS => ?_)
  replace hS := hS.recast (show blkA g3 3 _ = blkA g3 3 [.int .i64 (cfl x.kind)] from rfl)
  refine t_alloc Try.zeroValue49 rfl hS (fun g4 w hS => ?_)
  refine t_nil ?_
  refine c_seq ?_
  refine c_region ?_
  refine t_q (q_fieldAddr 0 Try.runUnderlying49 rfl Try.sizeOf3 (by decide) rfl rfl) ?_
  refine t_q (q_load1 Try.isAgg3 rfl (hS.cell (by repeat first | exact .here _ _ | assumption | apply Pick.there) rfl)) ?_
  refine t_q (q_fieldAddr 1 Try.runUnderlying49 rfl Try.sizeOf26 (by decide) rfl rfl) ?_
  refine t_q (q_load1 Try.isAgg26 rfl (hS.cell (by repeat first | exact .here _ _ | assumption | apply Pick.there) rfl)) ?_
  refine t_q (q_fieldAddr 2 Try.runUnderlying49 rfl Try.sizeOf26 (by decide) rfl rfl) ?_
  refine t_q (q_load1 Try.isAgg26 rfl (hS.cell (by repeat first | exact .here _ _ | assumption | apply Pick.there) rfl)) ?_
  refine t_q (q_build (qs := [(0, 1), (1, 1), (2, 1), (3, 1), (4, 1), (5, 1), (6, 1), (7, 1), (8, 1), (9, 1), (10, 1), (11, 1), (12, 1), (13, 9)]) [(.int _ _), (.int _ _), (.int _ _), (.int _ _), (.int _ _), (.int _ _), (.int _ _), (.int _ _), (.int _ _), (.int _ _), (.int _ _), (.int _ _), (.int _ _), (.int _ _), (.slice _ _ _), (.int _ _), (.int _ _), (.slice _ _ _), (.int _ _), (.int _ _), (.int _ _), (.int _ _)] Try.zeroValue49 Try.runUnderlying49 ⟨rfl, Try.sizeOf3, rfl, Try.sizeOf26, rfl, Try.sizeOf26, rfl, Try.sizeOf3, rfl, Try.sizeOf26, rfl, Try.sizeOf3, rfl, Try.sizeOf3, rfl, Try.sizeOf3, rfl, Try.sizeOf2, rfl, Try.sizeOf2, rfl, Try.sizeOf3, rfl, Try.sizeOf3, rfl, Try.sizeOf26, rfl, Try.sizeOf47, trivial⟩ rfl rfl) ?_
  refine t_alloc Try.zeroValue49 rfl hS (fun g5 w hS => ?_)
  refine t_store (v := (.agg _)) Try.sizeOf49 hS (by repeat first | exact .here _ _ | assumption | apply Pick.there) rfl rfl rfl rfl rfl rfl (fun w hS => ?_)
  replace hS := hS.recast (congrArg (blkA g5 49) (setN_full (vs := [.int .i64 x.kind, .int .u64 x.client, .int .u64 x.req, .int .i64 0, .int .u64 0, .int .i64 0, .int .i64 0, .int .i64 0, .int .i64 0, .int .i64 0, .int .i64 0, .int .i64 0, .int .u64 0, .int .i64 0, .slice none 0 0, .int .i64 0, .int .i64 0, .slice none 0 0, .int .i64 0, .int .i64 0, .int .i64 0, .int .i64 0]) rfl))
  refine t_nil ?_
  refine c_seq ?_
  refine c_region ?_
  refine t_q (q_makeFunc rfl) ?_
  refine t_q (q_as (.func _ _ _) rfl) ?_
  refine t_nil ?_
  refine c_cut [15, 16, 17, 18, 19] (fun σ w => St W w [blkA g5 49 [.int .i64 x.kind, .int .u64 x.client, .int .u64 x.req, .int .i64 (if hasC (cfl x.kind) 1 then x.account else 0), .int .u64 0, .int .i64 0, .int .i64 0, .int .i64 0, .int .i64 0, .int .i64 0, .int .i64 0, .int .i64 0, .int .u64 0, .int .i64 0, .slice none 0 0, .int .i64 0, .int .i64 0, .slice none 0 0, .int .i64 0, .int .i64 0, .int .i64 0, .int .i64 0], blkA g3 3 [.int .i64 (cfl x.kind)], blkA g2 49 [.int .i64 x.kind, .int .u64 x.client, .int .u64 x.req, .int .i64 x.account, .int .u64 x.id, .int .i64 x.side, .int .i64 x.typ, .int .i64 x.asset, .int .i64 x.price, .int .i64 x.qty, .int .i64 x.version, .int .i64 x.replica, .int .u64 x.at_, .int .i64 x.rules.version, .slice x.rules.ticks.A x.rules.ticks.l.length x.rules.ticks.c, .int .i64 x.rules.lot, .int .i64 x.rules.band, .slice x.rules.fees.A x.rules.fees.l.length x.rules.fees.c, .int .i64 x.rules.round, .int .i64 x.rules.priority, .int .i64 x.rules.self, .int .i64 x.rules.layout], blkA g4 49 [.int .i64 0, .int .u64 0, .int .u64 0, .int .i64 0, .int .u64 0, .int .i64 0, .int .i64 0, .int .i64 0, .int .i64 0, .int .i64 0, .int .i64 0, .int .i64 0, .int .u64 0, .int .i64 0, .slice none 0 0, .int .i64 0, .int .i64 0, .slice none 0 0, .int .i64 0, .int .i64 0, .int .i64 0, .int .i64 0]]) rfl ?_ ?_
  ·
    refine c_seq ?_
    refine c_region ?_
    refine t_q (q_mv (.func _ _ _) rfl) ?_
    refine t_callv Try.call131 rfl (only1_calls (m := 1) (b := hasC (cfl x.kind) 1) (and_cfl_1 _) hS (by repeat first | exact .here _ _ | assumption | apply Pick.there)) rfl ?_
    rintro e w ⟨rfl, hS⟩
    refine ⟨_, rfl, ?_⟩
    refine t_nil ?_
    refine c_cond rfl ?_ ?_
    · intro hc2
      have hb1 : hasC (cfl x.kind) 1 = true := hc2
      refine c_region ?_
      refine t_q (q_fieldAddr 3 Try.runUnderlying49 rfl Try.sizeOf3 (by decide) rfl rfl) ?_
      refine t_q (q_load1 Try.isAgg3 rfl (hS.cell (by repeat first | exact .here _ _ | assumption | apply Pick.there) rfl)) ?_
      refine t_q (q_fieldAddr 3 Try.runUnderlying49 rfl Try.sizeOf3 (by decide) rfl rfl) ?_
      refine t_store (v := (.int _ _)) Try.sizeOf3 hS (by repeat first | exact .here _ _ | assumption | apply Pick.there) rfl rfl rfl rfl rfl rfl (fun w hS => ?_)
      replace hS := hS.recast (show blkA g5 49 _ = blkA g5 49 [.int .i64 x.kind, .int .u64 x.client, .int .u64 x.req, .int .i64 x.account, .int .u64 0, .int .i64 0, .int .i64 0, .int .i64 0, .int .i64 0, .int .i64 0, .int .i64 0, .int .i64 0, .int .u64 0, .int .i64 0, .slice none 0 0, .int .i64 0, .int .i64 0, .slice none 0 0, .int .i64 0, .int .i64 0, .int .i64 0, .int .i64 0] from rfl)
      refine t_nil ?_
      rw [hb1]
      exact (((((hS.pick (A := blkA g4 49 _) (by repeat first | exact .here _ _ | assumption | apply Pick.there)).pick (A := blkA g2 49 [.int .i64 x.kind, .int .u64 x.client, .int .u64 x.req, .int .i64 x.account, .int .u64 x.id, .int .i64 x.side, .int .i64 x.typ, .int .i64 x.asset, .int .i64 x.price, .int .i64 x.qty, .int .i64 x.version, .int .i64 x.replica, .int .u64 x.at_, .int .i64 x.rules.version, .slice x.rules.ticks.A x.rules.ticks.l.length x.rules.ticks.c, .int .i64 x.rules.lot, .int .i64 x.rules.band, .slice x.rules.fees.A x.rules.fees.l.length x.rules.fees.c, .int .i64 x.rules.round, .int .i64 x.rules.priority, .int .i64 x.rules.self, .int .i64 x.rules.layout]) (by repeat first | exact .here _ _ | assumption | apply Pick.there)).pick (A := blkA g3 3 [.int .i64 (cfl x.kind)]) (by repeat first | exact .here _ _ | assumption | apply Pick.there)).pick (A := blkA g5 49 _) (by repeat first | exact .here _ _ | assumption | apply Pick.there))).front4
    · intro hc2
      have hb1 : hasC (cfl x.kind) 1 = false := hc2
      refine c_skip ?_
      rw [hb1]
      exact (((((hS.pick (A := blkA g4 49 _) (by repeat first | exact .here _ _ | assumption | apply Pick.there)).pick (A := blkA g2 49 [.int .i64 x.kind, .int .u64 x.client, .int .u64 x.req, .int .i64 x.account, .int .u64 x.id, .int .i64 x.side, .int .i64 x.typ, .int .i64 x.asset, .int .i64 x.price, .int .i64 x.qty, .int .i64 x.version, .int .i64 x.replica, .int .u64 x.at_, .int .i64 x.rules.version, .slice x.rules.ticks.A x.rules.ticks.l.length x.rules.ticks.c, .int .i64 x.rules.lot, .int .i64 x.rules.band, .slice x.rules.fees.A x.rules.fees.l.length x.rules.fees.c, .int .i64 x.rules.round, .int .i64 x.rules.priority, .int .i64 x.rules.self, .int .i64 x.rules.layout]) (by repeat first | exact .here _ _ | assumption | apply Pick.there)).pick (A := blkA g3 3 [.int .i64 (cfl x.kind)]) (by repeat first | exact .here _ _ | assumption | apply Pick.there)).pick (A := blkA g5 49 _) (by repeat first | exact .here _ _ | assumption | apply Pick.there))).front4
  ·
    rintro σ w hS
    refine c_cut [20, 21, 22, 23, 24] (fun σ w => St W w [blkA g5 49 [.int .i64 x.kind, .int .u64 x.client, .int .u64 x.req, .int .i64 (if hasC (cfl x.kind) 1 then x.account else 0), .int .u64 (if hasC (cfl x.kind) 2 then x.id else 0), .int .i64 0, .int .i64 0, .int .i64 0, .int .i64 0, .int .i64 0, .int .i64 0, .int .i64 0, .int .u64 0, .int .i64 0, .slice none 0 0, .int .i64 0, .int .i64 0, .slice none 0 0, .int .i64 0, .int .i64 0, .int .i64 0, .int .i64 0], blkA g3 3 [.int .i64 (cfl x.kind)], blkA g2 49 [.int .i64 x.kind, .int .u64 x.client, .int .u64 x.req, .int .i64 x.account, .int .u64 x.id, .int .i64 x.side, .int .i64 x.typ, .int .i64 x.asset, .int .i64 x.price, .int .i64 x.qty, .int .i64 x.version, .int .i64 x.replica, .int .u64 x.at_, .int .i64 x.rules.version, .slice x.rules.ticks.A x.rules.ticks.l.length x.rules.ticks.c, .int .i64 x.rules.lot, .int .i64 x.rules.band, .slice x.rules.fees.A x.rules.fees.l.length x.rules.fees.c, .int .i64 x.rules.round, .int .i64 x.rules.priority, .int .i64 x.rules.self, .int .i64 x.rules.layout], blkA g4 49 [.int .i64 0, .int .u64 0, .int .u64 0, .int .i64 0, .int .u64 0, .int .i64 0, .int .i64 0, .int .i64 0, .int .i64 0, .int .i64 0, .int .i64 0, .int .i64 0, .int .u64 0, .int .i64 0, .slice none 0 0, .int .i64 0, .int .i64 0, .slice none 0 0, .int .i64 0, .int .i64 0, .int .i64 0, .int .i64 0]]) rfl ?_ ?_
    ·
      refine c_seq ?_
      refine c_region ?_
      refine t_q (q_mv (.func _ _ _) rfl) ?_
      refine t_callv Try.call131 rfl (only1_calls (m := 2) (b := hasC (cfl x.kind) 2) (and_cfl_2 _) hS (by repeat first | exact .here _ _ | assumption | apply Pick.there)) rfl ?_
      rintro e w ⟨rfl, hS⟩
      refine ⟨_, rfl, ?_⟩
      refine t_nil ?_
      refine c_cond rfl ?_ ?_
      · intro hc4
        have hb2 : hasC (cfl x.kind) 2 = true := hc4
        refine c_region ?_
        refine t_q (q_fieldAddr 4 Try.runUnderlying49 rfl Try.sizeOf26 (by decide) rfl rfl) ?_
        refine t_q (q_load1 Try.isAgg26 rfl (hS.cell (by repeat first | exact .here _ _ | assumption | apply Pick.there) rfl)) ?_
        refine t_q (q_fieldAddr 4 Try.runUnderlying49 rfl Try.sizeOf26 (by decide) rfl rfl) ?_
        refine t_store (v := (.int _ _)) Try.sizeOf26 hS (by repeat first | exact .here _ _ | assumption | apply Pick.there) rfl rfl rfl rfl rfl rfl (fun w hS => ?_)
        replace hS := hS.recast (show blkA g5 49 _ = blkA g5 49 [.int .i64 x.kind, .int .u64 x.client, .int .u64 x.req, .int .i64 (if hasC (cfl x.kind) 1 then x.account else 0), .int .u64 x.id, .int .i64 0, .int .i64 0, .int .i64 0, .int .i64 0, .int .i64 0, .int .i64 0, .int .i64 0, .int .u64 0, .int .i64 0, .slice none 0 0, .int .i64 0, .int .i64 0, .slice none 0 0, .int .i64 0, .int .i64 0, .int .i64 0, .int .i64 0] from rfl)
        refine t_nil ?_
        rw [hb2]
        exact (((((hS.pick (A := blkA g4 49 _) (by repeat first | exact .here _ _ | assumption | apply Pick.there)).pick (A := blkA g2 49 [.int .i64 x.kind, .int .u64 x.client, .int .u64 x.req, .int .i64 x.account, .int .u64 x.id, .int .i64 x.side, .int .i64 x.typ, .int .i64 x.asset, .int .i64 x.price, .int .i64 x.qty, .int .i64 x.version, .int .i64 x.replica, .int .u64 x.at_, .int .i64 x.rules.version, .slice x.rules.ticks.A x.rules.ticks.l.length x.rules.ticks.c, .int .i64 x.rules.lot, .int .i64 x.rules.band, .slice x.rules.fees.A x.rules.fees.l.length x.rules.fees.c, .int .i64 x.rules.round, .int .i64 x.rules.priority, .int .i64 x.rules.self, .int .i64 x.rules.layout]) (by repeat first | exact .here _ _ | assumption | apply Pick.there)).pick (A := blkA g3 3 [.int .i64 (cfl x.kind)]) (by repeat first | exact .here _ _ | assumption | apply Pick.there)).pick (A := blkA g5 49 _) (by repeat first | exact .here _ _ | assumption | apply Pick.there))).front4
      · intro hc4
        have hb2 : hasC (cfl x.kind) 2 = false := hc4
        refine c_skip ?_
        rw [hb2]
        exact (((((hS.pick (A := blkA g4 49 _) (by repeat first | exact .here _ _ | assumption | apply Pick.there)).pick (A := blkA g2 49 [.int .i64 x.kind, .int .u64 x.client, .int .u64 x.req, .int .i64 x.account, .int .u64 x.id, .int .i64 x.side, .int .i64 x.typ, .int .i64 x.asset, .int .i64 x.price, .int .i64 x.qty, .int .i64 x.version, .int .i64 x.replica, .int .u64 x.at_, .int .i64 x.rules.version, .slice x.rules.ticks.A x.rules.ticks.l.length x.rules.ticks.c, .int .i64 x.rules.lot, .int .i64 x.rules.band, .slice x.rules.fees.A x.rules.fees.l.length x.rules.fees.c, .int .i64 x.rules.round, .int .i64 x.rules.priority, .int .i64 x.rules.self, .int .i64 x.rules.layout]) (by repeat first | exact .here _ _ | assumption | apply Pick.there)).pick (A := blkA g3 3 [.int .i64 (cfl x.kind)]) (by repeat first | exact .here _ _ | assumption | apply Pick.there)).pick (A := blkA g5 49 _) (by repeat first | exact .here _ _ | assumption | apply Pick.there))).front4
    ·
      rintro σ w hS
      refine c_cut [25, 26, 27, 28, 29, 30, 31, 32] (fun σ w => St W w [blkA g5 49 [.int .i64 x.kind, .int .u64 x.client, .int .u64 x.req, .int .i64 (if hasC (cfl x.kind) 1 then x.account else 0), .int .u64 (if hasC (cfl x.kind) 2 then x.id else 0), .int .i64 (if hasC (cfl x.kind) 4 then x.side else 0), .int .i64 (if hasC (cfl x.kind) 4 then x.typ else 0), .int .i64 0, .int .i64 0, .int .i64 0, .int .i64 0, .int .i64 0, .int .u64 0, .int .i64 0, .slice none 0 0, .int .i64 0, .int .i64 0, .slice none 0 0, .int .i64 0, .int .i64 0, .int .i64 0, .int .i64 0], blkA g3 3 [.int .i64 (cfl x.kind)], blkA g2 49 [.int .i64 x.kind, .int .u64 x.client, .int .u64 x.req, .int .i64 x.account, .int .u64 x.id, .int .i64 x.side, .int .i64 x.typ, .int .i64 x.asset, .int .i64 x.price, .int .i64 x.qty, .int .i64 x.version, .int .i64 x.replica, .int .u64 x.at_, .int .i64 x.rules.version, .slice x.rules.ticks.A x.rules.ticks.l.length x.rules.ticks.c, .int .i64 x.rules.lot, .int .i64 x.rules.band, .slice x.rules.fees.A x.rules.fees.l.length x.rules.fees.c, .int .i64 x.rules.round, .int .i64 x.rules.priority, .int .i64 x.rules.self, .int .i64 x.rules.layout], blkA g4 49 [.int .i64 0, .int .u64 0, .int .u64 0, .int .i64 0, .int .u64 0, .int .i64 0, .int .i64 0, .int .i64 0, .int .i64 0, .int .i64 0, .int .i64 0, .int .i64 0, .int .u64 0, .int .i64 0, .slice none 0 0, .int .i64 0, .int .i64 0, .slice none 0 0, .int .i64 0, .int .i64 0, .int .i64 0, .int .i64 0]]) rfl ?_ ?_
      ·
        refine c_seq ?_
        refine c_region ?_
        refine t_q (q_mv (.func _ _ _) rfl) ?_
        refine t_callv Try.call131 rfl (only1_calls (m := 4) (b := hasC (cfl x.kind) 4) (and_cfl_4 _) hS (by repeat first | exact .here _ _ | assumption | apply Pick.there)) rfl ?_
        rintro e w ⟨rfl, hS⟩
        refine ⟨_, rfl, ?_⟩
        refine t_nil ?_
        refine c_cond rfl ?_ ?_
        · intro hc6
          have hb4 : hasC (cfl x.kind) 4 = true := hc6
          refine c_draw ?_
          refine d_keep (blkA g2 49 [.int .i64 x.kind, .int .u64 x.client, .int .u64 x.req, .int .i64 x.account, .int .u64 x.id, .int .i64 x.side, .int .i64 x.typ, .int .i64 x.asset, .int .i64 x.price, .int .i64 x.qty, .int .i64 x.version, .int .i64 x.replica, .int .u64 x.at_, .int .i64 x.rules.version, .slice x.rules.ticks.A x.rules.ticks.l.length x.rules.ticks.c, .int .i64 x.rules.lot, .int .i64 x.rules.band, .slice x.rules.fees.A x.rules.fees.l.length x.rules.fees.c, .int .i64 x.rules.round, .int .i64 x.rules.priority, .int .i64 x.rules.self, .int .i64 x.rules.layout]) 8 [0, 1, 2, 3, 4, 5, 6, 7] [0, 1, 4, 5, 2, 3, 6, 7] hS rfl (by kernel_rfl) (by kernel_rfl) (by kernel_rfl) (by kernel_rfl) (fun hap hsel w hS => ?_)
          refine p_q hap hsel 0 rfl rfl ⟨_, hS.pick (by repeat first | exact .here _ _ | assumption | apply Pick.there)⟩ (fun w hI => q_fieldAddr 5 Try.runUnderlying49 rfl Try.sizeOf3 (by decide) rfl rfl) ?_
          refine p_q hap hsel 1 rfl rfl ⟨_, hS.pick (by repeat first | exact .here _ _ | assumption | apply Pick.there)⟩ (fun w hI => q_load1 Try.isAgg3 rfl (hI.choose_spec.cell (by repeat first | exact .here _ _ | assumption | apply Pick.there) rfl)) ?_
          refine p_q hap hsel 2 rfl rfl ⟨_, hS.pick (by repeat first | exact .here _ _ | assumption | apply Pick.there)⟩ (fun w hI => q_fieldAddr 6 Try.runUnderlying49 rfl Try.sizeOf3 (by decide) rfl rfl) ?_
          refine p_q hap hsel 3 rfl rfl ⟨_, hS.pick (by repeat first | exact .here _ _ | assumption | apply Pick.there)⟩ (fun w hI => q_load1 Try.isAgg3 rfl (hI.choose_spec.cell (by repeat first | exact .here _ _ | assumption | apply Pick.there) rfl)) ?_
          refine p_q hap hsel 4 rfl rfl ⟨_, hS.pick (by repeat first | exact .here _ _ | assumption | apply Pick.there)⟩ (fun w hI => q_fieldAddr 5 Try.runUnderlying49 rfl Try.sizeOf3 (by decide) rfl rfl) ?_
          refine p_one 5 rfl (by kernel_rfl) ?_
          refine t_store (v := (.int _ _)) Try.sizeOf3 hS (by repeat first | exact .here _ _ | assumption | apply Pick.there) rfl rfl rfl rfl rfl rfl (fun w hS => ?_)
          replace hS := hS.recast (show blkA g5 49 _ = blkA g5 49 [.int .i64 x.kind, .int .u64 x.client, .int .u64 x.req, .int .i64 (if hasC (cfl x.kind) 1 then x.account else 0), .int .u64 (if hasC (cfl x.kind) 2 then x.id else 0), .int .i64 x.side, .int .i64 0, .int .i64 0, .int .i64 0, .int .i64 0, .int .i64 0, .int .i64 0, .int .u64 0, .int .i64 0, .slice none 0 0, .int .i64 0, .int .i64 0, .slice none 0 0, .int .i64 0, .int .i64 0, .int .i64 0, .int .i64 0] from rfl)
          refine t_nil ?_
          refine ⟨.inr ⟨_, hS.pick (by repeat first | exact .here _ _ | assumption | apply Pick.there)⟩, ?_⟩
          refine p_q hap hsel 6 rfl rfl ⟨_, hS.pick (by repeat first | exact .here _ _ | assumption | apply Pick.there)⟩ (fun w hI => q_fieldAddr 6 Try.runUnderlying49 rfl Try.sizeOf3 (by decide) rfl rfl) ?_
          refine p_one 7 rfl (by kernel_rfl) ?_
          refine t_store (v := (.int _ _)) Try.sizeOf3 hS (by repeat first | exact .here _ _ | assumption | apply Pick.there) rfl rfl rfl rfl rfl rfl (fun w hS => ?_)
          replace hS := hS.recast (show blkA g5 49 _ = blkA g5 49 [.int .i64 x.kind, .int .u64 x.client, .int .u64 x.req, .int .i64 (if hasC (cfl x.kind) 1 then x.account else 0), .int .u64 (if hasC (cfl x.kind) 2 then x.id else 0), .int .i64 x.side, .int .i64 x.typ, .int .i64 0, .int .i64 0, .int .i64 0, .int .i64 0, .int .i64 0, .int .u64 0, .int .i64 0, .slice none 0 0, .int .i64 0, .int .i64 0, .slice none 0 0, .int .i64 0, .int .i64 0, .int .i64 0, .int .i64 0] from rfl)
          refine t_nil ?_
          refine ⟨.inl (by kernel_rfl), ?_⟩
          refine p_end (by kernel_rfl) ?_
          rw [hb4]
          exact (((((hS.pick (A := blkA g4 49 _) (by repeat first | exact .here _ _ | assumption | apply Pick.there)).pick (A := blkA g2 49 [.int .i64 x.kind, .int .u64 x.client, .int .u64 x.req, .int .i64 x.account, .int .u64 x.id, .int .i64 x.side, .int .i64 x.typ, .int .i64 x.asset, .int .i64 x.price, .int .i64 x.qty, .int .i64 x.version, .int .i64 x.replica, .int .u64 x.at_, .int .i64 x.rules.version, .slice x.rules.ticks.A x.rules.ticks.l.length x.rules.ticks.c, .int .i64 x.rules.lot, .int .i64 x.rules.band, .slice x.rules.fees.A x.rules.fees.l.length x.rules.fees.c, .int .i64 x.rules.round, .int .i64 x.rules.priority, .int .i64 x.rules.self, .int .i64 x.rules.layout]) (by repeat first | exact .here _ _ | assumption | apply Pick.there)).pick (A := blkA g3 3 [.int .i64 (cfl x.kind)]) (by repeat first | exact .here _ _ | assumption | apply Pick.there)).pick (A := blkA g5 49 _) (by repeat first | exact .here _ _ | assumption | apply Pick.there))).front4
        · intro hc6
          have hb4 : hasC (cfl x.kind) 4 = false := hc6
          refine c_skip ?_
          rw [hb4]
          exact (((((hS.pick (A := blkA g4 49 _) (by repeat first | exact .here _ _ | assumption | apply Pick.there)).pick (A := blkA g2 49 [.int .i64 x.kind, .int .u64 x.client, .int .u64 x.req, .int .i64 x.account, .int .u64 x.id, .int .i64 x.side, .int .i64 x.typ, .int .i64 x.asset, .int .i64 x.price, .int .i64 x.qty, .int .i64 x.version, .int .i64 x.replica, .int .u64 x.at_, .int .i64 x.rules.version, .slice x.rules.ticks.A x.rules.ticks.l.length x.rules.ticks.c, .int .i64 x.rules.lot, .int .i64 x.rules.band, .slice x.rules.fees.A x.rules.fees.l.length x.rules.fees.c, .int .i64 x.rules.round, .int .i64 x.rules.priority, .int .i64 x.rules.self, .int .i64 x.rules.layout]) (by repeat first | exact .here _ _ | assumption | apply Pick.there)).pick (A := blkA g3 3 [.int .i64 (cfl x.kind)]) (by repeat first | exact .here _ _ | assumption | apply Pick.there)).pick (A := blkA g5 49 _) (by repeat first | exact .here _ _ | assumption | apply Pick.there))).front4
      ·
        rintro σ w hS
        refine c_cut [33, 34, 35, 36, 37] (fun σ w => St W w [blkA g5 49 [.int .i64 x.kind, .int .u64 x.client, .int .u64 x.req, .int .i64 (if hasC (cfl x.kind) 1 then x.account else 0), .int .u64 (if hasC (cfl x.kind) 2 then x.id else 0), .int .i64 (if hasC (cfl x.kind) 4 then x.side else 0), .int .i64 (if hasC (cfl x.kind) 4 then x.typ else 0), .int .i64 (if hasC (cfl x.kind) 16 then x.asset else 0), .int .i64 0, .int .i64 0, .int .i64 0, .int .i64 0, .int .u64 0, .int .i64 0, .slice none 0 0, .int .i64 0, .int .i64 0, .slice none 0 0, .int .i64 0, .int .i64 0, .int .i64 0, .int .i64 0], blkA g3 3 [.int .i64 (cfl x.kind)], blkA g2 49 [.int .i64 x.kind, .int .u64 x.client, .int .u64 x.req, .int .i64 x.account, .int .u64 x.id, .int .i64 x.side, .int .i64 x.typ, .int .i64 x.asset, .int .i64 x.price, .int .i64 x.qty, .int .i64 x.version, .int .i64 x.replica, .int .u64 x.at_, .int .i64 x.rules.version, .slice x.rules.ticks.A x.rules.ticks.l.length x.rules.ticks.c, .int .i64 x.rules.lot, .int .i64 x.rules.band, .slice x.rules.fees.A x.rules.fees.l.length x.rules.fees.c, .int .i64 x.rules.round, .int .i64 x.rules.priority, .int .i64 x.rules.self, .int .i64 x.rules.layout], blkA g4 49 [.int .i64 0, .int .u64 0, .int .u64 0, .int .i64 0, .int .u64 0, .int .i64 0, .int .i64 0, .int .i64 0, .int .i64 0, .int .i64 0, .int .i64 0, .int .i64 0, .int .u64 0, .int .i64 0, .slice none 0 0, .int .i64 0, .int .i64 0, .slice none 0 0, .int .i64 0, .int .i64 0, .int .i64 0, .int .i64 0]]) rfl ?_ ?_
        ·
          refine c_seq ?_
          refine c_region ?_
          refine t_q (q_mv (.func _ _ _) rfl) ?_
          refine t_callv Try.call131 rfl (only1_calls (m := 16) (b := hasC (cfl x.kind) 16) (and_cfl_16 _) hS (by repeat first | exact .here _ _ | assumption | apply Pick.there)) rfl ?_
          rintro e w ⟨rfl, hS⟩
          refine ⟨_, rfl, ?_⟩
          refine t_nil ?_
          refine c_cond rfl ?_ ?_
          · intro hc8
            have hb16 : hasC (cfl x.kind) 16 = true := hc8
            refine c_region ?_
            refine t_q (q_fieldAddr 7 Try.runUnderlying49 rfl Try.sizeOf3 (by decide) rfl rfl) ?_
            refine t_q (q_load1 Try.isAgg3 rfl (hS.cell (by repeat first | exact .here _ _ | assumption | apply Pick.there) rfl)) ?_
            refine t_q (q_fieldAddr 7 Try.runUnderlying49 rfl Try.sizeOf3 (by decide) rfl rfl) ?_
            refine t_store (v := (.int _ _)) Try.sizeOf3 hS (by repeat first | exact .here _ _ | assumption | apply Pick.there) rfl rfl rfl rfl rfl rfl (fun w hS => ?_)
            replace hS := hS.recast (show blkA g5 49 _ = blkA g5 49 [.int .i64 x.kind, .int .u64 x.client, .int .u64 x.req, .int .i64 (if hasC (cfl x.kind) 1 then x.account else 0), .int .u64 (if hasC (cfl x.kind) 2 then x.id else 0), .int .i64 (if hasC (cfl x.kind) 4 then x.side else 0), .int .i64 (if hasC (cfl x.kind) 4 then x.typ else 0), .int .i64 x.asset, .int .i64 0, .int .i64 0, .int .i64 0, .int .i64 0, .int .u64 0, .int .i64 0, .slice none 0 0, .int .i64 0, .int .i64 0, .slice none 0 0, .int .i64 0, .int .i64 0, .int .i64 0, .int .i64 0] from rfl)
            refine t_nil ?_
            rw [hb16]
            exact (((((hS.pick (A := blkA g4 49 _) (by repeat first | exact .here _ _ | assumption | apply Pick.there)).pick (A := blkA g2 49 [.int .i64 x.kind, .int .u64 x.client, .int .u64 x.req, .int .i64 x.account, .int .u64 x.id, .int .i64 x.side, .int .i64 x.typ, .int .i64 x.asset, .int .i64 x.price, .int .i64 x.qty, .int .i64 x.version, .int .i64 x.replica, .int .u64 x.at_, .int .i64 x.rules.version, .slice x.rules.ticks.A x.rules.ticks.l.length x.rules.ticks.c, .int .i64 x.rules.lot, .int .i64 x.rules.band, .slice x.rules.fees.A x.rules.fees.l.length x.rules.fees.c, .int .i64 x.rules.round, .int .i64 x.rules.priority, .int .i64 x.rules.self, .int .i64 x.rules.layout]) (by repeat first | exact .here _ _ | assumption | apply Pick.there)).pick (A := blkA g3 3 [.int .i64 (cfl x.kind)]) (by repeat first | exact .here _ _ | assumption | apply Pick.there)).pick (A := blkA g5 49 _) (by repeat first | exact .here _ _ | assumption | apply Pick.there))).front4
          · intro hc8
            have hb16 : hasC (cfl x.kind) 16 = false := hc8
            refine c_skip ?_
            rw [hb16]
            exact (((((hS.pick (A := blkA g4 49 _) (by repeat first | exact .here _ _ | assumption | apply Pick.there)).pick (A := blkA g2 49 [.int .i64 x.kind, .int .u64 x.client, .int .u64 x.req, .int .i64 x.account, .int .u64 x.id, .int .i64 x.side, .int .i64 x.typ, .int .i64 x.asset, .int .i64 x.price, .int .i64 x.qty, .int .i64 x.version, .int .i64 x.replica, .int .u64 x.at_, .int .i64 x.rules.version, .slice x.rules.ticks.A x.rules.ticks.l.length x.rules.ticks.c, .int .i64 x.rules.lot, .int .i64 x.rules.band, .slice x.rules.fees.A x.rules.fees.l.length x.rules.fees.c, .int .i64 x.rules.round, .int .i64 x.rules.priority, .int .i64 x.rules.self, .int .i64 x.rules.layout]) (by repeat first | exact .here _ _ | assumption | apply Pick.there)).pick (A := blkA g3 3 [.int .i64 (cfl x.kind)]) (by repeat first | exact .here _ _ | assumption | apply Pick.there)).pick (A := blkA g5 49 _) (by repeat first | exact .here _ _ | assumption | apply Pick.there))).front4
        ·
          rintro σ w hS
          refine c_cut [38, 39, 40, 41, 42] (fun σ w => St W w [blkA g5 49 [.int .i64 x.kind, .int .u64 x.client, .int .u64 x.req, .int .i64 (if hasC (cfl x.kind) 1 then x.account else 0), .int .u64 (if hasC (cfl x.kind) 2 then x.id else 0), .int .i64 (if hasC (cfl x.kind) 4 then x.side else 0), .int .i64 (if hasC (cfl x.kind) 4 then x.typ else 0), .int .i64 (if hasC (cfl x.kind) 16 then x.asset else 0), .int .i64 (if hasC (cfl x.kind) 32 then x.price else 0), .int .i64 0, .int .i64 0, .int .i64 0, .int .u64 0, .int .i64 0, .slice none 0 0, .int .i64 0, .int .i64 0, .slice none 0 0, .int .i64 0, .int .i64 0, .int .i64 0, .int .i64 0], blkA g3 3 [.int .i64 (cfl x.kind)], blkA g2 49 [.int .i64 x.kind, .int .u64 x.client, .int .u64 x.req, .int .i64 x.account, .int .u64 x.id, .int .i64 x.side, .int .i64 x.typ, .int .i64 x.asset, .int .i64 x.price, .int .i64 x.qty, .int .i64 x.version, .int .i64 x.replica, .int .u64 x.at_, .int .i64 x.rules.version, .slice x.rules.ticks.A x.rules.ticks.l.length x.rules.ticks.c, .int .i64 x.rules.lot, .int .i64 x.rules.band, .slice x.rules.fees.A x.rules.fees.l.length x.rules.fees.c, .int .i64 x.rules.round, .int .i64 x.rules.priority, .int .i64 x.rules.self, .int .i64 x.rules.layout], blkA g4 49 [.int .i64 0, .int .u64 0, .int .u64 0, .int .i64 0, .int .u64 0, .int .i64 0, .int .i64 0, .int .i64 0, .int .i64 0, .int .i64 0, .int .i64 0, .int .i64 0, .int .u64 0, .int .i64 0, .slice none 0 0, .int .i64 0, .int .i64 0, .slice none 0 0, .int .i64 0, .int .i64 0, .int .i64 0, .int .i64 0]]) rfl ?_ ?_
          ·
            refine c_seq ?_
            refine c_region ?_
            refine t_q (q_mv (.func _ _ _) rfl) ?_
            refine t_callv Try.call131 rfl (only1_calls (m := 32) (b := hasC (cfl x.kind) 32) (and_cfl_32 _) hS (by repeat first | exact .here _ _ | assumption | apply Pick.there)) rfl ?_
            rintro e w ⟨rfl, hS⟩
            refine ⟨_, rfl, ?_⟩
            refine t_nil ?_
            refine c_cond rfl ?_ ?_
            · intro hc10
              have hb32 : hasC (cfl x.kind) 32 = true := hc10
              refine c_region ?_
              refine t_q (q_fieldAddr 8 Try.runUnderlying49 rfl Try.sizeOf2 (by decide) rfl rfl) ?_
              refine t_q (q_load1 Try.isAgg2 rfl (hS.cell (by repeat first | exact .here _ _ | assumption | apply Pick.there) rfl)) ?_
              refine t_q (q_fieldAddr 8 Try.runUnderlying49 rfl Try.sizeOf2 (by decide) rfl rfl) ?_
              refine t_store (v := (.int _ _)) Try.sizeOf2 hS (by repeat first | exact .here _ _ | assumption | apply Pick.there) rfl rfl rfl rfl rfl rfl (fun w hS => ?_)
              replace hS := hS.recast (show blkA g5 49 _ = blkA g5 49 [.int .i64 x.kind, .int .u64 x.client, .int .u64 x.req, .int .i64 (if hasC (cfl x.kind) 1 then x.account else 0), .int .u64 (if hasC (cfl x.kind) 2 then x.id else 0), .int .i64 (if hasC (cfl x.kind) 4 then x.side else 0), .int .i64 (if hasC (cfl x.kind) 4 then x.typ else 0), .int .i64 (if hasC (cfl x.kind) 16 then x.asset else 0), .int .i64 x.price, .int .i64 0, .int .i64 0, .int .i64 0, .int .u64 0, .int .i64 0, .slice none 0 0, .int .i64 0, .int .i64 0, .slice none 0 0, .int .i64 0, .int .i64 0, .int .i64 0, .int .i64 0] from rfl)
              refine t_nil ?_
              rw [hb32]
              exact (((((hS.pick (A := blkA g4 49 _) (by repeat first | exact .here _ _ | assumption | apply Pick.there)).pick (A := blkA g2 49 [.int .i64 x.kind, .int .u64 x.client, .int .u64 x.req, .int .i64 x.account, .int .u64 x.id, .int .i64 x.side, .int .i64 x.typ, .int .i64 x.asset, .int .i64 x.price, .int .i64 x.qty, .int .i64 x.version, .int .i64 x.replica, .int .u64 x.at_, .int .i64 x.rules.version, .slice x.rules.ticks.A x.rules.ticks.l.length x.rules.ticks.c, .int .i64 x.rules.lot, .int .i64 x.rules.band, .slice x.rules.fees.A x.rules.fees.l.length x.rules.fees.c, .int .i64 x.rules.round, .int .i64 x.rules.priority, .int .i64 x.rules.self, .int .i64 x.rules.layout]) (by repeat first | exact .here _ _ | assumption | apply Pick.there)).pick (A := blkA g3 3 [.int .i64 (cfl x.kind)]) (by repeat first | exact .here _ _ | assumption | apply Pick.there)).pick (A := blkA g5 49 _) (by repeat first | exact .here _ _ | assumption | apply Pick.there))).front4
            · intro hc10
              have hb32 : hasC (cfl x.kind) 32 = false := hc10
              refine c_skip ?_
              rw [hb32]
              exact (((((hS.pick (A := blkA g4 49 _) (by repeat first | exact .here _ _ | assumption | apply Pick.there)).pick (A := blkA g2 49 [.int .i64 x.kind, .int .u64 x.client, .int .u64 x.req, .int .i64 x.account, .int .u64 x.id, .int .i64 x.side, .int .i64 x.typ, .int .i64 x.asset, .int .i64 x.price, .int .i64 x.qty, .int .i64 x.version, .int .i64 x.replica, .int .u64 x.at_, .int .i64 x.rules.version, .slice x.rules.ticks.A x.rules.ticks.l.length x.rules.ticks.c, .int .i64 x.rules.lot, .int .i64 x.rules.band, .slice x.rules.fees.A x.rules.fees.l.length x.rules.fees.c, .int .i64 x.rules.round, .int .i64 x.rules.priority, .int .i64 x.rules.self, .int .i64 x.rules.layout]) (by repeat first | exact .here _ _ | assumption | apply Pick.there)).pick (A := blkA g3 3 [.int .i64 (cfl x.kind)]) (by repeat first | exact .here _ _ | assumption | apply Pick.there)).pick (A := blkA g5 49 _) (by repeat first | exact .here _ _ | assumption | apply Pick.there))).front4
          ·
            rintro σ w hS
            refine c_cut [43, 44, 45, 46, 47] (fun σ w => St W w [blkA g5 49 [.int .i64 x.kind, .int .u64 x.client, .int .u64 x.req, .int .i64 (if hasC (cfl x.kind) 1 then x.account else 0), .int .u64 (if hasC (cfl x.kind) 2 then x.id else 0), .int .i64 (if hasC (cfl x.kind) 4 then x.side else 0), .int .i64 (if hasC (cfl x.kind) 4 then x.typ else 0), .int .i64 (if hasC (cfl x.kind) 16 then x.asset else 0), .int .i64 (if hasC (cfl x.kind) 32 then x.price else 0), .int .i64 (if hasC (cfl x.kind) 64 then x.qty else 0), .int .i64 0, .int .i64 0, .int .u64 0, .int .i64 0, .slice none 0 0, .int .i64 0, .int .i64 0, .slice none 0 0, .int .i64 0, .int .i64 0, .int .i64 0, .int .i64 0], blkA g3 3 [.int .i64 (cfl x.kind)], blkA g2 49 [.int .i64 x.kind, .int .u64 x.client, .int .u64 x.req, .int .i64 x.account, .int .u64 x.id, .int .i64 x.side, .int .i64 x.typ, .int .i64 x.asset, .int .i64 x.price, .int .i64 x.qty, .int .i64 x.version, .int .i64 x.replica, .int .u64 x.at_, .int .i64 x.rules.version, .slice x.rules.ticks.A x.rules.ticks.l.length x.rules.ticks.c, .int .i64 x.rules.lot, .int .i64 x.rules.band, .slice x.rules.fees.A x.rules.fees.l.length x.rules.fees.c, .int .i64 x.rules.round, .int .i64 x.rules.priority, .int .i64 x.rules.self, .int .i64 x.rules.layout], blkA g4 49 [.int .i64 0, .int .u64 0, .int .u64 0, .int .i64 0, .int .u64 0, .int .i64 0, .int .i64 0, .int .i64 0, .int .i64 0, .int .i64 0, .int .i64 0, .int .i64 0, .int .u64 0, .int .i64 0, .slice none 0 0, .int .i64 0, .int .i64 0, .slice none 0 0, .int .i64 0, .int .i64 0, .int .i64 0, .int .i64 0]]) rfl ?_ ?_
            ·
              refine c_seq ?_
              refine c_region ?_
              refine t_q (q_mv (.func _ _ _) rfl) ?_
              refine t_callv Try.call131 rfl (only1_calls (m := 64) (b := hasC (cfl x.kind) 64) (and_cfl_64 _) hS (by repeat first | exact .here _ _ | assumption | apply Pick.there)) rfl ?_
              rintro e w ⟨rfl, hS⟩
              refine ⟨_, rfl, ?_⟩
              refine t_nil ?_
              refine c_cond rfl ?_ ?_
              · intro hc12
                have hb64 : hasC (cfl x.kind) 64 = true := hc12
                refine c_region ?_
                refine t_q (q_fieldAddr 9 Try.runUnderlying49 rfl Try.sizeOf2 (by decide) rfl rfl) ?_
                refine t_q (q_load1 Try.isAgg2 rfl (hS.cell (by repeat first | exact .here _ _ | assumption | apply Pick.there) rfl)) ?_
                refine t_q (q_fieldAddr 9 Try.runUnderlying49 rfl Try.sizeOf2 (by decide) rfl rfl) ?_
                refine t_store (v := (.int _ _)) Try.sizeOf2 hS (by repeat first | exact .here _ _ | assumption | apply Pick.there) rfl rfl rfl rfl rfl rfl (fun w hS => ?_)
                replace hS := hS.recast (show blkA g5 49 _ = blkA g5 49 [.int .i64 x.kind, .int .u64 x.client, .int .u64 x.req, .int .i64 (if hasC (cfl x.kind) 1 then x.account else 0), .int .u64 (if hasC (cfl x.kind) 2 then x.id else 0), .int .i64 (if hasC (cfl x.kind) 4 then x.side else 0), .int .i64 (if hasC (cfl x.kind) 4 then x.typ else 0), .int .i64 (if hasC (cfl x.kind) 16 then x.asset else 0), .int .i64 (if hasC (cfl x.kind) 32 then x.price else 0), .int .i64 x.qty, .int .i64 0, .int .i64 0, .int .u64 0, .int .i64 0, .slice none 0 0, .int .i64 0, .int .i64 0, .slice none 0 0, .int .i64 0, .int .i64 0, .int .i64 0, .int .i64 0] from rfl)
                refine t_nil ?_
                rw [hb64]
                exact (((((hS.pick (A := blkA g4 49 _) (by repeat first | exact .here _ _ | assumption | apply Pick.there)).pick (A := blkA g2 49 [.int .i64 x.kind, .int .u64 x.client, .int .u64 x.req, .int .i64 x.account, .int .u64 x.id, .int .i64 x.side, .int .i64 x.typ, .int .i64 x.asset, .int .i64 x.price, .int .i64 x.qty, .int .i64 x.version, .int .i64 x.replica, .int .u64 x.at_, .int .i64 x.rules.version, .slice x.rules.ticks.A x.rules.ticks.l.length x.rules.ticks.c, .int .i64 x.rules.lot, .int .i64 x.rules.band, .slice x.rules.fees.A x.rules.fees.l.length x.rules.fees.c, .int .i64 x.rules.round, .int .i64 x.rules.priority, .int .i64 x.rules.self, .int .i64 x.rules.layout]) (by repeat first | exact .here _ _ | assumption | apply Pick.there)).pick (A := blkA g3 3 [.int .i64 (cfl x.kind)]) (by repeat first | exact .here _ _ | assumption | apply Pick.there)).pick (A := blkA g5 49 _) (by repeat first | exact .here _ _ | assumption | apply Pick.there))).front4
              · intro hc12
                have hb64 : hasC (cfl x.kind) 64 = false := hc12
                refine c_skip ?_
                rw [hb64]
                exact (((((hS.pick (A := blkA g4 49 _) (by repeat first | exact .here _ _ | assumption | apply Pick.there)).pick (A := blkA g2 49 [.int .i64 x.kind, .int .u64 x.client, .int .u64 x.req, .int .i64 x.account, .int .u64 x.id, .int .i64 x.side, .int .i64 x.typ, .int .i64 x.asset, .int .i64 x.price, .int .i64 x.qty, .int .i64 x.version, .int .i64 x.replica, .int .u64 x.at_, .int .i64 x.rules.version, .slice x.rules.ticks.A x.rules.ticks.l.length x.rules.ticks.c, .int .i64 x.rules.lot, .int .i64 x.rules.band, .slice x.rules.fees.A x.rules.fees.l.length x.rules.fees.c, .int .i64 x.rules.round, .int .i64 x.rules.priority, .int .i64 x.rules.self, .int .i64 x.rules.layout]) (by repeat first | exact .here _ _ | assumption | apply Pick.there)).pick (A := blkA g3 3 [.int .i64 (cfl x.kind)]) (by repeat first | exact .here _ _ | assumption | apply Pick.there)).pick (A := blkA g5 49 _) (by repeat first | exact .here _ _ | assumption | apply Pick.there))).front4
            ·
              rintro σ w hS
              refine c_cut [48, 49, 50, 51, 52] (fun σ w => St W w [blkA g5 49 [.int .i64 x.kind, .int .u64 x.client, .int .u64 x.req, .int .i64 (if hasC (cfl x.kind) 1 then x.account else 0), .int .u64 (if hasC (cfl x.kind) 2 then x.id else 0), .int .i64 (if hasC (cfl x.kind) 4 then x.side else 0), .int .i64 (if hasC (cfl x.kind) 4 then x.typ else 0), .int .i64 (if hasC (cfl x.kind) 16 then x.asset else 0), .int .i64 (if hasC (cfl x.kind) 32 then x.price else 0), .int .i64 (if hasC (cfl x.kind) 64 then x.qty else 0), .int .i64 0, .int .i64 (if hasC (cfl x.kind) 128 then x.replica else 0), .int .u64 0, .int .i64 0, .slice none 0 0, .int .i64 0, .int .i64 0, .slice none 0 0, .int .i64 0, .int .i64 0, .int .i64 0, .int .i64 0], blkA g3 3 [.int .i64 (cfl x.kind)], blkA g2 49 [.int .i64 x.kind, .int .u64 x.client, .int .u64 x.req, .int .i64 x.account, .int .u64 x.id, .int .i64 x.side, .int .i64 x.typ, .int .i64 x.asset, .int .i64 x.price, .int .i64 x.qty, .int .i64 x.version, .int .i64 x.replica, .int .u64 x.at_, .int .i64 x.rules.version, .slice x.rules.ticks.A x.rules.ticks.l.length x.rules.ticks.c, .int .i64 x.rules.lot, .int .i64 x.rules.band, .slice x.rules.fees.A x.rules.fees.l.length x.rules.fees.c, .int .i64 x.rules.round, .int .i64 x.rules.priority, .int .i64 x.rules.self, .int .i64 x.rules.layout], blkA g4 49 [.int .i64 0, .int .u64 0, .int .u64 0, .int .i64 0, .int .u64 0, .int .i64 0, .int .i64 0, .int .i64 0, .int .i64 0, .int .i64 0, .int .i64 0, .int .i64 0, .int .u64 0, .int .i64 0, .slice none 0 0, .int .i64 0, .int .i64 0, .slice none 0 0, .int .i64 0, .int .i64 0, .int .i64 0, .int .i64 0]]) rfl ?_ ?_
              ·
                refine c_seq ?_
                refine c_region ?_
                refine t_q (q_mv (.func _ _ _) rfl) ?_
                refine t_callv Try.call131 rfl (only1_calls (m := 128) (b := hasC (cfl x.kind) 128) (and_cfl_128 _) hS (by repeat first | exact .here _ _ | assumption | apply Pick.there)) rfl ?_
                rintro e w ⟨rfl, hS⟩
                refine ⟨_, rfl, ?_⟩
                refine t_nil ?_
                refine c_cond rfl ?_ ?_
                · intro hc14
                  have hb128 : hasC (cfl x.kind) 128 = true := hc14
                  refine c_region ?_
                  refine t_q (q_fieldAddr 11 Try.runUnderlying49 rfl Try.sizeOf3 (by decide) rfl rfl) ?_
                  refine t_q (q_load1 Try.isAgg3 rfl (hS.cell (by repeat first | exact .here _ _ | assumption | apply Pick.there) rfl)) ?_
                  refine t_q (q_fieldAddr 11 Try.runUnderlying49 rfl Try.sizeOf3 (by decide) rfl rfl) ?_
                  refine t_store (v := (.int _ _)) Try.sizeOf3 hS (by repeat first | exact .here _ _ | assumption | apply Pick.there) rfl rfl rfl rfl rfl rfl (fun w hS => ?_)
                  replace hS := hS.recast (show blkA g5 49 _ = blkA g5 49 [.int .i64 x.kind, .int .u64 x.client, .int .u64 x.req, .int .i64 (if hasC (cfl x.kind) 1 then x.account else 0), .int .u64 (if hasC (cfl x.kind) 2 then x.id else 0), .int .i64 (if hasC (cfl x.kind) 4 then x.side else 0), .int .i64 (if hasC (cfl x.kind) 4 then x.typ else 0), .int .i64 (if hasC (cfl x.kind) 16 then x.asset else 0), .int .i64 (if hasC (cfl x.kind) 32 then x.price else 0), .int .i64 (if hasC (cfl x.kind) 64 then x.qty else 0), .int .i64 0, .int .i64 x.replica, .int .u64 0, .int .i64 0, .slice none 0 0, .int .i64 0, .int .i64 0, .slice none 0 0, .int .i64 0, .int .i64 0, .int .i64 0, .int .i64 0] from rfl)
                  refine t_nil ?_
                  rw [hb128]
                  exact (((((hS.pick (A := blkA g4 49 _) (by repeat first | exact .here _ _ | assumption | apply Pick.there)).pick (A := blkA g2 49 [.int .i64 x.kind, .int .u64 x.client, .int .u64 x.req, .int .i64 x.account, .int .u64 x.id, .int .i64 x.side, .int .i64 x.typ, .int .i64 x.asset, .int .i64 x.price, .int .i64 x.qty, .int .i64 x.version, .int .i64 x.replica, .int .u64 x.at_, .int .i64 x.rules.version, .slice x.rules.ticks.A x.rules.ticks.l.length x.rules.ticks.c, .int .i64 x.rules.lot, .int .i64 x.rules.band, .slice x.rules.fees.A x.rules.fees.l.length x.rules.fees.c, .int .i64 x.rules.round, .int .i64 x.rules.priority, .int .i64 x.rules.self, .int .i64 x.rules.layout]) (by repeat first | exact .here _ _ | assumption | apply Pick.there)).pick (A := blkA g3 3 [.int .i64 (cfl x.kind)]) (by repeat first | exact .here _ _ | assumption | apply Pick.there)).pick (A := blkA g5 49 _) (by repeat first | exact .here _ _ | assumption | apply Pick.there))).front4
                · intro hc14
                  have hb128 : hasC (cfl x.kind) 128 = false := hc14
                  refine c_skip ?_
                  rw [hb128]
                  exact (((((hS.pick (A := blkA g4 49 _) (by repeat first | exact .here _ _ | assumption | apply Pick.there)).pick (A := blkA g2 49 [.int .i64 x.kind, .int .u64 x.client, .int .u64 x.req, .int .i64 x.account, .int .u64 x.id, .int .i64 x.side, .int .i64 x.typ, .int .i64 x.asset, .int .i64 x.price, .int .i64 x.qty, .int .i64 x.version, .int .i64 x.replica, .int .u64 x.at_, .int .i64 x.rules.version, .slice x.rules.ticks.A x.rules.ticks.l.length x.rules.ticks.c, .int .i64 x.rules.lot, .int .i64 x.rules.band, .slice x.rules.fees.A x.rules.fees.l.length x.rules.fees.c, .int .i64 x.rules.round, .int .i64 x.rules.priority, .int .i64 x.rules.self, .int .i64 x.rules.layout]) (by repeat first | exact .here _ _ | assumption | apply Pick.there)).pick (A := blkA g3 3 [.int .i64 (cfl x.kind)]) (by repeat first | exact .here _ _ | assumption | apply Pick.there)).pick (A := blkA g5 49 _) (by repeat first | exact .here _ _ | assumption | apply Pick.there))).front4
              ·
                rintro σ w hS
                refine c_cut [53, 54, 55, 56, 57] (fun σ w => St W w [blkA g5 49 [.int .i64 x.kind, .int .u64 x.client, .int .u64 x.req, .int .i64 (if hasC (cfl x.kind) 1 then x.account else 0), .int .u64 (if hasC (cfl x.kind) 2 then x.id else 0), .int .i64 (if hasC (cfl x.kind) 4 then x.side else 0), .int .i64 (if hasC (cfl x.kind) 4 then x.typ else 0), .int .i64 (if hasC (cfl x.kind) 16 then x.asset else 0), .int .i64 (if hasC (cfl x.kind) 32 then x.price else 0), .int .i64 (if hasC (cfl x.kind) 64 then x.qty else 0), .int .i64 (if hasC (cfl x.kind) 256 then x.version else 0), .int .i64 (if hasC (cfl x.kind) 128 then x.replica else 0), .int .u64 0, .int .i64 0, .slice none 0 0, .int .i64 0, .int .i64 0, .slice none 0 0, .int .i64 0, .int .i64 0, .int .i64 0, .int .i64 0], blkA g3 3 [.int .i64 (cfl x.kind)], blkA g2 49 [.int .i64 x.kind, .int .u64 x.client, .int .u64 x.req, .int .i64 x.account, .int .u64 x.id, .int .i64 x.side, .int .i64 x.typ, .int .i64 x.asset, .int .i64 x.price, .int .i64 x.qty, .int .i64 x.version, .int .i64 x.replica, .int .u64 x.at_, .int .i64 x.rules.version, .slice x.rules.ticks.A x.rules.ticks.l.length x.rules.ticks.c, .int .i64 x.rules.lot, .int .i64 x.rules.band, .slice x.rules.fees.A x.rules.fees.l.length x.rules.fees.c, .int .i64 x.rules.round, .int .i64 x.rules.priority, .int .i64 x.rules.self, .int .i64 x.rules.layout], blkA g4 49 [.int .i64 0, .int .u64 0, .int .u64 0, .int .i64 0, .int .u64 0, .int .i64 0, .int .i64 0, .int .i64 0, .int .i64 0, .int .i64 0, .int .i64 0, .int .i64 0, .int .u64 0, .int .i64 0, .slice none 0 0, .int .i64 0, .int .i64 0, .slice none 0 0, .int .i64 0, .int .i64 0, .int .i64 0, .int .i64 0]]) rfl ?_ ?_
                ·
                  refine c_seq ?_
                  refine c_region ?_
                  refine t_q (q_mv (.func _ _ _) rfl) ?_
                  refine t_callv Try.call131 rfl (only1_calls (m := 256) (b := hasC (cfl x.kind) 256) (and_cfl_256 _) hS (by repeat first | exact .here _ _ | assumption | apply Pick.there)) rfl ?_
                  rintro e w ⟨rfl, hS⟩
                  refine ⟨_, rfl, ?_⟩
                  refine t_nil ?_
                  refine c_cond rfl ?_ ?_
                  · intro hc16
                    have hb256 : hasC (cfl x.kind) 256 = true := hc16
                    refine c_region ?_
                    refine t_q (q_fieldAddr 10 Try.runUnderlying49 rfl Try.sizeOf3 (by decide) rfl rfl) ?_
                    refine t_q (q_load1 Try.isAgg3 rfl (hS.cell (by repeat first | exact .here _ _ | assumption | apply Pick.there) rfl)) ?_
                    refine t_q (q_fieldAddr 10 Try.runUnderlying49 rfl Try.sizeOf3 (by decide) rfl rfl) ?_
                    refine t_store (v := (.int _ _)) Try.sizeOf3 hS (by repeat first | exact .here _ _ | assumption | apply Pick.there) rfl rfl rfl rfl rfl rfl (fun w hS => ?_)
                    replace hS := hS.recast (show blkA g5 49 _ = blkA g5 49 [.int .i64 x.kind, .int .u64 x.client, .int .u64 x.req, .int .i64 (if hasC (cfl x.kind) 1 then x.account else 0), .int .u64 (if hasC (cfl x.kind) 2 then x.id else 0), .int .i64 (if hasC (cfl x.kind) 4 then x.side else 0), .int .i64 (if hasC (cfl x.kind) 4 then x.typ else 0), .int .i64 (if hasC (cfl x.kind) 16 then x.asset else 0), .int .i64 (if hasC (cfl x.kind) 32 then x.price else 0), .int .i64 (if hasC (cfl x.kind) 64 then x.qty else 0), .int .i64 x.version, .int .i64 (if hasC (cfl x.kind) 128 then x.replica else 0), .int .u64 0, .int .i64 0, .slice none 0 0, .int .i64 0, .int .i64 0, .slice none 0 0, .int .i64 0, .int .i64 0, .int .i64 0, .int .i64 0] from rfl)
                    refine t_nil ?_
                    rw [hb256]
                    exact (((((hS.pick (A := blkA g4 49 _) (by repeat first | exact .here _ _ | assumption | apply Pick.there)).pick (A := blkA g2 49 [.int .i64 x.kind, .int .u64 x.client, .int .u64 x.req, .int .i64 x.account, .int .u64 x.id, .int .i64 x.side, .int .i64 x.typ, .int .i64 x.asset, .int .i64 x.price, .int .i64 x.qty, .int .i64 x.version, .int .i64 x.replica, .int .u64 x.at_, .int .i64 x.rules.version, .slice x.rules.ticks.A x.rules.ticks.l.length x.rules.ticks.c, .int .i64 x.rules.lot, .int .i64 x.rules.band, .slice x.rules.fees.A x.rules.fees.l.length x.rules.fees.c, .int .i64 x.rules.round, .int .i64 x.rules.priority, .int .i64 x.rules.self, .int .i64 x.rules.layout]) (by repeat first | exact .here _ _ | assumption | apply Pick.there)).pick (A := blkA g3 3 [.int .i64 (cfl x.kind)]) (by repeat first | exact .here _ _ | assumption | apply Pick.there)).pick (A := blkA g5 49 _) (by repeat first | exact .here _ _ | assumption | apply Pick.there))).front4
                  · intro hc16
                    have hb256 : hasC (cfl x.kind) 256 = false := hc16
                    refine c_skip ?_
                    rw [hb256]
                    exact (((((hS.pick (A := blkA g4 49 _) (by repeat first | exact .here _ _ | assumption | apply Pick.there)).pick (A := blkA g2 49 [.int .i64 x.kind, .int .u64 x.client, .int .u64 x.req, .int .i64 x.account, .int .u64 x.id, .int .i64 x.side, .int .i64 x.typ, .int .i64 x.asset, .int .i64 x.price, .int .i64 x.qty, .int .i64 x.version, .int .i64 x.replica, .int .u64 x.at_, .int .i64 x.rules.version, .slice x.rules.ticks.A x.rules.ticks.l.length x.rules.ticks.c, .int .i64 x.rules.lot, .int .i64 x.rules.band, .slice x.rules.fees.A x.rules.fees.l.length x.rules.fees.c, .int .i64 x.rules.round, .int .i64 x.rules.priority, .int .i64 x.rules.self, .int .i64 x.rules.layout]) (by repeat first | exact .here _ _ | assumption | apply Pick.there)).pick (A := blkA g3 3 [.int .i64 (cfl x.kind)]) (by repeat first | exact .here _ _ | assumption | apply Pick.there)).pick (A := blkA g5 49 _) (by repeat first | exact .here _ _ | assumption | apply Pick.there))).front4
                ·
                  rintro σ w hS
                  refine c_cut [58, 59, 60, 61, 62] (fun σ w => St W w [blkA g5 49 [.int .i64 x.kind, .int .u64 x.client, .int .u64 x.req, .int .i64 (if hasC (cfl x.kind) 1 then x.account else 0), .int .u64 (if hasC (cfl x.kind) 2 then x.id else 0), .int .i64 (if hasC (cfl x.kind) 4 then x.side else 0), .int .i64 (if hasC (cfl x.kind) 4 then x.typ else 0), .int .i64 (if hasC (cfl x.kind) 16 then x.asset else 0), .int .i64 (if hasC (cfl x.kind) 32 then x.price else 0), .int .i64 (if hasC (cfl x.kind) 64 then x.qty else 0), .int .i64 (if hasC (cfl x.kind) 256 then x.version else 0), .int .i64 (if hasC (cfl x.kind) 128 then x.replica else 0), .int .u64 (if hasC (cfl x.kind) 512 then x.at_ else 0), .int .i64 0, .slice none 0 0, .int .i64 0, .int .i64 0, .slice none 0 0, .int .i64 0, .int .i64 0, .int .i64 0, .int .i64 0], blkA g3 3 [.int .i64 (cfl x.kind)], blkA g2 49 [.int .i64 x.kind, .int .u64 x.client, .int .u64 x.req, .int .i64 x.account, .int .u64 x.id, .int .i64 x.side, .int .i64 x.typ, .int .i64 x.asset, .int .i64 x.price, .int .i64 x.qty, .int .i64 x.version, .int .i64 x.replica, .int .u64 x.at_, .int .i64 x.rules.version, .slice x.rules.ticks.A x.rules.ticks.l.length x.rules.ticks.c, .int .i64 x.rules.lot, .int .i64 x.rules.band, .slice x.rules.fees.A x.rules.fees.l.length x.rules.fees.c, .int .i64 x.rules.round, .int .i64 x.rules.priority, .int .i64 x.rules.self, .int .i64 x.rules.layout], blkA g4 49 [.int .i64 0, .int .u64 0, .int .u64 0, .int .i64 0, .int .u64 0, .int .i64 0, .int .i64 0, .int .i64 0, .int .i64 0, .int .i64 0, .int .i64 0, .int .i64 0, .int .u64 0, .int .i64 0, .slice none 0 0, .int .i64 0, .int .i64 0, .slice none 0 0, .int .i64 0, .int .i64 0, .int .i64 0, .int .i64 0]]) rfl ?_ ?_
                  ·
                    refine c_seq ?_
                    refine c_region ?_
                    refine t_q (q_mv (.func _ _ _) rfl) ?_
                    refine t_callv Try.call131 rfl (only1_calls (m := 512) (b := hasC (cfl x.kind) 512) (and_cfl_512 _) hS (by repeat first | exact .here _ _ | assumption | apply Pick.there)) rfl ?_
                    rintro e w ⟨rfl, hS⟩
                    refine ⟨_, rfl, ?_⟩
                    refine t_nil ?_
                    refine c_cond rfl ?_ ?_
                    · intro hc18
                      have hb512 : hasC (cfl x.kind) 512 = true := hc18
                      refine c_region ?_
                      refine t_q (q_fieldAddr 12 Try.runUnderlying49 rfl Try.sizeOf26 (by decide) rfl rfl) ?_
                      refine t_q (q_load1 Try.isAgg26 rfl (hS.cell (by repeat first | exact .here _ _ | assumption | apply Pick.there) rfl)) ?_
                      refine t_q (q_fieldAddr 12 Try.runUnderlying49 rfl Try.sizeOf26 (by decide) rfl rfl) ?_
                      refine t_store (v := (.int _ _)) Try.sizeOf26 hS (by repeat first | exact .here _ _ | assumption | apply Pick.there) rfl rfl rfl rfl rfl rfl (fun w hS => ?_)
                      replace hS := hS.recast (show blkA g5 49 _ = blkA g5 49 [.int .i64 x.kind, .int .u64 x.client, .int .u64 x.req, .int .i64 (if hasC (cfl x.kind) 1 then x.account else 0), .int .u64 (if hasC (cfl x.kind) 2 then x.id else 0), .int .i64 (if hasC (cfl x.kind) 4 then x.side else 0), .int .i64 (if hasC (cfl x.kind) 4 then x.typ else 0), .int .i64 (if hasC (cfl x.kind) 16 then x.asset else 0), .int .i64 (if hasC (cfl x.kind) 32 then x.price else 0), .int .i64 (if hasC (cfl x.kind) 64 then x.qty else 0), .int .i64 (if hasC (cfl x.kind) 256 then x.version else 0), .int .i64 (if hasC (cfl x.kind) 128 then x.replica else 0), .int .u64 x.at_, .int .i64 0, .slice none 0 0, .int .i64 0, .int .i64 0, .slice none 0 0, .int .i64 0, .int .i64 0, .int .i64 0, .int .i64 0] from rfl)
                      refine t_nil ?_
                      rw [hb512]
                      exact (((((hS.pick (A := blkA g4 49 _) (by repeat first | exact .here _ _ | assumption | apply Pick.there)).pick (A := blkA g2 49 [.int .i64 x.kind, .int .u64 x.client, .int .u64 x.req, .int .i64 x.account, .int .u64 x.id, .int .i64 x.side, .int .i64 x.typ, .int .i64 x.asset, .int .i64 x.price, .int .i64 x.qty, .int .i64 x.version, .int .i64 x.replica, .int .u64 x.at_, .int .i64 x.rules.version, .slice x.rules.ticks.A x.rules.ticks.l.length x.rules.ticks.c, .int .i64 x.rules.lot, .int .i64 x.rules.band, .slice x.rules.fees.A x.rules.fees.l.length x.rules.fees.c, .int .i64 x.rules.round, .int .i64 x.rules.priority, .int .i64 x.rules.self, .int .i64 x.rules.layout]) (by repeat first | exact .here _ _ | assumption | apply Pick.there)).pick (A := blkA g3 3 [.int .i64 (cfl x.kind)]) (by repeat first | exact .here _ _ | assumption | apply Pick.there)).pick (A := blkA g5 49 _) (by repeat first | exact .here _ _ | assumption | apply Pick.there))).front4
                    · intro hc18
                      have hb512 : hasC (cfl x.kind) 512 = false := hc18
                      refine c_skip ?_
                      rw [hb512]
                      exact (((((hS.pick (A := blkA g4 49 _) (by repeat first | exact .here _ _ | assumption | apply Pick.there)).pick (A := blkA g2 49 [.int .i64 x.kind, .int .u64 x.client, .int .u64 x.req, .int .i64 x.account, .int .u64 x.id, .int .i64 x.side, .int .i64 x.typ, .int .i64 x.asset, .int .i64 x.price, .int .i64 x.qty, .int .i64 x.version, .int .i64 x.replica, .int .u64 x.at_, .int .i64 x.rules.version, .slice x.rules.ticks.A x.rules.ticks.l.length x.rules.ticks.c, .int .i64 x.rules.lot, .int .i64 x.rules.band, .slice x.rules.fees.A x.rules.fees.l.length x.rules.fees.c, .int .i64 x.rules.round, .int .i64 x.rules.priority, .int .i64 x.rules.self, .int .i64 x.rules.layout]) (by repeat first | exact .here _ _ | assumption | apply Pick.there)).pick (A := blkA g3 3 [.int .i64 (cfl x.kind)]) (by repeat first | exact .here _ _ | assumption | apply Pick.there)).pick (A := blkA g5 49 _) (by repeat first | exact .here _ _ | assumption | apply Pick.there))).front4
                  ·
                    rintro σ w hS
                    refine c_cut [63, 64, 65, 66, 67] (fun σ w => St W w [blkA g5 49 [.int .i64 x.kind, .int .u64 x.client, .int .u64 x.req, .int .i64 (if hasC (cfl x.kind) 1 then x.account else 0), .int .u64 (if hasC (cfl x.kind) 2 then x.id else 0), .int .i64 (if hasC (cfl x.kind) 4 then x.side else 0), .int .i64 (if hasC (cfl x.kind) 4 then x.typ else 0), .int .i64 (if hasC (cfl x.kind) 16 then x.asset else 0), .int .i64 (if hasC (cfl x.kind) 32 then x.price else 0), .int .i64 (if hasC (cfl x.kind) 64 then x.qty else 0), .int .i64 (if hasC (cfl x.kind) 256 then x.version else 0), .int .i64 (if hasC (cfl x.kind) 128 then x.replica else 0), .int .u64 (if hasC (cfl x.kind) 512 then x.at_ else 0), .int .i64 (if hasC (cfl x.kind) 1024 then x.rules else ruZ).version, .slice (if hasC (cfl x.kind) 1024 then x.rules else ruZ).ticks.A (if hasC (cfl x.kind) 1024 then x.rules else ruZ).ticks.l.length (if hasC (cfl x.kind) 1024 then x.rules else ruZ).ticks.c, .int .i64 (if hasC (cfl x.kind) 1024 then x.rules else ruZ).lot, .int .i64 (if hasC (cfl x.kind) 1024 then x.rules else ruZ).band, .slice (if hasC (cfl x.kind) 1024 then x.rules else ruZ).fees.A (if hasC (cfl x.kind) 1024 then x.rules else ruZ).fees.l.length (if hasC (cfl x.kind) 1024 then x.rules else ruZ).fees.c, .int .i64 (if hasC (cfl x.kind) 1024 then x.rules else ruZ).round, .int .i64 (if hasC (cfl x.kind) 1024 then x.rules else ruZ).priority, .int .i64 (if hasC (cfl x.kind) 1024 then x.rules else ruZ).self, .int .i64 (if hasC (cfl x.kind) 1024 then x.rules else ruZ).layout], blkA g3 3 [.int .i64 (cfl x.kind)], blkA g2 49 [.int .i64 x.kind, .int .u64 x.client, .int .u64 x.req, .int .i64 x.account, .int .u64 x.id, .int .i64 x.side, .int .i64 x.typ, .int .i64 x.asset, .int .i64 x.price, .int .i64 x.qty, .int .i64 x.version, .int .i64 x.replica, .int .u64 x.at_, .int .i64 x.rules.version, .slice x.rules.ticks.A x.rules.ticks.l.length x.rules.ticks.c, .int .i64 x.rules.lot, .int .i64 x.rules.band, .slice x.rules.fees.A x.rules.fees.l.length x.rules.fees.c, .int .i64 x.rules.round, .int .i64 x.rules.priority, .int .i64 x.rules.self, .int .i64 x.rules.layout], blkA g4 49 [.int .i64 0, .int .u64 0, .int .u64 0, .int .i64 0, .int .u64 0, .int .i64 0, .int .i64 0, .int .i64 0, .int .i64 0, .int .i64 0, .int .i64 0, .int .i64 0, .int .u64 0, .int .i64 0, .slice none 0 0, .int .i64 0, .int .i64 0, .slice none 0 0, .int .i64 0, .int .i64 0, .int .i64 0, .int .i64 0]]) rfl ?_ ?_
                    ·
                      refine c_seq ?_
                      refine c_region ?_
                      refine t_q (q_mv (.func _ _ _) rfl) ?_
                      refine t_callv Try.call131 rfl (only1_calls (m := 1024) (b := hasC (cfl x.kind) 1024) (and_cfl_1024 _) hS (by repeat first | exact .here _ _ | assumption | apply Pick.there)) rfl ?_
                      rintro e w ⟨rfl, hS⟩
                      refine ⟨_, rfl, ?_⟩
                      refine t_nil ?_
                      refine c_cond rfl ?_ ?_
                      · intro hc20
                        have hb1024 : hasC (cfl x.kind) 1024 = true := hc20
                        refine c_region ?_
                        refine t_q (q_fieldAddr 13 Try.runUnderlying49 rfl Try.sizeOf47 (by decide) rfl rfl) ?_
                        refine t_q (q_cast (v' := .agg x.rules.cells.toArray) (q_load_sub Try.isAgg47 Try.sizeOf47 rfl (hS.blk (by repeat first | exact .here _ _ | assumption | apply Pick.there)) (by show 0 + 13 + 9 ≤ 22; decide)) (by rfl)) ?_
                        refine t_q (q_fieldAddr 13 Try.runUnderlying49 rfl Try.sizeOf47 (by decide) rfl rfl) ?_
                        refine t_store (v := (.agg _)) Try.sizeOf47 hS (by repeat first | exact .here _ _ | assumption | apply Pick.there) rfl rfl rfl rfl rfl rfl (fun w hS => ?_)
                        replace hS := hS.recast (show blkA g5 49 _ = blkA g5 49 [.int .i64 x.kind, .int .u64 x.client, .int .u64 x.req, .int .i64 (if hasC (cfl x.kind) 1 then x.account else 0), .int .u64 (if hasC (cfl x.kind) 2 then x.id else 0), .int .i64 (if hasC (cfl x.kind) 4 then x.side else 0), .int .i64 (if hasC (cfl x.kind) 4 then x.typ else 0), .int .i64 (if hasC (cfl x.kind) 16 then x.asset else 0), .int .i64 (if hasC (cfl x.kind) 32 then x.price else 0), .int .i64 (if hasC (cfl x.kind) 64 then x.qty else 0), .int .i64 (if hasC (cfl x.kind) 256 then x.version else 0), .int .i64 (if hasC (cfl x.kind) 128 then x.replica else 0), .int .u64 (if hasC (cfl x.kind) 512 then x.at_ else 0), .int .i64 x.rules.version, .slice x.rules.ticks.A x.rules.ticks.l.length x.rules.ticks.c, .int .i64 x.rules.lot, .int .i64 x.rules.band, .slice x.rules.fees.A x.rules.fees.l.length x.rules.fees.c, .int .i64 x.rules.round, .int .i64 x.rules.priority, .int .i64 x.rules.self, .int .i64 x.rules.layout] from rfl)
                        refine t_nil ?_
                        rw [hb1024]
                        exact (((((hS.pick (A := blkA g4 49 _) (by repeat first | exact .here _ _ | assumption | apply Pick.there)).pick (A := blkA g2 49 [.int .i64 x.kind, .int .u64 x.client, .int .u64 x.req, .int .i64 x.account, .int .u64 x.id, .int .i64 x.side, .int .i64 x.typ, .int .i64 x.asset, .int .i64 x.price, .int .i64 x.qty, .int .i64 x.version, .int .i64 x.replica, .int .u64 x.at_, .int .i64 x.rules.version, .slice x.rules.ticks.A x.rules.ticks.l.length x.rules.ticks.c, .int .i64 x.rules.lot, .int .i64 x.rules.band, .slice x.rules.fees.A x.rules.fees.l.length x.rules.fees.c, .int .i64 x.rules.round, .int .i64 x.rules.priority, .int .i64 x.rules.self, .int .i64 x.rules.layout]) (by repeat first | exact .here _ _ | assumption | apply Pick.there)).pick (A := blkA g3 3 [.int .i64 (cfl x.kind)]) (by repeat first | exact .here _ _ | assumption | apply Pick.there)).pick (A := blkA g5 49 _) (by repeat first | exact .here _ _ | assumption | apply Pick.there))).front4
                      · intro hc20
                        have hb1024 : hasC (cfl x.kind) 1024 = false := hc20
                        refine c_skip ?_
                        rw [hb1024]
                        exact (((((hS.pick (A := blkA g4 49 _) (by repeat first | exact .here _ _ | assumption | apply Pick.there)).pick (A := blkA g2 49 [.int .i64 x.kind, .int .u64 x.client, .int .u64 x.req, .int .i64 x.account, .int .u64 x.id, .int .i64 x.side, .int .i64 x.typ, .int .i64 x.asset, .int .i64 x.price, .int .i64 x.qty, .int .i64 x.version, .int .i64 x.replica, .int .u64 x.at_, .int .i64 x.rules.version, .slice x.rules.ticks.A x.rules.ticks.l.length x.rules.ticks.c, .int .i64 x.rules.lot, .int .i64 x.rules.band, .slice x.rules.fees.A x.rules.fees.l.length x.rules.fees.c, .int .i64 x.rules.round, .int .i64 x.rules.priority, .int .i64 x.rules.self, .int .i64 x.rules.layout]) (by repeat first | exact .here _ _ | assumption | apply Pick.there)).pick (A := blkA g3 3 [.int .i64 (cfl x.kind)]) (by repeat first | exact .here _ _ | assumption | apply Pick.there)).pick (A := blkA g5 49 _) (by repeat first | exact .here _ _ | assumption | apply Pick.there))).front4
                    ·
                      rintro σ w hS
                      refine c_seq ?_
                      refine c_region ?_
                      refine t_q (q_cast (v' := .agg (keepC (cfl x.kind) x).cells.toArray) (q_load_blk Try.isAgg49 Try.sizeOf49 rfl (hS.blk (by repeat first | exact .here _ _ | assumption | apply Pick.there)) rfl) (by rfl)) ?_
                      refine t_store (v := (.agg _)) Try.sizeOf49 hS (by repeat first | exact .here _ _ | assumption | apply Pick.there) rfl rfl rfl rfl rfl rfl (fun w hS => ?_)
                      replace hS := hS.recast (congrArg (blkA g4 49) (setN_full (vs := (keepC (cfl x.kind) x).cells) ((cmd_len _).symm)))
                      refine t_nil ?_
                      refine c_ret ?_
                      refine r_one rfl (res1_cellN Try.isAgg49 Try.sizeOf49 rfl (hS.blk (by repeat first | exact .here _ _ | assumption | apply Pick.there)) rfl) ?_
                      exact ⟨rfl, hS.nil⟩
end Go.Proofs.Ytmgobaojioaioaa
