/- Commands: when two are the same, which may be. -/
import Derived.Test.YtmgobaojioaioaaVa
import Derived.Test.YtmgobaojioaioaaUd
namespace Go.Proofs.Ytmgobaojioaioaa
open Go Go.RowKit Go.Lib
variable {W : World}
attribute [local irreducible] blkA rowA
set_option maxHeartbeats 4000000 in
set_option maxRecDepth 100000 in
theorem csame_calls {x y : CmdV} (hx : x.Gd W) (hy : y.Gd W) : Calls Try.prog 51 #[.agg x.cells.toArray, .agg y.cells.toArray] W fun e w' => e = .returned (.bool (decide (x.vw = y.vw))) ∧ St W w' [] := by
  have hS := St.init W
  refine calls_of_wpE (args := [_, _]) Try.func51 rfl rfl rfl ?_
  refine c_seq ?_
  refine c_region ?_
  refine t_box (v := (.agg _)) rfl rfl hS (fun g2 w hS => ?_)
  replace hS := hS.recast (show _ = blkA g2 49 [.int .i64 x.kind, .int .u64 x.client, .int .u64 x.req, .int .i64 x.account, .int .u64 x.id, .int .i64 x.side, .int .i64 x.typ, .int .i64 x.asset, .int .i64 x.price, .int .i64 x.qty, .int .i64 x.version, .int .i64 x.replica, .int .u64 x.at_, .int .i64 x.rules.version, .slice x.rules.ticks.A x.rules.ticks.l.length x.rules.ticks.c, .int .i64 x.rules.lot, .int .i64 x.rules.band, .slice x.rules.fees.A x.rules.fees.l.length x.rules.fees.c, .int .i64 x.rules.round, .int .i64 x.rules.priority, .int .i64 x.rules.self, .int .i64 x.rules.layout] from rfl)
  refine t_box (v := (.agg _)) rfl rfl hS (fun g3 w hS => ?_)
  replace hS := hS.recast (show _ = blkA g3 49 [.int .i64 y.kind, .int .u64 y.client, .int .u64 y.req, .int .i64 y.account, .int .u64 y.id, .int .i64 y.side, .int .i64 y.typ, .int .i64 y.asset, .int .i64 y.price, .int .i64 y.qty, .int .i64 y.version, .int .i64 y.replica, .int .u64 y.at_, .int .i64 y.rules.version, .slice y.rules.ticks.A y.rules.ticks.l.length y.rules.ticks.c, .int .i64 y.rules.lot, .int .i64 y.rules.band, .slice y.rules.fees.A y.rules.fees.l.length y.rules.fees.c, .int .i64 y.rules.round, .int .i64 y.rules.priority, .int .i64 y.rules.self, .int .i64 y.rules.layout] from rfl)
  refine t_q (q_assign) ?_
  refine t_nil ?_
  refine c_seq ?_
  refine c_seq ?_
  refine c_region ?_
  refine t_q (q_fieldAddr 0 Try.runUnderlying49 rfl Try.sizeOf3 (by decide) rfl rfl) ?_
  refine t_q (q_load1 Try.isAgg3 rfl (hS.cell (by repeat first | exact .here _ _ | assumption | apply Pick.there) rfl)) ?_
  refine t_q (q_fieldAddr 0 Try.runUnderlying49 rfl Try.sizeOf3 (by decide) rfl rfl) ?_
  refine t_q (q_load1 Try.isAgg3 rfl (hS.cell (by repeat first | exact .here _ _ | assumption | apply Pick.there) rfl)) ?_
  refine t_q (q_neq rfl rfl) ?_
  refine t_q (q_mv (.bool _) rfl) ?_
  refine t_case 10 rfl ?_ ?_
  · intro hg2
    have hg2d := of_decide_eq_true hg2
    refine t_no rfl rfl (by rw [hg2]; decide) ?_
    refine t_no rfl rfl (by rw [hg2]; decide) ?_
    refine t_no rfl rfl (by rw [hg2]; decide) ?_
    refine t_no rfl rfl (by rw [hg2]; decide) ?_
    refine t_no rfl rfl (by rw [hg2]; decide) ?_
    refine t_q (q_pick_t rfl hg2) ?_
    refine t_q (q_mv (.bool _) rfl) ?_
    refine t_no rfl rfl (by decide) ?_
    refine t_no rfl rfl (by decide) ?_
    refine t_no rfl rfl (by decide) ?_
    refine t_no rfl rfl (by decide) ?_
    refine t_no rfl rfl (by decide) ?_
    refine t_q (q_pick_t rfl rfl) ?_
    refine t_q (q_mv (.bool _) rfl) ?_
    refine t_no rfl rfl (by decide) ?_
    refine t_no rfl rfl (by decide) ?_
    refine t_no rfl rfl (by decide) ?_
    refine t_no rfl rfl (by decide) ?_
    refine t_no rfl rfl (by decide) ?_
    refine t_q (q_pick_t rfl rfl) ?_
    refine t_q (q_mv (.bool _) rfl) ?_
    refine t_no rfl rfl (by decide) ?_
    refine t_no rfl rfl (by decide) ?_
    refine t_no rfl rfl (by decide) ?_
    refine t_no rfl rfl (by decide) ?_
    refine t_no rfl rfl (by decide) ?_
    refine t_q (q_pick_t rfl rfl) ?_
    refine t_nil ?_
    refine c_cond_t rfl rfl ?_
    refine c_seq ?_
    refine c_region ?_
    refine t_q (q_assign) ?_
    refine t_nil ?_
    refine c_ret ?_
    refine r_one rfl rfl ?_
    have hN := hS.nil
    clear hS
    refine ⟨congrArg (fun b => Ending.returned (.bool b)) ?_, hN⟩
    clear hN
    rw [Bool.eq_iff_iff, decide_eq_true_iff (p := x.vw = y.vw), cm_iff]
    clear hx hy
    simp_all
  · intro hg2
    have hg2d := of_decide_eq_false hg2
    refine t_yes rfl rfl hg2 ?_
    refine t_q (q_fieldAddr 1 Try.runUnderlying49 rfl Try.sizeOf26 (by decide) rfl rfl) ?_
    refine t_yes rfl rfl hg2 ?_
    refine t_q (q_load1 Try.isAgg26 rfl (hS.cell (by repeat first | exact .here _ _ | assumption | apply Pick.there) rfl)) ?_
    refine t_yes rfl rfl hg2 ?_
    refine t_q (q_fieldAddr 1 Try.runUnderlying49 rfl Try.sizeOf26 (by decide) rfl rfl) ?_
    refine t_yes rfl rfl hg2 ?_
    refine t_q (q_load1 Try.isAgg26 rfl (hS.cell (by repeat first | exact .here _ _ | assumption | apply Pick.there) rfl)) ?_
    refine t_yes rfl rfl hg2 ?_
    refine t_q (q_neq rfl rfl) ?_
    refine t_q (q_pick_f rfl hg2) ?_
    refine t_q (q_mv (.bool _) rfl) ?_
    refine t_case 17 rfl ?_ ?_
    · intro hg4
      have hg4d := of_decide_eq_true hg4
      refine t_no rfl rfl (by rw [hg4]; decide) ?_
      refine t_no rfl rfl (by rw [hg4]; decide) ?_
      refine t_no rfl rfl (by rw [hg4]; decide) ?_
      refine t_no rfl rfl (by rw [hg4]; decide) ?_
      refine t_no rfl rfl (by rw [hg4]; decide) ?_
      refine t_q (q_pick_t rfl hg4) ?_
      refine t_q (q_mv (.bool _) rfl) ?_
      refine t_no rfl rfl (by decide) ?_
      refine t_no rfl rfl (by decide) ?_
      refine t_no rfl rfl (by decide) ?_
      refine t_no rfl rfl (by decide) ?_
      refine t_no rfl rfl (by decide) ?_
      refine t_q (q_pick_t rfl rfl) ?_
      refine t_q (q_mv (.bool _) rfl) ?_
      refine t_no rfl rfl (by decide) ?_
      refine t_no rfl rfl (by decide) ?_
      refine t_no rfl rfl (by decide) ?_
      refine t_no rfl rfl (by decide) ?_
      refine t_no rfl rfl (by decide) ?_
      refine t_q (q_pick_t rfl rfl) ?_
      refine t_nil ?_
      refine c_cond_t rfl rfl ?_
      refine c_seq ?_
      refine c_region ?_
      refine t_q (q_assign) ?_
      refine t_nil ?_
      refine c_ret ?_
      refine r_one rfl rfl ?_
      have hN := hS.nil
      clear hS
      refine ⟨congrArg (fun b => Ending.returned (.bool b)) ?_, hN⟩
      clear hN
      rw [Bool.eq_iff_iff, decide_eq_true_iff (p := x.vw = y.vw), cm_iff]
      clear hx hy
      simp_all
    · intro hg4
      have hg4d := of_decide_eq_false hg4
      refine t_yes rfl rfl hg4 ?_
      refine t_q (q_fieldAddr 2 Try.runUnderlying49 rfl Try.sizeOf26 (by decide) rfl rfl) ?_
      refine t_yes rfl rfl hg4 ?_
      refine t_q (q_load1 Try.isAgg26 rfl (hS.cell (by repeat first | exact .here _ _ | assumption | apply Pick.there) rfl)) ?_
      refine t_yes rfl rfl hg4 ?_
      refine t_q (q_fieldAddr 2 Try.runUnderlying49 rfl Try.sizeOf26 (by decide) rfl rfl) ?_
      refine t_yes rfl rfl hg4 ?_
      refine t_q (q_load1 Try.isAgg26 rfl (hS.cell (by repeat first | exact .here _ _ | assumption | apply Pick.there) rfl)) ?_
      refine t_yes rfl rfl hg4 ?_
      refine t_q (q_neq rfl rfl) ?_
      refine t_q (q_pick_f rfl hg4) ?_
      refine t_q (q_mv (.bool _) rfl) ?_
      refine t_case 24 rfl ?_ ?_
      · intro hg6
        have hg6d := of_decide_eq_true hg6
        refine t_no rfl rfl (by rw [hg6]; decide) ?_
        refine t_no rfl rfl (by rw [hg6]; decide) ?_
        refine t_no rfl rfl (by rw [hg6]; decide) ?_
        refine t_no rfl rfl (by rw [hg6]; decide) ?_
        refine t_no rfl rfl (by rw [hg6]; decide) ?_
        refine t_q (q_pick_t rfl hg6) ?_
        refine t_q (q_mv (.bool _) rfl) ?_
        refine t_no rfl rfl (by decide) ?_
        refine t_no rfl rfl (by decide) ?_
        refine t_no rfl rfl (by decide) ?_
        refine t_no rfl rfl (by decide) ?_
        refine t_no rfl rfl (by decide) ?_
        refine t_q (q_pick_t rfl rfl) ?_
        refine t_nil ?_
        refine c_cond_t rfl rfl ?_
        refine c_seq ?_
        refine c_region ?_
        refine t_q (q_assign) ?_
        refine t_nil ?_
        refine c_ret ?_
        refine r_one rfl rfl ?_
        have hN := hS.nil
        clear hS
        refine ⟨congrArg (fun b => Ending.returned (.bool b)) ?_, hN⟩
        clear hN
        rw [Bool.eq_iff_iff, decide_eq_true_iff (p := x.vw = y.vw), cm_iff]
        clear hx hy
        simp_all
      · intro hg6
        have hg6d := of_decide_eq_false hg6
        refine t_yes rfl rfl hg6 ?_
        refine t_q (q_fieldAddr 3 Try.runUnderlying49 rfl Try.sizeOf3 (by decide) rfl rfl) ?_
        refine t_yes rfl rfl hg6 ?_
        refine t_q (q_load1 Try.isAgg3 rfl (hS.cell (by repeat first | exact .here _ _ | assumption | apply Pick.there) rfl)) ?_
        refine t_yes rfl rfl hg6 ?_
        refine t_q (q_fieldAddr 3 Try.runUnderlying49 rfl Try.sizeOf3 (by decide) rfl rfl) ?_
        refine t_yes rfl rfl hg6 ?_
        refine t_q (q_load1 Try.isAgg3 rfl (hS.cell (by repeat first | exact .here _ _ | assumption | apply Pick.there) rfl)) ?_
        refine t_yes rfl rfl hg6 ?_
        refine t_q (q_neq rfl rfl) ?_
        refine t_q (q_pick_f rfl hg6) ?_
        refine t_q (q_mv (.bool _) rfl) ?_
        refine t_case 31 rfl ?_ ?_
        · intro hg8
          have hg8d := of_decide_eq_true hg8
          refine t_no rfl rfl (by rw [hg8]; decide) ?_
          refine t_no rfl rfl (by rw [hg8]; decide) ?_
          refine t_no rfl rfl (by rw [hg8]; decide) ?_
          refine t_no rfl rfl (by rw [hg8]; decide) ?_
          refine t_no rfl rfl (by rw [hg8]; decide) ?_
          refine t_q (q_pick_t rfl hg8) ?_
          refine t_nil ?_
          refine c_cond_t rfl rfl ?_
          refine c_seq ?_
          refine c_region ?_
          refine t_q (q_assign) ?_
          refine t_nil ?_
          refine c_ret ?_
          refine r_one rfl rfl ?_
          have hN := hS.nil
          clear hS
          refine ⟨congrArg (fun b => Ending.returned (.bool b)) ?_, hN⟩
          clear hN
          rw [Bool.eq_iff_iff, decide_eq_true_iff (p := x.vw = y.vw), cm_iff]
          clear hx hy
          simp_all
        · intro hg8
          have hg8d := of_decide_eq_false hg8
          refine t_yes rfl rfl hg8 ?_
          refine t_q (q_fieldAddr 4 Try.runUnderlying49 rfl Try.sizeOf26 (by decide) rfl rfl) ?_
          refine t_yes rfl rfl hg8 ?_
          refine t_q (q_load1 Try.isAgg26 rfl (hS.cell (by repeat first | exact .here _ _ | assumption | apply Pick.there) rfl)) ?_
          refine t_yes rfl rfl hg8 ?_
          refine t_q (q_fieldAddr 4 Try.runUnderlying49 rfl Try.sizeOf26 (by decide) rfl rfl) ?_
          refine t_yes rfl rfl hg8 ?_
          refine t_q (q_load1 Try.isAgg26 rfl (hS.cell (by repeat first | exact .here _ _ | assumption | apply Pick.there) rfl)) ?_
          refine t_yes rfl rfl hg8 ?_
          refine t_q (q_neq rfl rfl) ?_
          refine t_q (q_pick_f rfl hg8) ?_
          refine t_nil ?_
          refine c_cond rfl ?_ ?_
          · intro hc10
            have hc10d := of_decide_eq_true hc10
            refine c_seq ?_
            refine c_region ?_
            refine t_q (q_assign) ?_
            refine t_nil ?_
            refine c_ret ?_
            refine r_one rfl rfl ?_
            have hN := hS.nil
            clear hS
            refine ⟨congrArg (fun b => Ending.returned (.bool b)) ?_, hN⟩
            clear hN
            rw [Bool.eq_iff_iff, decide_eq_true_iff (p := x.vw = y.vw), cm_iff]
            clear hx hy
            simp_all
          · intro hc10
            have hc10d := of_decide_eq_false hc10
            refine c_skip ?_
            refine c_seq ?_
            refine c_seq ?_
            refine c_region ?_
            refine t_q (q_fieldAddr 5 Try.runUnderlying49 rfl Try.sizeOf3 (by decide) rfl rfl) ?_
            refine t_q (q_load1 Try.isAgg3 rfl (hS.cell (by repeat first | exact .here _ _ | assumption | apply Pick.there) rfl)) ?_
            refine t_q (q_fieldAddr 5 Try.runUnderlying49 rfl Try.sizeOf3 (by decide) rfl rfl) ?_
            refine t_q (q_load1 Try.isAgg3 rfl (hS.cell (by repeat first | exact .here _ _ | assumption | apply Pick.there) rfl)) ?_
            refine t_q (q_neq rfl rfl) ?_
            refine t_q (q_mv (.bool _) rfl) ?_
            refine t_case 43 rfl ?_ ?_
            · intro hg12
              have hg12d := of_decide_eq_true hg12
              refine t_no rfl rfl (by rw [hg12]; decide) ?_
              refine t_no rfl rfl (by rw [hg12]; decide) ?_
              refine t_no rfl rfl (by rw [hg12]; decide) ?_
              refine t_no rfl rfl (by rw [hg12]; decide) ?_
              refine t_no rfl rfl (by rw [hg12]; decide) ?_
              refine t_q (q_pick_t rfl hg12) ?_
              refine t_q (q_mv (.bool _) rfl) ?_
              refine t_no rfl rfl (by decide) ?_
              refine t_no rfl rfl (by decide) ?_
              refine t_no rfl rfl (by decide) ?_
              refine t_no rfl rfl (by decide) ?_
              refine t_no rfl rfl (by decide) ?_
              refine t_q (q_pick_t rfl rfl) ?_
              refine t_q (q_mv (.bool _) rfl) ?_
              refine t_no rfl rfl (by decide) ?_
              refine t_no rfl rfl (by decide) ?_
              refine t_no rfl rfl (by decide) ?_
              refine t_no rfl rfl (by decide) ?_
              refine t_no rfl rfl (by decide) ?_
              refine t_q (q_pick_t rfl rfl) ?_
              refine t_q (q_mv (.bool _) rfl) ?_
              refine t_no rfl rfl (by decide) ?_
              refine t_no rfl rfl (by decide) ?_
              refine t_no rfl rfl (by decide) ?_
              refine t_no rfl rfl (by decide) ?_
              refine t_no rfl rfl (by decide) ?_
              refine t_q (q_pick_t rfl rfl) ?_
              refine t_nil ?_
              refine c_cond_t rfl rfl ?_
              refine c_seq ?_
              refine c_region ?_
              refine t_q (q_assign) ?_
              refine t_nil ?_
              refine c_ret ?_
              refine r_one rfl rfl ?_
              have hN := hS.nil
              clear hS
              refine ⟨congrArg (fun b => Ending.returned (.bool b)) ?_, hN⟩
              clear hN
              rw [Bool.eq_iff_iff, decide_eq_true_iff (p := x.vw = y.vw), cm_iff]
              clear hx hy
              simp_all
            · intro hg12
              have hg12d := of_decide_eq_false hg12
              refine t_yes rfl rfl hg12 ?_
              refine t_q (q_fieldAddr 6 Try.runUnderlying49 rfl Try.sizeOf3 (by decide) rfl rfl) ?_
              refine t_yes rfl rfl hg12 ?_
              refine t_q (q_load1 Try.isAgg3 rfl (hS.cell (by repeat first | exact .here _ _ | assumption | apply Pick.there) rfl)) ?_
              refine t_yes rfl rfl hg12 ?_
              refine t_q (q_fieldAddr 6 Try.runUnderlying49 rfl Try.sizeOf3 (by decide) rfl rfl) ?_
              refine t_yes rfl rfl hg12 ?_
              refine t_q (q_load1 Try.isAgg3 rfl (hS.cell (by repeat first | exact .here _ _ | assumption | apply Pick.there) rfl)) ?_
              refine t_yes rfl rfl hg12 ?_
              refine t_q (q_neq rfl rfl) ?_
              refine t_q (q_pick_f rfl hg12) ?_
              refine t_q (q_mv (.bool _) rfl) ?_
              refine t_case 50 rfl ?_ ?_
              · intro hg14
                have hg14d := of_decide_eq_true hg14
                refine t_no rfl rfl (by rw [hg14]; decide) ?_
                refine t_no rfl rfl (by rw [hg14]; decide) ?_
                refine t_no rfl rfl (by rw [hg14]; decide) ?_
                refine t_no rfl rfl (by rw [hg14]; decide) ?_
                refine t_no rfl rfl (by rw [hg14]; decide) ?_
                refine t_q (q_pick_t rfl hg14) ?_
                refine t_q (q_mv (.bool _) rfl) ?_
                refine t_no rfl rfl (by decide) ?_
                refine t_no rfl rfl (by decide) ?_
                refine t_no rfl rfl (by decide) ?_
                refine t_no rfl rfl (by decide) ?_
                refine t_no rfl rfl (by decide) ?_
                refine t_q (q_pick_t rfl rfl) ?_
                refine t_q (q_mv (.bool _) rfl) ?_
                refine t_no rfl rfl (by decide) ?_
                refine t_no rfl rfl (by decide) ?_
                refine t_no rfl rfl (by decide) ?_
                refine t_no rfl rfl (by decide) ?_
                refine t_no rfl rfl (by decide) ?_
                refine t_q (q_pick_t rfl rfl) ?_
                refine t_nil ?_
                refine c_cond_t rfl rfl ?_
                refine c_seq ?_
                refine c_region ?_
                refine t_q (q_assign) ?_
                refine t_nil ?_
                refine c_ret ?_
                refine r_one rfl rfl ?_
                have hN := hS.nil
                clear hS
                refine ⟨congrArg (fun b => Ending.returned (.bool b)) ?_, hN⟩
                clear hN
                rw [Bool.eq_iff_iff, decide_eq_true_iff (p := x.vw = y.vw), cm_iff]
                clear hx hy
                simp_all
              · intro hg14
                have hg14d := of_decide_eq_false hg14
                refine t_yes rfl rfl hg14 ?_
                refine t_q (q_fieldAddr 7 Try.runUnderlying49 rfl Try.sizeOf3 (by decide) rfl rfl) ?_
                refine t_yes rfl rfl hg14 ?_
                refine t_q (q_load1 Try.isAgg3 rfl (hS.cell (by repeat first | exact .here _ _ | assumption | apply Pick.there) rfl)) ?_
                refine t_yes rfl rfl hg14 ?_
                refine t_q (q_fieldAddr 7 Try.runUnderlying49 rfl Try.sizeOf3 (by decide) rfl rfl) ?_
                refine t_yes rfl rfl hg14 ?_
                refine t_q (q_load1 Try.isAgg3 rfl (hS.cell (by repeat first | exact .here _ _ | assumption | apply Pick.there) rfl)) ?_
                refine t_yes rfl rfl hg14 ?_
                refine t_q (q_neq rfl rfl) ?_
                refine t_q (q_pick_f rfl hg14) ?_
                refine t_q (q_mv (.bool _) rfl) ?_
                refine t_case 57 rfl ?_ ?_
                · intro hg16
                  have hg16d := of_decide_eq_true hg16
                  refine t_no rfl rfl (by rw [hg16]; decide) ?_
                  refine t_no rfl rfl (by rw [hg16]; decide) ?_
                  refine t_no rfl rfl (by rw [hg16]; decide) ?_
                  refine t_no rfl rfl (by rw [hg16]; decide) ?_
                  refine t_no rfl rfl (by rw [hg16]; decide) ?_
                  refine t_q (q_pick_t rfl hg16) ?_
                  refine t_q (q_mv (.bool _) rfl) ?_
                  refine t_no rfl rfl (by decide) ?_
                  refine t_no rfl rfl (by decide) ?_
                  refine t_no rfl rfl (by decide) ?_
                  refine t_no rfl rfl (by decide) ?_
                  refine t_no rfl rfl (by decide) ?_
                  refine t_q (q_pick_t rfl rfl) ?_
                  refine t_nil ?_
                  refine c_cond_t rfl rfl ?_
                  refine c_seq ?_
                  refine c_region ?_
                  refine t_q (q_assign) ?_
                  refine t_nil ?_
                  refine c_ret ?_
                  refine r_one rfl rfl ?_
                  have hN := hS.nil
                  clear hS
                  refine ⟨congrArg (fun b => Ending.returned (.bool b)) ?_, hN⟩
                  clear hN
                  rw [Bool.eq_iff_iff, decide_eq_true_iff (p := x.vw = y.vw), cm_iff]
                  clear hx hy
                  simp_all
                · intro hg16
                  have hg16d := of_decide_eq_false hg16
                  refine t_yes rfl rfl hg16 ?_
                  refine t_q (q_fieldAddr 8 Try.runUnderlying49 rfl Try.sizeOf2 (by decide) rfl rfl) ?_
                  refine t_yes rfl rfl hg16 ?_
                  refine t_q (q_load1 Try.isAgg2 rfl (hS.cell (by repeat first | exact .here _ _ | assumption | apply Pick.there) rfl)) ?_
                  refine t_yes rfl rfl hg16 ?_
                  refine t_q (q_fieldAddr 8 Try.runUnderlying49 rfl Try.sizeOf2 (by decide) rfl rfl) ?_
                  refine t_yes rfl rfl hg16 ?_
                  refine t_q (q_load1 Try.isAgg2 rfl (hS.cell (by repeat first | exact .here _ _ | assumption | apply Pick.there) rfl)) ?_
                  refine t_yes rfl rfl hg16 ?_
                  refine t_q (q_neq rfl rfl) ?_
                  refine t_q (q_pick_f rfl hg16) ?_
                  refine t_q (q_mv (.bool _) rfl) ?_
                  refine t_case 64 rfl ?_ ?_
                  · intro hg18
                    have hg18d := of_decide_eq_true hg18
                    refine t_no rfl rfl (by rw [hg18]; decide) ?_
                    refine t_no rfl rfl (by rw [hg18]; decide) ?_
                    refine t_no rfl rfl (by rw [hg18]; decide) ?_
                    refine t_no rfl rfl (by rw [hg18]; decide) ?_
                    refine t_no rfl rfl (by rw [hg18]; decide) ?_
                    refine t_q (q_pick_t rfl hg18) ?_
                    refine t_nil ?_
                    refine c_cond_t rfl rfl ?_
                    refine c_seq ?_
                    refine c_region ?_
                    refine t_q (q_assign) ?_
                    refine t_nil ?_
                    refine c_ret ?_
                    refine r_one rfl rfl ?_
                    have hN := hS.nil
                    clear hS
                    refine ⟨congrArg (fun b => Ending.returned (.bool b)) ?_, hN⟩
                    clear hN
                    rw [Bool.eq_iff_iff, decide_eq_true_iff (p := x.vw = y.vw), cm_iff]
                    clear hx hy
                    simp_all
                  · intro hg18
                    have hg18d := of_decide_eq_false hg18
                    refine t_yes rfl rfl hg18 ?_
                    refine t_q (q_fieldAddr 9 Try.runUnderlying49 rfl Try.sizeOf2 (by decide) rfl rfl) ?_
                    refine t_yes rfl rfl hg18 ?_
                    refine t_q (q_load1 Try.isAgg2 rfl (hS.cell (by repeat first | exact .here _ _ | assumption | apply Pick.there) rfl)) ?_
                    refine t_yes rfl rfl hg18 ?_
                    refine t_q (q_fieldAddr 9 Try.runUnderlying49 rfl Try.sizeOf2 (by decide) rfl rfl) ?_
                    refine t_yes rfl rfl hg18 ?_
                    refine t_q (q_load1 Try.isAgg2 rfl (hS.cell (by repeat first | exact .here _ _ | assumption | apply Pick.there) rfl)) ?_
                    refine t_yes rfl rfl hg18 ?_
                    refine t_q (q_neq rfl rfl) ?_
                    refine t_q (q_pick_f rfl hg18) ?_
                    refine t_nil ?_
                    refine c_cond rfl ?_ ?_
                    · intro hc20
                      have hc20d := of_decide_eq_true hc20
                      refine c_seq ?_
                      refine c_region ?_
                      refine t_q (q_assign) ?_
                      refine t_nil ?_
                      refine c_ret ?_
                      refine r_one rfl rfl ?_
                      have hN := hS.nil
                      clear hS
                      refine ⟨congrArg (fun b => Ending.returned (.bool b)) ?_, hN⟩
                      clear hN
                      rw [Bool.eq_iff_iff, decide_eq_true_iff (p := x.vw = y.vw), cm_iff]
                      clear hx hy
                      simp_all
                    · intro hc20
                      have hc20d := of_decide_eq_false hc20
                      refine c_skip ?_
                      refine c_seq ?_
                      refine c_region ?_
                      refine t_q (q_fieldAddr 10 Try.runUnderlying49 rfl Try.sizeOf3 (by decide) rfl rfl) ?_
                      refine t_q (q_load1 Try.isAgg3 rfl (hS.cell (by repeat first | exact .here _ _ | assumption | apply Pick.there) rfl)) ?_
                      refine t_q (q_fieldAddr 10 Try.runUnderlying49 rfl Try.sizeOf3 (by decide) rfl rfl) ?_
                      refine t_q (q_load1 Try.isAgg3 rfl (hS.cell (by repeat first | exact .here _ _ | assumption | apply Pick.there) rfl)) ?_
                      refine t_q (q_eql rfl rfl) ?_
                      refine t_q (q_mv (.bool _) rfl) ?_
                      refine t_case 76 rfl ?_ ?_
                      · intro hg22
                        have hg22d := of_decide_eq_true hg22
                        refine t_yes rfl rfl hg22 ?_
                        refine t_q (q_fieldAddr 11 Try.runUnderlying49 rfl Try.sizeOf3 (by decide) rfl rfl) ?_
                        refine t_yes rfl rfl hg22 ?_
                        refine t_q (q_load1 Try.isAgg3 rfl (hS.cell (by repeat first | exact .here _ _ | assumption | apply Pick.there) rfl)) ?_
                        refine t_yes rfl rfl hg22 ?_
                        refine t_q (q_fieldAddr 11 Try.runUnderlying49 rfl Try.sizeOf3 (by decide) rfl rfl) ?_
                        refine t_yes rfl rfl hg22 ?_
                        refine t_q (q_load1 Try.isAgg3 rfl (hS.cell (by repeat first | exact .here _ _ | assumption | apply Pick.there) rfl)) ?_
                        refine t_yes rfl rfl hg22 ?_
                        refine t_q (q_eql rfl rfl) ?_
                        refine t_q (q_pick_t rfl hg22) ?_
                        refine t_q (q_mv (.bool _) rfl) ?_
                        refine t_case 83 rfl ?_ ?_
                        · intro hg24
                          have hg24d := of_decide_eq_true hg24
                          refine t_yes rfl rfl hg24 ?_
                          refine t_q (q_fieldAddr 12 Try.runUnderlying49 rfl Try.sizeOf26 (by decide) rfl rfl) ?_
                          refine t_yes rfl rfl hg24 ?_
                          refine t_q (q_load1 Try.isAgg26 rfl (hS.cell (by repeat first | exact .here _ _ | assumption | apply Pick.there) rfl)) ?_
                          refine t_yes rfl rfl hg24 ?_
                          refine t_q (q_fieldAddr 12 Try.runUnderlying49 rfl Try.sizeOf26 (by decide) rfl rfl) ?_
                          refine t_yes rfl rfl hg24 ?_
                          refine t_q (q_load1 Try.isAgg26 rfl (hS.cell (by repeat first | exact .here _ _ | assumption | apply Pick.there) rfl)) ?_
                          refine t_yes rfl rfl hg24 ?_
                          refine t_q (q_eql rfl rfl) ?_
                          refine t_q (q_pick_t rfl hg24) ?_
                          refine t_q (q_mv (.bool _) rfl) ?_
                          refine t_case 90 rfl ?_ ?_
                          · intro hg26
                            have hg26d := of_decide_eq_true hg26
                            refine t_yes rfl rfl hg26 ?_
                            refine t_q (q_fieldAddr 13 Try.runUnderlying49 rfl Try.sizeOf47 (by decide) rfl rfl) ?_
                            refine t_yes rfl rfl hg26 ?_
                            refine t_q (q_cast (v' := .agg x.rules.cells.toArray) (q_load_sub Try.isAgg47 Try.sizeOf47 rfl (hS.blk (by repeat first | exact .here _ _ | assumption | apply Pick.there)) (by show 0 + 13 + 9 ≤ 22; decide)) (by rfl)) ?_
                            refine t_yes rfl rfl hg26 ?_
                            refine t_q (q_fieldAddr 13 Try.runUnderlying49 rfl Try.sizeOf47 (by decide) rfl rfl) ?_
                            refine t_yes rfl rfl hg26 ?_
                            refine t_q (q_cast (v' := .agg y.rules.cells.toArray) (q_load_sub Try.isAgg47 Try.sizeOf47 rfl (hS.blk (by repeat first | exact .here _ _ | assumption | apply Pick.there)) (by show 0 + 13 + 9 ≤ 22; decide)) (by rfl)) ?_
                            refine t_yes rfl rfl hg26 ?_
                            refine t_call Try.call102 (rsame_calls (x := x.rules) (y := y.rules) (hx.rules.st hS) (hy.rules.st hS)) rfl ?_
                            rintro e w ⟨rfl, hT⟩
                            refine ⟨_, rfl, ?_⟩
                            replace hS := hS.after hT
                            refine t_q (q_pick_t rfl hg26) ?_
                            refine t_q (q_as (.bool _) rfl) ?_
                            refine t_nil ?_
                            refine c_ret ?_
                            refine r_one rfl rfl ?_
                            have hN := hS.nil
                            clear hS
                            refine ⟨congrArg (fun b => Ending.returned (.bool b)) ?_, hN⟩
                            clear hN
                            rw [Bool.eq_iff_iff, decide_eq_true_iff (p := x.vw = y.vw), cm_iff]
                            clear hx hy
                            simp_all
                          · intro hg26
                            have hg26d := of_decide_eq_false hg26
                            refine t_no rfl rfl (by rw [hg26]; decide) ?_
                            refine t_no rfl rfl (by rw [hg26]; decide) ?_
                            refine t_no rfl rfl (by rw [hg26]; decide) ?_
                            refine t_no rfl rfl (by rw [hg26]; decide) ?_
                            refine t_no rfl rfl (by rw [hg26]; decide) ?_
                            refine t_q (q_pick_f rfl hg26) ?_
                            refine t_q (q_as (.bool _) rfl) ?_
                            refine t_nil ?_
                            refine c_ret ?_
                            refine r_one rfl rfl ?_
                            have hN := hS.nil
                            clear hS
                            refine ⟨congrArg (fun b => Ending.returned (.bool b)) ?_, hN⟩
                            clear hN
                            rw [Bool.eq_iff_iff, decide_eq_true_iff (p := x.vw = y.vw), cm_iff]
                            clear hx hy
                            simp_all
                        · intro hg24
                          have hg24d := of_decide_eq_false hg24
                          refine t_no rfl rfl (by rw [hg24]; decide) ?_
                          refine t_no rfl rfl (by rw [hg24]; decide) ?_
                          refine t_no rfl rfl (by rw [hg24]; decide) ?_
                          refine t_no rfl rfl (by rw [hg24]; decide) ?_
                          refine t_no rfl rfl (by rw [hg24]; decide) ?_
                          refine t_q (q_pick_f rfl hg24) ?_
                          refine t_q (q_mv (.bool _) rfl) ?_
                          refine t_no rfl rfl (by decide) ?_
                          refine t_no rfl rfl (by decide) ?_
                          refine t_no rfl rfl (by decide) ?_
                          refine t_no rfl rfl (by decide) ?_
                          refine t_no rfl rfl (by decide) ?_
                          refine t_q (q_pick_f rfl rfl) ?_
                          refine t_q (q_as (.bool _) rfl) ?_
                          refine t_nil ?_
                          refine c_ret ?_
                          refine r_one rfl rfl ?_
                          have hN := hS.nil
                          clear hS
                          refine ⟨congrArg (fun b => Ending.returned (.bool b)) ?_, hN⟩
                          clear hN
                          rw [Bool.eq_iff_iff, decide_eq_true_iff (p := x.vw = y.vw), cm_iff]
                          clear hx hy
                          simp_all
                      · intro hg22
                        have hg22d := of_decide_eq_false hg22
                        refine t_no rfl rfl (by rw [hg22]; decide) ?_
                        refine t_no rfl rfl (by rw [hg22]; decide) ?_
                        refine t_no rfl rfl (by rw [hg22]; decide) ?_
                        refine t_no rfl rfl (by rw [hg22]; decide) ?_
                        refine t_no rfl rfl (by rw [hg22]; decide) ?_
                        refine t_q (q_pick_f rfl hg22) ?_
                        refine t_q (q_mv (.bool _) rfl) ?_
                        refine t_no rfl rfl (by decide) ?_
                        refine t_no rfl rfl (by decide) ?_
                        refine t_no rfl rfl (by decide) ?_
                        refine t_no rfl rfl (by decide) ?_
                        refine t_no rfl rfl (by decide) ?_
                        refine t_q (q_pick_f rfl rfl) ?_
                        refine t_q (q_mv (.bool _) rfl) ?_
                        refine t_no rfl rfl (by decide) ?_
                        refine t_no rfl rfl (by decide) ?_
                        refine t_no rfl rfl (by decide) ?_
                        refine t_no rfl rfl (by decide) ?_
                        refine t_no rfl rfl (by decide) ?_
                        refine t_q (q_pick_f rfl rfl) ?_
                        refine t_q (q_as (.bool _) rfl) ?_
                        refine t_nil ?_
                        refine c_ret ?_
                        refine r_one rfl rfl ?_
                        have hN := hS.nil
                        clear hS
                        refine ⟨congrArg (fun b => Ending.returned (.bool b)) ?_, hN⟩
                        clear hN
                        rw [Bool.eq_iff_iff, decide_eq_true_iff (p := x.vw = y.vw), cm_iff]
                        clear hx hy
                        simp_all
end Go.Proofs.Ytmgobaojioaioaa
