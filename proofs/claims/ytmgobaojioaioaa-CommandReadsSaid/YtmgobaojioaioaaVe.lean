/- Commands: which may be: the document's. -/
import Derived.Test.YtmgobaojioaioaaVa
import Derived.Test.YtmgobaojioaioaaUd
namespace Go.Proofs.Ytmgobaojioaioaa
open Go Go.RowKit Go.Lib
variable {W : World}
attribute [local irreducible] blkA rowA
set_option maxHeartbeats 4000000 in
set_option maxRecDepth 100000 in
theorem qcsame_calls {x y : CmdV} (hx : x.Gd W) (hy : y.Gd W) : Calls Try.prog 46 #[.agg x.cells.toArray, .agg y.cells.toArray] W fun e w' => e = .returned (.bool (decide (x.vw = y.vw))) ∧ St W w' [] := by
  have hS := St.init W
  refine calls_of_wpE (args := [_, _]) Try.func46 rfl rfl rfl ?_
  refine c_seq ?_
  refine c_region ?_
  refine t_box (v := (.agg _)) rfl rfl hS (fun g2 w hS => ?_)
  replace hS := hS.recast (show _ = blkA g2 49 [.int .i64 x.kind, .int .u64 x.client, .int .u64 x.req, .int .i64 x.account, .int .u64 x.id, .int .i64 x.side, .int .i64 x.typ, .int .i64 x.asset, .int .i64 x.price, .int .i64 x.qty, .int .i64 x.version, .int .i64 x.replica, .int .u64 x.at_, .int .i64 x.rules.version, .slice x.rules.ticks.A x.rules.ticks.l.length x.rules.ticks.c, .int .i64 x.rules.lot, .int .i64 x.rules.band, .slice x.rules.fees.A x.rules.fees.l.length x.rules.fees.c, .int .i64 x.rules.round, .int .i64 x.rules.priority, .int .i64 x.rules.self, .int .i64 x.rules.layout] from rfl)
  refine t_box (v := (.agg _)) rfl rfl hS (fun g3 w hS => ?_)
  replace hS := hS.recast (show _ = blkA g3 49 [.int .i64 y.kind, .int .u64 y.client, .int .u64 y.req, .int .i64 y.account, .int .u64 y.id, .int .i64 y.side, .int .i64 y.typ, .int .i64 y.asset, .int .i64 y.price, .int .i64 y.qty, .int .i64 y.version, .int .i64 y.replica, .int .u64 y.at_, .int .i64 y.rules.version, .slice y.rules.ticks.A y.rules.ticks.l.length y.rules.ticks.c, .int .i64 y.rules.lot, .int .i64 y.rules.band, .slice y.rules.fees.A y.rules.fees.l.length y.rules.fees.c, .int .i64 y.rules.round, .int .i64 y.rules.priority, .int .i64 y.rules.self, .int .i64 y.rules.layout] from rfl)
  refine t_q (q_assign) ?_
  refine t_nil ?_
  refine c_seq ?_
  refine c_region ?_
  refine t_q (q_fieldAddr 0 Try.runUnderlying49 rfl Try.sizeOf3 (by decide) rfl rfl) ?_
  refine t_q (q_load1 Try.isAgg3 rfl (hS.cell (by repeat first | exact .here _ _ | assumption | apply Pick.there) rfl)) ?_
  refine t_q (q_fieldAddr 0 Try.runUnderlying49 rfl Try.sizeOf3 (by decide) rfl rfl) ?_
  refine t_q (q_load1 Try.isAgg3 rfl (hS.cell (by repeat first | exact .here _ _ | assumption | apply Pick.there) rfl)) ?_
  refine t_q (q_eql rfl rfl) ?_
  refine t_q (q_mv (.bool _) rfl) ?_
  refine t_case 11 rfl ?_ ?_
  · intro hg2
    have hg2d := of_decide_eq_true hg2
    refine t_yes rfl rfl hg2 ?_
    refine t_q (q_fieldAddr 1 Try.runUnderlying49 rfl Try.sizeOf26 (by decide) rfl rfl) ?_
    refine t_yes rfl rfl hg2 ?_
    refine t_q (q_load1 Try.isAgg26 rfl (hS.cell (by repeat first | exact .here _ _ | assumption | apply Pick.there) rfl)) ?_
    refine t_yes rfl rfl hg2 ?_
    refine t_q (q_fieldAddr 1 Try.runUnderlying49 rfl Try.sizeOf26 (by decide) rfl rfl) ?_
    refine t_yes rfl rfl hg2 ?_
    refine t_q (q_load1 Try.isAgg26 rfl (hS.cell (by repeat first | exact .here _ _ | assumption | apply Pick.there) rfl)) ?_
    refine t_yes rfl rfl hg2 ?_
    refine t_q (q_eql rfl rfl) ?_
    refine t_q (q_pick_t rfl hg2) ?_
    refine t_q (q_mv (.bool _) rfl) ?_
    refine t_case 18 rfl ?_ ?_
    · intro hg4
      have hg4d := of_decide_eq_true hg4
      refine t_yes rfl rfl hg4 ?_
      refine t_q (q_fieldAddr 2 Try.runUnderlying49 rfl Try.sizeOf26 (by decide) rfl rfl) ?_
      refine t_yes rfl rfl hg4 ?_
      refine t_q (q_load1 Try.isAgg26 rfl (hS.cell (by repeat first | exact .here _ _ | assumption | apply Pick.there) rfl)) ?_
      refine t_yes rfl rfl hg4 ?_
      refine t_q (q_fieldAddr 2 Try.runUnderlying49 rfl Try.sizeOf26 (by decide) rfl rfl) ?_
      refine t_yes rfl rfl hg4 ?_
      refine t_q (q_load1 Try.isAgg26 rfl (hS.cell (by repeat first | exact .here _ _ | assumption | apply Pick.there) rfl)) ?_
      refine t_yes rfl rfl hg4 ?_
      refine t_q (q_eql rfl rfl) ?_
      refine t_q (q_pick_t rfl hg4) ?_
      refine t_q (q_mv (.bool _) rfl) ?_
      refine t_case 25 rfl ?_ ?_
      · intro hg6
        have hg6d := of_decide_eq_true hg6
        refine t_yes rfl rfl hg6 ?_
        refine t_q (q_fieldAddr 3 Try.runUnderlying49 rfl Try.sizeOf3 (by decide) rfl rfl) ?_
        refine t_yes rfl rfl hg6 ?_
        refine t_q (q_load1 Try.isAgg3 rfl (hS.cell (by repeat first | exact .here _ _ | assumption | apply Pick.there) rfl)) ?_
        refine t_yes rfl rfl hg6 ?_
        refine t_q (q_fieldAddr 3 Try.runUnderlying49 rfl Try.sizeOf3 (by decide) rfl rfl) ?_
        refine t_yes rfl rfl hg6 ?_
        refine t_q (q_load1 Try.isAgg3 rfl (hS.cell (by repeat first | exact .here _ _ | assumption | apply Pick.there) rfl)) ?_
        refine t_yes rfl rfl hg6 ?_
        refine t_q (q_eql rfl rfl) ?_
        refine t_q (q_pick_t rfl hg6) ?_
        refine t_q (q_mv (.bool _) rfl) ?_
        refine t_case 32 rfl ?_ ?_
        · intro hg8
          have hg8d := of_decide_eq_true hg8
          refine t_yes rfl rfl hg8 ?_
          refine t_q (q_fieldAddr 4 Try.runUnderlying49 rfl Try.sizeOf26 (by decide) rfl rfl) ?_
          refine t_yes rfl rfl hg8 ?_
          refine t_q (q_load1 Try.isAgg26 rfl (hS.cell (by repeat first | exact .here _ _ | assumption | apply Pick.there) rfl)) ?_
          refine t_yes rfl rfl hg8 ?_
          refine t_q (q_fieldAddr 4 Try.runUnderlying49 rfl Try.sizeOf26 (by decide) rfl rfl) ?_
          refine t_yes rfl rfl hg8 ?_
          refine t_q (q_load1 Try.isAgg26 rfl (hS.cell (by repeat first | exact .here _ _ | assumption | apply Pick.there) rfl)) ?_
          refine t_yes rfl rfl hg8 ?_
          refine t_q (q_eql rfl rfl) ?_
          refine t_q (q_pick_t rfl hg8) ?_
          refine t_q (q_mv (.bool _) rfl) ?_
          refine t_case 39 rfl ?_ ?_
          · intro hg10
            have hg10d := of_decide_eq_true hg10
            refine t_yes rfl rfl hg10 ?_
            refine t_q (q_fieldAddr 5 Try.runUnderlying49 rfl Try.sizeOf3 (by decide) rfl rfl) ?_
            refine t_yes rfl rfl hg10 ?_
            refine t_q (q_load1 Try.isAgg3 rfl (hS.cell (by repeat first | exact .here _ _ | assumption | apply Pick.there) rfl)) ?_
            refine t_yes rfl rfl hg10 ?_
            refine t_q (q_fieldAddr 5 Try.runUnderlying49 rfl Try.sizeOf3 (by decide) rfl rfl) ?_
            refine t_yes rfl rfl hg10 ?_
            refine t_q (q_load1 Try.isAgg3 rfl (hS.cell (by repeat first | exact .here _ _ | assumption | apply Pick.there) rfl)) ?_
            refine t_yes rfl rfl hg10 ?_
            refine t_q (q_eql rfl rfl) ?_
            refine t_q (q_pick_t rfl hg10) ?_
            refine t_q (q_mv (.bool _) rfl) ?_
            refine t_case 46 rfl ?_ ?_
            · intro hg12
              have hg12d := of_decide_eq_true hg12
              refine t_yes rfl rfl hg12 ?_
              refine t_q (q_fieldAddr 6 Try.runUnderlying49 rfl Try.sizeOf3 (by decide) rfl rfl) ?_
              refine t_yes rfl rfl hg12 ?_
              refine t_q (q_load1 Try.isAgg3 rfl (hS.cell (by repeat first | exact .here _ _ | assumption | apply Pick.there) rfl)) ?_
              refine t_yes rfl rfl hg12 ?_
              refine t_q (q_fieldAddr 6 Try.runUnderlying49 rfl Try.sizeOf3 (by decide) rfl rfl) ?_
              refine t_yes rfl rfl hg12 ?_
              refine t_q (q_load1 Try.isAgg3 rfl (hS.cell (by repeat first | exact .here _ _ | assumption | apply Pick.there) rfl)) ?_
              refine t_yes rfl rfl hg12 ?_
              refine t_q (q_eql rfl rfl) ?_
              refine t_q (q_pick_t rfl hg12) ?_
              refine t_q (q_as (.bool _) rfl) ?_
              refine t_nil ?_
              refine c_seq ?_
              refine c_region ?_
              refine t_q (q_mv (.bool _) rfl) ?_
              refine t_q (q_mv (.bool _) rfl) ?_
              refine t_case 54 rfl ?_ ?_
              · intro hg14
                have hg14d := of_decide_eq_true hg14
                refine t_yes rfl rfl hg14 ?_
                refine t_q (q_fieldAddr 7 Try.runUnderlying49 rfl Try.sizeOf3 (by decide) rfl rfl) ?_
                refine t_yes rfl rfl hg14 ?_
                refine t_q (q_load1 Try.isAgg3 rfl (hS.cell (by repeat first | exact .here _ _ | assumption | apply Pick.there) rfl)) ?_
                refine t_yes rfl rfl hg14 ?_
                refine t_q (q_fieldAddr 7 Try.runUnderlying49 rfl Try.sizeOf3 (by decide) rfl rfl) ?_
                refine t_yes rfl rfl hg14 ?_
                refine t_q (q_load1 Try.isAgg3 rfl (hS.cell (by repeat first | exact .here _ _ | assumption | apply Pick.there) rfl)) ?_
                refine t_yes rfl rfl hg14 ?_
                refine t_q (q_eql rfl rfl) ?_
                refine t_q (q_pick_t rfl hg14) ?_
                refine t_q (q_mv (.bool _) rfl) ?_
                refine t_case 61 rfl ?_ ?_
                · intro hg16
                  have hg16d := of_decide_eq_true hg16
                  refine t_yes rfl rfl hg16 ?_
                  refine t_q (q_fieldAddr 8 Try.runUnderlying49 rfl Try.sizeOf2 (by decide) rfl rfl) ?_
                  refine t_yes rfl rfl hg16 ?_
                  refine t_q (q_load1 Try.isAgg2 rfl (hS.cell (by repeat first | exact .here _ _ | assumption | apply Pick.there) rfl)) ?_
                  refine t_yes rfl rfl hg16 ?_
                  refine t_q (q_fieldAddr 8 Try.runUnderlying49 rfl Try.sizeOf2 (by decide) rfl rfl) ?_
                  refine t_yes rfl rfl hg16 ?_
                  refine t_q (q_load1 Try.isAgg2 rfl (hS.cell (by repeat first | exact .here _ _ | assumption | apply Pick.there) rfl)) ?_
                  refine t_yes rfl rfl hg16 ?_
                  refine t_q (q_eql rfl rfl) ?_
                  refine t_q (q_pick_t rfl hg16) ?_
                  refine t_q (q_mv (.bool _) rfl) ?_
                  refine t_case 68 rfl ?_ ?_
                  · intro hg18
                    have hg18d := of_decide_eq_true hg18
                    refine t_yes rfl rfl hg18 ?_
                    refine t_q (q_fieldAddr 9 Try.runUnderlying49 rfl Try.sizeOf2 (by decide) rfl rfl) ?_
                    refine t_yes rfl rfl hg18 ?_
                    refine t_q (q_load1 Try.isAgg2 rfl (hS.cell (by repeat first | exact .here _ _ | assumption | apply Pick.there) rfl)) ?_
                    refine t_yes rfl rfl hg18 ?_
                    refine t_q (q_fieldAddr 9 Try.runUnderlying49 rfl Try.sizeOf2 (by decide) rfl rfl) ?_
                    refine t_yes rfl rfl hg18 ?_
                    refine t_q (q_load1 Try.isAgg2 rfl (hS.cell (by repeat first | exact .here _ _ | assumption | apply Pick.there) rfl)) ?_
                    refine t_yes rfl rfl hg18 ?_
                    refine t_q (q_eql rfl rfl) ?_
                    refine t_q (q_pick_t rfl hg18) ?_
                    refine t_q (q_mv (.bool _) rfl) ?_
                    refine t_case 75 rfl ?_ ?_
                    · intro hg20
                      have hg20d := of_decide_eq_true hg20
                      refine t_yes rfl rfl hg20 ?_
                      refine t_q (q_fieldAddr 10 Try.runUnderlying49 rfl Try.sizeOf3 (by decide) rfl rfl) ?_
                      refine t_yes rfl rfl hg20 ?_
                      refine t_q (q_load1 Try.isAgg3 rfl (hS.cell (by repeat first | exact .here _ _ | assumption | apply Pick.there) rfl)) ?_
                      refine t_yes rfl rfl hg20 ?_
                      refine t_q (q_fieldAddr 10 Try.runUnderlying49 rfl Try.sizeOf3 (by decide) rfl rfl) ?_
                      refine t_yes rfl rfl hg20 ?_
                      refine t_q (q_load1 Try.isAgg3 rfl (hS.cell (by repeat first | exact .here _ _ | assumption | apply Pick.there) rfl)) ?_
                      refine t_yes rfl rfl hg20 ?_
                      refine t_q (q_eql rfl rfl) ?_
                      refine t_q (q_pick_t rfl hg20) ?_
                      refine t_q (q_mv (.bool _) rfl) ?_
                      refine t_case 82 rfl ?_ ?_
                      · intro hg22
                        have hg22d := of_decide_eq_true hg22
                        refine t_yes rfl rfl hg22 ?_
                        refine t_q (q_fieldAddr 11 Try.runUnderlying49 rfl Try.sizeOf3 (by decide) rfl rfl) ?_
                        refine t_yes rfl rfl hg22 ?_
                        refine t_q (q_load1 Try.isAgg3 rfl (hS.cell (by repeat first | exact .here _ _ | assumption | apply Pick.there) rfl)) ?_
                        refine t_yes rfl rfl hg22 ?_
                        refine t_q (q_fieldAddr 11 Try.runUnderlying49 rfl Try.sizeOf3 (by decide) rfl rfl) ?_
                        refine t_yes rfl rfl hg22 ?_
                        refine t_q (q_load1 Try.isAgg3 rfl (hS.cell (by repeat first | exact .here _ _ | assumption | apply Pick.there) rfl)) ?_
                        refine t_yes rfl rfl hg22 ?_
                        refine t_q (q_eql rfl rfl) ?_
                        refine t_q (q_pick_t rfl hg22) ?_
                        refine t_q (q_mv (.bool _) rfl) ?_
                        refine t_case 89 rfl ?_ ?_
                        · intro hg24
                          have hg24d := of_decide_eq_true hg24
                          refine t_yes rfl rfl hg24 ?_
                          refine t_q (q_fieldAddr 12 Try.runUnderlying49 rfl Try.sizeOf26 (by decide) rfl rfl) ?_
                          refine t_yes rfl rfl hg24 ?_
                          refine t_q (q_load1 Try.isAgg26 rfl (hS.cell (by repeat first | exact .here _ _ | assumption | apply Pick.there) rfl)) ?_
                          refine t_yes rfl rfl hg24 ?_
                          refine t_q (q_fieldAddr 12 Try.runUnderlying49 rfl Try.sizeOf26 (by decide) rfl rfl) ?_
                          refine t_yes rfl rfl hg24 ?_
                          refine t_q (q_load1 Try.isAgg26 rfl (hS.cell (by repeat first | exact .here _ _ | assumption | apply Pick.there) rfl)) ?_
                          refine t_yes rfl rfl hg24 ?_
                          refine t_q (q_eql rfl rfl) ?_
                          refine t_q (q_pick_t rfl hg24) ?_
                          refine t_q (q_mv (.bool _) rfl) ?_
                          refine t_case 96 rfl ?_ ?_
                          · intro hg26
                            have hg26d := of_decide_eq_true hg26
                            refine t_yes rfl rfl hg26 ?_
                            refine t_q (q_fieldAddr 13 Try.runUnderlying49 rfl Try.sizeOf47 (by decide) rfl rfl) ?_
                            refine t_yes rfl rfl hg26 ?_
                            refine t_q (q_cast (v' := .agg x.rules.cells.toArray) (q_load_sub Try.isAgg47 Try.sizeOf47 rfl (hS.blk (by repeat first | exact .here _ _ | assumption | apply Pick.there)) (by show 0 + 13 + 9 ≤ 22; decide)) (by rfl)) ?_
                            refine t_yes rfl rfl hg26 ?_
                            refine t_q (q_fieldAddr 13 Try.runUnderlying49 rfl Try.sizeOf47 (by decide) rfl rfl) ?_
                            refine t_yes rfl rfl hg26 ?_
                            refine t_q (q_cast (v' := .agg y.rules.cells.toArray) (q_load_sub Try.isAgg47 Try.sizeOf47 rfl (hS.blk (by repeat first | exact .here _ _ | assumption | apply Pick.there)) (by show 0 + 13 + 9 ≤ 22; decide)) (by rfl)) ?_
                            refine t_yes rfl rfl hg26 ?_
                            refine t_call Try.call61 (qrsame_calls (x := x.rules) (y := y.rules) (hx.rules.st hS) (hy.rules.st hS)) rfl ?_
                            rintro e w ⟨rfl, hT⟩
                            refine ⟨_, rfl, ?_⟩
                            replace hS := hS.after hT
                            refine t_q (q_pick_t rfl hg26) ?_
                            refine t_q (q_as (.bool _) rfl) ?_
                            refine t_nil ?_
                            refine c_ret ?_
                            refine r_one rfl rfl ?_
                            have hN := hS.nil
                            clear hS
                            refine ⟨congrArg (fun b => Ending.returned (.bool b)) ?_, hN⟩
                            clear hN
                            rw [Bool.eq_iff_iff, decide_eq_true_iff (p := x.vw = y.vw), cm_iff]
                            clear hx hy
                            simp_all
                          · intro hg26
                            have hg26d := of_decide_eq_false hg26
                            refine t_no rfl rfl (by rw [hg26]; decide) ?_
                            refine t_no rfl rfl (by rw [hg26]; decide) ?_
                            refine t_no rfl rfl (by rw [hg26]; decide) ?_
                            refine t_no rfl rfl (by rw [hg26]; decide) ?_
                            refine t_no rfl rfl (by rw [hg26]; decide) ?_
                            refine t_q (q_pick_f rfl hg26) ?_
                            refine t_q (q_as (.bool _) rfl) ?_
                            refine t_nil ?_
                            refine c_ret ?_
                            refine r_one rfl rfl ?_
                            have hN := hS.nil
                            clear hS
                            refine ⟨congrArg (fun b => Ending.returned (.bool b)) ?_, hN⟩
                            clear hN
                            rw [Bool.eq_iff_iff, decide_eq_true_iff (p := x.vw = y.vw), cm_iff]
                            clear hx hy
                            simp_all
                        · intro hg24
                          have hg24d := of_decide_eq_false hg24
                          refine t_no rfl rfl (by rw [hg24]; decide) ?_
                          refine t_no rfl rfl (by rw [hg24]; decide) ?_
                          refine t_no rfl rfl (by rw [hg24]; decide) ?_
                          refine t_no rfl rfl (by rw [hg24]; decide) ?_
                          refine t_no rfl rfl (by rw [hg24]; decide) ?_
                          refine t_q (q_pick_f rfl hg24) ?_
                          refine t_q (q_mv (.bool _) rfl) ?_
                          refine t_no rfl rfl (by decide) ?_
                          refine t_no rfl rfl (by decide) ?_
                          refine t_no rfl rfl (by decide) ?_
                          refine t_no rfl rfl (by decide) ?_
                          refine t_no rfl rfl (by decide) ?_
                          refine t_q (q_pick_f rfl rfl) ?_
                          refine t_q (q_as (.bool _) rfl) ?_
                          refine t_nil ?_
                          refine c_ret ?_
                          refine r_one rfl rfl ?_
                          have hN := hS.nil
                          clear hS
                          refine ⟨congrArg (fun b => Ending.returned (.bool b)) ?_, hN⟩
                          clear hN
                          rw [Bool.eq_iff_iff, decide_eq_true_iff (p := x.vw = y.vw), cm_iff]
                          clear hx hy
                          simp_all
                      · intro hg22
                        have hg22d := of_decide_eq_false hg22
                        refine t_no rfl rfl (by rw [hg22]; decide) ?_
                        refine t_no rfl rfl (by rw [hg22]; decide) ?_
                        refine t_no rfl rfl (by rw [hg22]; decide) ?_
                        refine t_no rfl rfl (by rw [hg22]; decide) ?_
                        refine t_no rfl rfl (by rw [hg22]; decide) ?_
                        refine t_q (q_pick_f rfl hg22) ?_
                        refine t_q (q_mv (.bool _) rfl) ?_
                        refine t_no rfl rfl (by decide) ?_
                        refine t_no rfl rfl (by decide) ?_
                        refine t_no rfl rfl (by decide) ?_
                        refine t_no rfl rfl (by decide) ?_
                        refine t_no rfl rfl (by decide) ?_
                        refine t_q (q_pick_f rfl rfl) ?_
                        refine t_q (q_mv (.bool _) rfl) ?_
                        refine t_no rfl rfl (by decide) ?_
                        refine t_no rfl rfl (by decide) ?_
                        refine t_no rfl rfl (by decide) ?_
                        refine t_no rfl rfl (by decide) ?_
                        refine t_no rfl rfl (by decide) ?_
                        refine t_q (q_pick_f rfl rfl) ?_
                        refine t_q (q_as (.bool _) rfl) ?_
                        refine t_nil ?_
                        refine c_ret ?_
                        refine r_one rfl rfl ?_
                        have hN := hS.nil
                        clear hS
                        refine ⟨congrArg (fun b => Ending.returned (.bool b)) ?_, hN⟩
                        clear hN
                        rw [Bool.eq_iff_iff, decide_eq_true_iff (p := x.vw = y.vw), cm_iff]
                        clear hx hy
                        simp_all
                    · intro hg20
                      have hg20d := of_decide_eq_false hg20
                      refine t_no rfl rfl (by rw [hg20]; decide) ?_
                      refine t_no rfl rfl (by rw [hg20]; decide) ?_
                      refine t_no rfl rfl (by rw [hg20]; decide) ?_
                      refine t_no rfl rfl (by rw [hg20]; decide) ?_
                      refine t_no rfl rfl (by rw [hg20]; decide) ?_
                      refine t_q (q_pick_f rfl hg20) ?_
                      refine t_q (q_mv (.bool _) rfl) ?_
                      refine t_no rfl rfl (by decide) ?_
                      refine t_no rfl rfl (by decide) ?_
                      refine t_no rfl rfl (by decide) ?_
                      refine t_no rfl rfl (by decide) ?_
                      refine t_no rfl rfl (by decide) ?_
                      refine t_q (q_pick_f rfl rfl) ?_
                      refine t_q (q_mv (.bool _) rfl) ?_
                      refine t_no rfl rfl (by decide) ?_
                      refine t_no rfl rfl (by decide) ?_
                      refine t_no rfl rfl (by decide) ?_
                      refine t_no rfl rfl (by decide) ?_
                      refine t_no rfl rfl (by decide) ?_
                      refine t_q (q_pick_f rfl rfl) ?_
                      refine t_q (q_mv (.bool _) rfl) ?_
                      refine t_no rfl rfl (by decide) ?_
                      refine t_no rfl rfl (by decide) ?_
                      refine t_no rfl rfl (by decide) ?_
                      refine t_no rfl rfl (by decide) ?_
                      refine t_no rfl rfl (by decide) ?_
                      refine t_q (q_pick_f rfl rfl) ?_
                      refine t_q (q_as (.bool _) rfl) ?_
                      refine t_nil ?_
                      refine c_ret ?_
                      refine r_one rfl rfl ?_
                      have hN := hS.nil
                      clear hS
                      refine ⟨congrArg (fun b => Ending.returned (.bool b)) ?_, hN⟩
                      clear hN
                      rw [Bool.eq_iff_iff, decide_eq_true_iff (p := x.vw = y.vw), cm_iff]
                      clear hx hy
                      simp_all
                  · intro hg18
                    have hg18d := of_decide_eq_false hg18
                    refine t_no rfl rfl (by rw [hg18]; decide) ?_
                    refine t_no rfl rfl (by rw [hg18]; decide) ?_
                    refine t_no rfl rfl (by rw [hg18]; decide) ?_
                    refine t_no rfl rfl (by rw [hg18]; decide) ?_
                    refine t_no rfl rfl (by rw [hg18]; decide) ?_
                    refine t_q (q_pick_f rfl hg18) ?_
                    refine t_q (q_mv (.bool _) rfl) ?_
                    refine t_no rfl rfl (by decide) ?_
                    refine t_no rfl rfl (by decide) ?_
                    refine t_no rfl rfl (by decide) ?_
                    refine t_no rfl rfl (by decide) ?_
                    refine t_no rfl rfl (by decide) ?_
                    refine t_q (q_pick_f rfl rfl) ?_
                    refine t_q (q_mv (.bool _) rfl) ?_
                    refine t_no rfl rfl (by decide) ?_
                    refine t_no rfl rfl (by decide) ?_
                    refine t_no rfl rfl (by decide) ?_
                    refine t_no rfl rfl (by decide) ?_
                    refine t_no rfl rfl (by decide) ?_
                    refine t_q (q_pick_f rfl rfl) ?_
                    refine t_q (q_mv (.bool _) rfl) ?_
                    refine t_no rfl rfl (by decide) ?_
                    refine t_no rfl rfl (by decide) ?_
                    refine t_no rfl rfl (by decide) ?_
                    refine t_no rfl rfl (by decide) ?_
                    refine t_no rfl rfl (by decide) ?_
                    refine t_q (q_pick_f rfl rfl) ?_
                    refine t_q (q_mv (.bool _) rfl) ?_
                    refine t_no rfl rfl (by decide) ?_
                    refine t_no rfl rfl (by decide) ?_
                    refine t_no rfl rfl (by decide) ?_
                    refine t_no rfl rfl (by decide) ?_
                    refine t_no rfl rfl (by decide) ?_
                    refine t_q (q_pick_f rfl rfl) ?_
                    refine t_q (q_as (.bool _) rfl) ?_
                    refine t_nil ?_
                    refine c_ret ?_
                    refine r_one rfl rfl ?_
                    have hN := hS.nil
                    clear hS
                    refine ⟨congrArg (fun b => Ending.returned (.bool b)) ?_, hN⟩
                    clear hN
                    rw [Bool.eq_iff_iff, decide_eq_true_iff (p := x.vw = y.vw), cm_iff]
                    clear hx hy
                    simp_all
                · intro hg16
                  have hg16d := of_decide_eq_false hg16
                  refine t_no rfl rfl (by rw [hg16]; decide) ?_
                  refine t_no rfl rfl (by rw [hg16]; decide) ?_
                  refine t_no rfl rfl (by rw [hg16]; decide) ?_
                  refine t_no rfl rfl (by rw [hg16]; decide) ?_
                  refine t_no rfl rfl (by rw [hg16]; decide) ?_
                  refine t_q (q_pick_f rfl hg16) ?_
                  refine t_q (q_mv (.bool _) rfl) ?_
                  refine t_no rfl rfl (by decide) ?_
                  refine t_no rfl rfl (by decide) ?_
                  refine t_no rfl rfl (by decide) ?_
                  refine t_no rfl rfl (by decide) ?_
                  refine t_no rfl rfl (by decide) ?_
                  refine t_q (q_pick_f rfl rfl) ?_
                  refine t_q (q_mv (.bool _) rfl) ?_
                  refine t_no rfl rfl (by decide) ?_
                  refine t_no rfl rfl (by decide) ?_
                  refine t_no rfl rfl (by decide) ?_
                  refine t_no rfl rfl (by decide) ?_
                  refine t_no rfl rfl (by decide) ?_
                  refine t_q (q_pick_f rfl rfl) ?_
                  refine t_q (q_mv (.bool _) rfl) ?_
                  refine t_no rfl rfl (by decide) ?_
                  refine t_no rfl rfl (by decide) ?_
                  refine t_no rfl rfl (by decide) ?_
                  refine t_no rfl rfl (by decide) ?_
                  refine t_no rfl rfl (by decide) ?_
                  refine t_q (q_pick_f rfl rfl) ?_
                  refine t_q (q_mv (.bool _) rfl) ?_
                  refine t_no rfl rfl (by decide) ?_
                  refine t_no rfl rfl (by decide) ?_
                  refine t_no rfl rfl (by decide) ?_
                  refine t_no rfl rfl (by decide) ?_
                  refine t_no rfl rfl (by decide) ?_
                  refine t_q (q_pick_f rfl rfl) ?_
                  refine t_q (q_mv (.bool _) rfl) ?_
                  refine t_no rfl rfl (by decide) ?_
                  refine t_no rfl rfl (by decide) ?_
                  refine t_no rfl rfl (by decide) ?_
                  refine t_no rfl rfl (by decide) ?_
                  refine t_no rfl rfl (by decide) ?_
                  refine t_q (q_pick_f rfl rfl) ?_
                  refine t_q (q_as (.bool _) rfl) ?_
                  refine t_nil ?_
                  refine c_ret ?_
                  refine r_one rfl rfl ?_
                  have hN := hS.nil
                  clear hS
                  refine ⟨congrArg (fun b => Ending.returned (.bool b)) ?_, hN⟩
                  clear hN
                  rw [Bool.eq_iff_iff, decide_eq_true_iff (p := x.vw = y.vw), cm_iff]
                  clear hx hy
                  simp_all
              · intro hg14
                have hg14d := of_decide_eq_false hg14
                refine t_no rfl rfl (by rw [hg14]; decide) ?_
                refine t_no rfl rfl (by rw [hg14]; decide) ?_
                refine t_no rfl rfl (by rw [hg14]; decide) ?_
                refine t_no rfl rfl (by rw [hg14]; decide) ?_
                refine t_no rfl rfl (by rw [hg14]; decide) ?_
                refine t_q (q_pick_f rfl hg14) ?_
                refine t_q (q_mv (.bool _) rfl) ?_
                refine t_no rfl rfl (by decide) ?_
                refine t_no rfl rfl (by decide) ?_
                refine t_no rfl rfl (by decide) ?_
                refine t_no rfl rfl (by decide) ?_
                refine t_no rfl rfl (by decide) ?_
                refine t_q (q_pick_f rfl rfl) ?_
                refine t_q (q_mv (.bool _) rfl) ?_
                refine t_no rfl rfl (by decide) ?_
                refine t_no rfl rfl (by decide) ?_
                refine t_no rfl rfl (by decide) ?_
                refine t_no rfl rfl (by decide) ?_
                refine t_no rfl rfl (by decide) ?_
                refine t_q (q_pick_f rfl rfl) ?_
                refine t_q (q_mv (.bool _) rfl) ?_
                refine t_no rfl rfl (by decide) ?_
                refine t_no rfl rfl (by decide) ?_
                refine t_no rfl rfl (by decide) ?_
                refine t_no rfl rfl (by decide) ?_
                refine t_no rfl rfl (by decide) ?_
                refine t_q (q_pick_f rfl rfl) ?_
                refine t_q (q_mv (.bool _) rfl) ?_
                refine t_no rfl rfl (by decide) ?_
                refine t_no rfl rfl (by decide) ?_
                refine t_no rfl rfl (by decide) ?_
                refine t_no rfl rfl (by decide) ?_
                refine t_no rfl rfl (by decide) ?_
                refine t_q (q_pick_f rfl rfl) ?_
                refine t_q (q_mv (.bool _) rfl) ?_
                refine t_no rfl rfl (by decide) ?_
                refine t_no rfl rfl (by decide) ?_
                refine t_no rfl rfl (by decide) ?_
                refine t_no rfl rfl (by decide) ?_
                refine t_no rfl rfl (by decide) ?_
                refine t_q (q_pick_f rfl rfl) ?_
                refine t_q (q_mv (.bool _) rfl) ?_
                refine t_no rfl rfl (by decide) ?_
                refine t_no rfl rfl (by decide) ?_
                refine t_no rfl rfl (by decide) ?_
                refine t_no rfl rfl (by decide) ?_
                refine t_no rfl rfl (by decide) ?_
                refine t_q (q_pick_f rfl rfl) ?_
                refine t_q (q_as (.bool _) rfl) ?_
                refine t_nil ?_
                refine c_ret ?_
                refine r_one rfl rfl ?_
                have hN := hS.nil
                clear hS
                refine ⟨congrArg (fun b => Ending.returned (.bool b)) ?_, hN⟩
                clear hN
                rw [Bool.eq_iff_iff, decide_eq_true_iff (p := x.vw = y.vw), cm_iff]
                clear hx hy
                simp_all
            · intro hg12
              have hg12d := of_decide_eq_false hg12
              refine t_no rfl rfl (by rw [hg12]; decide) ?_
              refine t_no rfl rfl (by rw [hg12]; decide) ?_
              refine t_no rfl rfl (by rw [hg12]; decide) ?_
              refine t_no rfl rfl (by rw [hg12]; decide) ?_
              refine t_no rfl rfl (by rw [hg12]; decide) ?_
              refine t_q (q_pick_f rfl hg12) ?_
              refine t_q (q_as (.bool _) rfl) ?_
              refine t_nil ?_
              refine c_seq ?_
              refine c_region ?_
              refine t_q (q_mv (.bool _) rfl) ?_
              refine t_q (q_mv (.bool _) rfl) ?_
              refine t_no rfl rfl (by decide) ?_
              refine t_no rfl rfl (by decide) ?_
              refine t_no rfl rfl (by decide) ?_
              refine t_no rfl rfl (by decide) ?_
              refine t_no rfl rfl (by decide) ?_
              refine t_q (q_pick_f rfl rfl) ?_
              refine t_q (q_mv (.bool _) rfl) ?_
              refine t_no rfl rfl (by decide) ?_
              refine t_no rfl rfl (by decide) ?_
              refine t_no rfl rfl (by decide) ?_
              refine t_no rfl rfl (by decide) ?_
              refine t_no rfl rfl (by decide) ?_
              refine t_q (q_pick_f rfl rfl) ?_
              refine t_q (q_mv (.bool _) rfl) ?_
              refine t_no rfl rfl (by decide) ?_
              refine t_no rfl rfl (by decide) ?_
              refine t_no rfl rfl (by decide) ?_
              refine t_no rfl rfl (by decide) ?_
              refine t_no rfl rfl (by decide) ?_
              refine t_q (q_pick_f rfl rfl) ?_
              refine t_q (q_mv (.bool _) rfl) ?_
              refine t_no rfl rfl (by decide) ?_
              refine t_no rfl rfl (by decide) ?_
              refine t_no rfl rfl (by decide) ?_
              refine t_no rfl rfl (by decide) ?_
              refine t_no rfl rfl (by decide) ?_
              refine t_q (q_pick_f rfl rfl) ?_
              refine t_q (q_mv (.bool _) rfl) ?_
              refine t_no rfl rfl (by decide) ?_
              refine t_no rfl rfl (by decide) ?_
              refine t_no rfl rfl (by decide) ?_
              refine t_no rfl rfl (by decide) ?_
              refine t_no rfl rfl (by decide) ?_
              refine t_q (q_pick_f rfl rfl) ?_
              refine t_q (q_mv (.bool _) rfl) ?_
              refine t_no rfl rfl (by decide) ?_
              refine t_no rfl rfl (by decide) ?_
              refine t_no rfl rfl (by decide) ?_
              refine t_no rfl rfl (by decide) ?_
              refine t_no rfl rfl (by decide) ?_
              refine t_q (q_pick_f rfl rfl) ?_
              refine t_q (q_mv (.bool _) rfl) ?_
              refine t_no rfl rfl (by decide) ?_
              refine t_no rfl rfl (by decide) ?_
              refine t_no rfl rfl (by decide) ?_
              refine t_no rfl rfl (by decide) ?_
              refine t_no rfl rfl (by decide) ?_
              refine t_q (q_pick_f rfl rfl) ?_
              refine t_q (q_as (.bool _) rfl) ?_
              refine t_nil ?_
              refine c_ret ?_
              refine r_one rfl rfl ?_
              have hN := hS.nil
              clear hS
              refine ⟨congrArg (fun b => Ending.returned (.bool b)) ?_, hN⟩
              clear hN
              rw [Bool.eq_iff_iff, decide_eq_true_iff (p := x.vw = y.vw), cm_iff]
              clear hx hy
              simp_all
          · intro hg10
            have hg10d := of_decide_eq_false hg10
            refine t_no rfl rfl (by rw [hg10]; decide) ?_
            refine t_no rfl rfl (by rw [hg10]; decide) ?_
            refine t_no rfl rfl (by rw [hg10]; decide) ?_
            refine t_no rfl rfl (by rw [hg10]; decide) ?_
            refine t_no rfl rfl (by rw [hg10]; decide) ?_
            refine t_q (q_pick_f rfl hg10) ?_
            refine t_q (q_mv (.bool _) rfl) ?_
            refine t_no rfl rfl (by decide) ?_
            refine t_no rfl rfl (by decide) ?_
            refine t_no rfl rfl (by decide) ?_
            refine t_no rfl rfl (by decide) ?_
            refine t_no rfl rfl (by decide) ?_
            refine t_q (q_pick_f rfl rfl) ?_
            refine t_q (q_as (.bool _) rfl) ?_
            refine t_nil ?_
            refine c_seq ?_
            refine c_region ?_
            refine t_q (q_mv (.bool _) rfl) ?_
            refine t_q (q_mv (.bool _) rfl) ?_
            refine t_no rfl rfl (by decide) ?_
            refine t_no rfl rfl (by decide) ?_
            refine t_no rfl rfl (by decide) ?_
            refine t_no rfl rfl (by decide) ?_
            refine t_no rfl rfl (by decide) ?_
            refine t_q (q_pick_f rfl rfl) ?_
            refine t_q (q_mv (.bool _) rfl) ?_
            refine t_no rfl rfl (by decide) ?_
            refine t_no rfl rfl (by decide) ?_
            refine t_no rfl rfl (by decide) ?_
            refine t_no rfl rfl (by decide) ?_
            refine t_no rfl rfl (by decide) ?_
            refine t_q (q_pick_f rfl rfl) ?_
            refine t_q (q_mv (.bool _) rfl) ?_
            refine t_no rfl rfl (by decide) ?_
            refine t_no rfl rfl (by decide) ?_
            refine t_no rfl rfl (by decide) ?_
            refine t_no rfl rfl (by decide) ?_
            refine t_no rfl rfl (by decide) ?_
            refine t_q (q_pick_f rfl rfl) ?_
            refine t_q (q_mv (.bool _) rfl) ?_
            refine t_no rfl rfl (by decide) ?_
            refine t_no rfl rfl (by decide) ?_
            refine t_no rfl rfl (by decide) ?_
            refine t_no rfl rfl (by decide) ?_
            refine t_no rfl rfl (by decide) ?_
            refine t_q (q_pick_f rfl rfl) ?_
            refine t_q (q_mv (.bool _) rfl) ?_
            refine t_no rfl rfl (by decide) ?_
            refine t_no rfl rfl (by decide) ?_
            refine t_no rfl rfl (by decide) ?_
            refine t_no rfl rfl (by decide) ?_
            refine t_no rfl rfl (by decide) ?_
            refine t_q (q_pick_f rfl rfl) ?_
            refine t_q (q_mv (.bool _) rfl) ?_
            refine t_no rfl rfl (by decide) ?_
            refine t_no rfl rfl (by decide) ?_
            refine t_no rfl rfl (by decide) ?_
            refine t_no rfl rfl (by decide) ?_
            refine t_no rfl rfl (by decide) ?_
            refine t_q (q_pick_f rfl rfl) ?_
            refine t_q (q_mv (.bool _) rfl) ?_
            refine t_no rfl rfl (by decide) ?_
            refine t_no rfl rfl (by decide) ?_
            refine t_no rfl rfl (by decide) ?_
            refine t_no rfl rfl (by decide) ?_
            refine t_no rfl rfl (by decide) ?_
            refine t_q (q_pick_f rfl rfl) ?_
            refine t_q (q_as (.bool _) rfl) ?_
            refine t_nil ?_
            refine c_ret ?_
            refine r_one rfl rfl ?_
            have hN := hS.nil
            clear hS
            refine ⟨congrArg (fun b => Ending.returned (.bool b)) ?_, hN⟩
            clear hN
            rw [Bool.eq_iff_iff, decide_eq_true_iff (p := x.vw = y.vw), cm_iff]
            clear hx hy
            simp_all
        · intro hg8
          have hg8d := of_decide_eq_false hg8
          refine t_no rfl rfl (by rw [hg8]; decide) ?_
          refine t_no rfl rfl (by rw [hg8]; decide) ?_
          refine t_no rfl rfl (by rw [hg8]; decide) ?_
          refine t_no rfl rfl (by rw [hg8]; decide) ?_
          refine t_no rfl rfl (by rw [hg8]; decide) ?_
          refine t_q (q_pick_f rfl hg8) ?_
          refine t_q (q_mv (.bool _) rfl) ?_
          refine t_no rfl rfl (by decide) ?_
          refine t_no rfl rfl (by decide) ?_
          refine t_no rfl rfl (by decide) ?_
          refine t_no rfl rfl (by decide) ?_
          refine t_no rfl rfl (by decide) ?_
          refine t_q (q_pick_f rfl rfl) ?_
          refine t_q (q_mv (.bool _) rfl) ?_
          refine t_no rfl rfl (by decide) ?_
          refine t_no rfl rfl (by decide) ?_
          refine t_no rfl rfl (by decide) ?_
          refine t_no rfl rfl (by decide) ?_
          refine t_no rfl rfl (by decide) ?_
          refine t_q (q_pick_f rfl rfl) ?_
          refine t_q (q_as (.bool _) rfl) ?_
          refine t_nil ?_
          refine c_seq ?_
          refine c_region ?_
          refine t_q (q_mv (.bool _) rfl) ?_
          refine t_q (q_mv (.bool _) rfl) ?_
          refine t_no rfl rfl (by decide) ?_
          refine t_no rfl rfl (by decide) ?_
          refine t_no rfl rfl (by decide) ?_
          refine t_no rfl rfl (by decide) ?_
          refine t_no rfl rfl (by decide) ?_
          refine t_q (q_pick_f rfl rfl) ?_
          refine t_q (q_mv (.bool _) rfl) ?_
          refine t_no rfl rfl (by decide) ?_
          refine t_no rfl rfl (by decide) ?_
          refine t_no rfl rfl (by decide) ?_
          refine t_no rfl rfl (by decide) ?_
          refine t_no rfl rfl (by decide) ?_
          refine t_q (q_pick_f rfl rfl) ?_
          refine t_q (q_mv (.bool _) rfl) ?_
          refine t_no rfl rfl (by decide) ?_
          refine t_no rfl rfl (by decide) ?_
          refine t_no rfl rfl (by decide) ?_
          refine t_no rfl rfl (by decide) ?_
          refine t_no rfl rfl (by decide) ?_
          refine t_q (q_pick_f rfl rfl) ?_
          refine t_q (q_mv (.bool _) rfl) ?_
          refine t_no rfl rfl (by decide) ?_
          refine t_no rfl rfl (by decide) ?_
          refine t_no rfl rfl (by decide) ?_
          refine t_no rfl rfl (by decide) ?_
          refine t_no rfl rfl (by decide) ?_
          refine t_q (q_pick_f rfl rfl) ?_
          refine t_q (q_mv (.bool _) rfl) ?_
          refine t_no rfl rfl (by decide) ?_
          refine t_no rfl rfl (by decide) ?_
          refine t_no rfl rfl (by decide) ?_
          refine t_no rfl rfl (by decide) ?_
          refine t_no rfl rfl (by decide) ?_
          refine t_q (q_pick_f rfl rfl) ?_
          refine t_q (q_mv (.bool _) rfl) ?_
          refine t_no rfl rfl (by decide) ?_
          refine t_no rfl rfl (by decide) ?_
          refine t_no rfl rfl (by decide) ?_
          refine t_no rfl rfl (by decide) ?_
          refine t_no rfl rfl (by decide) ?_
          refine t_q (q_pick_f rfl rfl) ?_
          refine t_q (q_mv (.bool _) rfl) ?_
          refine t_no rfl rfl (by decide) ?_
          refine t_no rfl rfl (by decide) ?_
          refine t_no rfl rfl (by decide) ?_
          refine t_no rfl rfl (by decide) ?_
          refine t_no rfl rfl (by decide) ?_
          refine t_q (q_pick_f rfl rfl) ?_
          refine t_q (q_as (.bool _) rfl) ?_
          refine t_nil ?_
          refine c_ret ?_
          refine r_one rfl rfl ?_
          have hN := hS.nil
          clear hS
          refine ⟨congrArg (fun b => Ending.returned (.bool b)) ?_, hN⟩
          clear hN
          rw [Bool.eq_iff_iff, decide_eq_true_iff (p := x.vw = y.vw), cm_iff]
          clear hx hy
          simp_all
      · intro hg6
        have hg6d := of_decide_eq_false hg6
        refine t_no rfl rfl (by rw [hg6]; decide) ?_
        refine t_no rfl rfl (by rw [hg6]; decide) ?_
        refine t_no rfl rfl (by rw [hg6]; decide) ?_
        refine t_no rfl rfl (by rw [hg6]; decide) ?_
        refine t_no rfl rfl (by rw [hg6]; decide) ?_
        refine t_q (q_pick_f rfl hg6) ?_
        refine t_q (q_mv (.bool _) rfl) ?_
        refine t_no rfl rfl (by decide) ?_
        refine t_no rfl rfl (by decide) ?_
        refine t_no rfl rfl (by decide) ?_
        refine t_no rfl rfl (by decide) ?_
        refine t_no rfl rfl (by decide) ?_
        refine t_q (q_pick_f rfl rfl) ?_
        refine t_q (q_mv (.bool _) rfl) ?_
        refine t_no rfl rfl (by decide) ?_
        refine t_no rfl rfl (by decide) ?_
        refine t_no rfl rfl (by decide) ?_
        refine t_no rfl rfl (by decide) ?_
        refine t_no rfl rfl (by decide) ?_
        refine t_q (q_pick_f rfl rfl) ?_
        refine t_q (q_mv (.bool _) rfl) ?_
        refine t_no rfl rfl (by decide) ?_
        refine t_no rfl rfl (by decide) ?_
        refine t_no rfl rfl (by decide) ?_
        refine t_no rfl rfl (by decide) ?_
        refine t_no rfl rfl (by decide) ?_
        refine t_q (q_pick_f rfl rfl) ?_
        refine t_q (q_as (.bool _) rfl) ?_
        refine t_nil ?_
        refine c_seq ?_
        refine c_region ?_
        refine t_q (q_mv (.bool _) rfl) ?_
        refine t_q (q_mv (.bool _) rfl) ?_
        refine t_no rfl rfl (by decide) ?_
        refine t_no rfl rfl (by decide) ?_
        refine t_no rfl rfl (by decide) ?_
        refine t_no rfl rfl (by decide) ?_
        refine t_no rfl rfl (by decide) ?_
        refine t_q (q_pick_f rfl rfl) ?_
        refine t_q (q_mv (.bool _) rfl) ?_
        refine t_no rfl rfl (by decide) ?_
        refine t_no rfl rfl (by decide) ?_
        refine t_no rfl rfl (by decide) ?_
        refine t_no rfl rfl (by decide) ?_
        refine t_no rfl rfl (by decide) ?_
        refine t_q (q_pick_f rfl rfl) ?_
        refine t_q (q_mv (.bool _) rfl) ?_
        refine t_no rfl rfl (by decide) ?_
        refine t_no rfl rfl (by decide) ?_
        refine t_no rfl rfl (by decide) ?_
        refine t_no rfl rfl (by decide) ?_
        refine t_no rfl rfl (by decide) ?_
        refine t_q (q_pick_f rfl rfl) ?_
        refine t_q (q_mv (.bool _) rfl) ?_
        refine t_no rfl rfl (by decide) ?_
        refine t_no rfl rfl (by decide) ?_
        refine t_no rfl rfl (by decide) ?_
        refine t_no rfl rfl (by decide) ?_
        refine t_no rfl rfl (by decide) ?_
        refine t_q (q_pick_f rfl rfl) ?_
        refine t_q (q_mv (.bool _) rfl) ?_
        refine t_no rfl rfl (by decide) ?_
        refine t_no rfl rfl (by decide) ?_
        refine t_no rfl rfl (by decide) ?_
        refine t_no rfl rfl (by decide) ?_
        refine t_no rfl rfl (by decide) ?_
        refine t_q (q_pick_f rfl rfl) ?_
        refine t_q (q_mv (.bool _) rfl) ?_
        refine t_no rfl rfl (by decide) ?_
        refine t_no rfl rfl (by decide) ?_
        refine t_no rfl rfl (by decide) ?_
        refine t_no rfl rfl (by decide) ?_
        refine t_no rfl rfl (by decide) ?_
        refine t_q (q_pick_f rfl rfl) ?_
        refine t_q (q_mv (.bool _) rfl) ?_
        refine t_no rfl rfl (by decide) ?_
        refine t_no rfl rfl (by decide) ?_
        refine t_no rfl rfl (by decide) ?_
        refine t_no rfl rfl (by decide) ?_
        refine t_no rfl rfl (by decide) ?_
        refine t_q (q_pick_f rfl rfl) ?_
        refine t_q (q_as (.bool _) rfl) ?_
        refine t_nil ?_
        refine c_ret ?_
        refine r_one rfl rfl ?_
        have hN := hS.nil
        clear hS
        refine ⟨congrArg (fun b => Ending.returned (.bool b)) ?_, hN⟩
        clear hN
        rw [Bool.eq_iff_iff, decide_eq_true_iff (p := x.vw = y.vw), cm_iff]
        clear hx hy
        simp_all
    · intro hg4
      have hg4d := of_decide_eq_false hg4
      refine t_no rfl rfl (by rw [hg4]; decide) ?_
      refine t_no rfl rfl (by rw [hg4]; decide) ?_
      refine t_no rfl rfl (by rw [hg4]; decide) ?_
      refine t_no rfl rfl (by rw [hg4]; decide) ?_
      refine t_no rfl rfl (by rw [hg4]; decide) ?_
      refine t_q (q_pick_f rfl hg4) ?_
      refine t_q (q_mv (.bool _) rfl) ?_
      refine t_no rfl rfl (by decide) ?_
      refine t_no rfl rfl (by decide) ?_
      refine t_no rfl rfl (by decide) ?_
      refine t_no rfl rfl (by decide) ?_
      refine t_no rfl rfl (by decide) ?_
      refine t_q (q_pick_f rfl rfl) ?_
      refine t_q (q_mv (.bool _) rfl) ?_
      refine t_no rfl rfl (by decide) ?_
      refine t_no rfl rfl (by decide) ?_
      refine t_no rfl rfl (by decide) ?_
      refine t_no rfl rfl (by decide) ?_
      refine t_no rfl rfl (by decide) ?_
      refine t_q (q_pick_f rfl rfl) ?_
      refine t_q (q_mv (.bool _) rfl) ?_
      refine t_no rfl rfl (by decide) ?_
      refine t_no rfl rfl (by decide) ?_
      refine t_no rfl rfl (by decide) ?_
      refine t_no rfl rfl (by decide) ?_
      refine t_no rfl rfl (by decide) ?_
      refine t_q (q_pick_f rfl rfl) ?_
      refine t_q (q_mv (.bool _) rfl) ?_
      refine t_no rfl rfl (by decide) ?_
      refine t_no rfl rfl (by decide) ?_
      refine t_no rfl rfl (by decide) ?_
      refine t_no rfl rfl (by decide) ?_
      refine t_no rfl rfl (by decide) ?_
      refine t_q (q_pick_f rfl rfl) ?_
      refine t_q (q_as (.bool _) rfl) ?_
      refine t_nil ?_
      refine c_seq ?_
      refine c_region ?_
      refine t_q (q_mv (.bool _) rfl) ?_
      refine t_q (q_mv (.bool _) rfl) ?_
      refine t_no rfl rfl (by decide) ?_
      refine t_no rfl rfl (by decide) ?_
      refine t_no rfl rfl (by decide) ?_
      refine t_no rfl rfl (by decide) ?_
      refine t_no rfl rfl (by decide) ?_
      refine t_q (q_pick_f rfl rfl) ?_
      refine t_q (q_mv (.bool _) rfl) ?_
      refine t_no rfl rfl (by decide) ?_
      refine t_no rfl rfl (by decide) ?_
      refine t_no rfl rfl (by decide) ?_
      refine t_no rfl rfl (by decide) ?_
      refine t_no rfl rfl (by decide) ?_
      refine t_q (q_pick_f rfl rfl) ?_
      refine t_q (q_mv (.bool _) rfl) ?_
      refine t_no rfl rfl (by decide) ?_
      refine t_no rfl rfl (by decide) ?_
      refine t_no rfl rfl (by decide) ?_
      refine t_no rfl rfl (by decide) ?_
      refine t_no rfl rfl (by decide) ?_
      refine t_q (q_pick_f rfl rfl) ?_
      refine t_q (q_mv (.bool _) rfl) ?_
      refine t_no rfl rfl (by decide) ?_
      refine t_no rfl rfl (by decide) ?_
      refine t_no rfl rfl (by decide) ?_
      refine t_no rfl rfl (by decide) ?_
      refine t_no rfl rfl (by decide) ?_
      refine t_q (q_pick_f rfl rfl) ?_
      refine t_q (q_mv (.bool _) rfl) ?_
      refine t_no rfl rfl (by decide) ?_
      refine t_no rfl rfl (by decide) ?_
      refine t_no rfl rfl (by decide) ?_
      refine t_no rfl rfl (by decide) ?_
      refine t_no rfl rfl (by decide) ?_
      refine t_q (q_pick_f rfl rfl) ?_
      refine t_q (q_mv (.bool _) rfl) ?_
      refine t_no rfl rfl (by decide) ?_
      refine t_no rfl rfl (by decide) ?_
      refine t_no rfl rfl (by decide) ?_
      refine t_no rfl rfl (by decide) ?_
      refine t_no rfl rfl (by decide) ?_
      refine t_q (q_pick_f rfl rfl) ?_
      refine t_q (q_mv (.bool _) rfl) ?_
      refine t_no rfl rfl (by decide) ?_
      refine t_no rfl rfl (by decide) ?_
      refine t_no rfl rfl (by decide) ?_
      refine t_no rfl rfl (by decide) ?_
      refine t_no rfl rfl (by decide) ?_
      refine t_q (q_pick_f rfl rfl) ?_
      refine t_q (q_as (.bool _) rfl) ?_
      refine t_nil ?_
      refine c_ret ?_
      refine r_one rfl rfl ?_
      have hN := hS.nil
      clear hS
      refine ⟨congrArg (fun b => Ending.returned (.bool b)) ?_, hN⟩
      clear hN
      rw [Bool.eq_iff_iff, decide_eq_true_iff (p := x.vw = y.vw), cm_iff]
      clear hx hy
      simp_all
  · intro hg2
    have hg2d := of_decide_eq_false hg2
    refine t_no rfl rfl (by rw [hg2]; decide) ?_
    refine t_no rfl rfl (by rw [hg2]; decide) ?_
    refine t_no rfl rfl (by rw [hg2]; decide) ?_
    refine t_no rfl rfl (by rw [hg2]; decide) ?_
    refine t_no rfl rfl (by rw [hg2]; decide) ?_
    refine t_q (q_pick_f rfl hg2) ?_
    refine t_q (q_mv (.bool _) rfl) ?_
    refine t_no rfl rfl (by decide) ?_
    refine t_no rfl rfl (by decide) ?_
    refine t_no rfl rfl (by decide) ?_
    refine t_no rfl rfl (by decide) ?_
    refine t_no rfl rfl (by decide) ?_
    refine t_q (q_pick_f rfl rfl) ?_
    refine t_q (q_mv (.bool _) rfl) ?_
    refine t_no rfl rfl (by decide) ?_
    refine t_no rfl rfl (by decide) ?_
    refine t_no rfl rfl (by decide) ?_
    refine t_no rfl rfl (by decide) ?_
    refine t_no rfl rfl (by decide) ?_
    refine t_q (q_pick_f rfl rfl) ?_
    refine t_q (q_mv (.bool _) rfl) ?_
    refine t_no rfl rfl (by decide) ?_
    refine t_no rfl rfl (by decide) ?_
    refine t_no rfl rfl (by decide) ?_
    refine t_no rfl rfl (by decide) ?_
    refine t_no rfl rfl (by decide) ?_
    refine t_q (q_pick_f rfl rfl) ?_
    refine t_q (q_mv (.bool _) rfl) ?_
    refine t_no rfl rfl (by decide) ?_
    refine t_no rfl rfl (by decide) ?_
    refine t_no rfl rfl (by decide) ?_
    refine t_no rfl rfl (by decide) ?_
    refine t_no rfl rfl (by decide) ?_
    refine t_q (q_pick_f rfl rfl) ?_
    refine t_q (q_mv (.bool _) rfl) ?_
    refine t_no rfl rfl (by decide) ?_
    refine t_no rfl rfl (by decide) ?_
    refine t_no rfl rfl (by decide) ?_
    refine t_no rfl rfl (by decide) ?_
    refine t_no rfl rfl (by decide) ?_
    refine t_q (q_pick_f rfl rfl) ?_
    refine t_q (q_as (.bool _) rfl) ?_
    refine t_nil ?_
    refine c_seq ?_
    refine c_region ?_
    refine t_q (q_mv (.bool _) rfl) ?_
    refine t_q (q_mv (.bool _) rfl) ?_
    refine t_no rfl rfl (by decide) ?_
    refine t_no rfl rfl (by decide) ?_
    refine t_no rfl rfl (by decide) ?_
    refine t_no rfl rfl (by decide) ?_
    refine t_no rfl rfl (by decide) ?_
    refine t_q (q_pick_f rfl rfl) ?_
    refine t_q (q_mv (.bool _) rfl) ?_
    refine t_no rfl rfl (by decide) ?_
    refine t_no rfl rfl (by decide) ?_
    refine t_no rfl rfl (by decide) ?_
    refine t_no rfl rfl (by decide) ?_
    refine t_no rfl rfl (by decide) ?_
    refine t_q (q_pick_f rfl rfl) ?_
    refine t_q (q_mv (.bool _) rfl) ?_
    refine t_no rfl rfl (by decide) ?_
    refine t_no rfl rfl (by decide) ?_
    refine t_no rfl rfl (by decide) ?_
    refine t_no rfl rfl (by decide) ?_
    refine t_no rfl rfl (by decide) ?_
    refine t_q (q_pick_f rfl rfl) ?_
    refine t_q (q_mv (.bool _) rfl) ?_
    refine t_no rfl rfl (by decide) ?_
    refine t_no rfl rfl (by decide) ?_
    refine t_no rfl rfl (by decide) ?_
    refine t_no rfl rfl (by decide) ?_
    refine t_no rfl rfl (by decide) ?_
    refine t_q (q_pick_f rfl rfl) ?_
    refine t_q (q_mv (.bool _) rfl) ?_
    refine t_no rfl rfl (by decide) ?_
    refine t_no rfl rfl (by decide) ?_
    refine t_no rfl rfl (by decide) ?_
    refine t_no rfl rfl (by decide) ?_
    refine t_no rfl rfl (by decide) ?_
    refine t_q (q_pick_f rfl rfl) ?_
    refine t_q (q_mv (.bool _) rfl) ?_
    refine t_no rfl rfl (by decide) ?_
    refine t_no rfl rfl (by decide) ?_
    refine t_no rfl rfl (by decide) ?_
    refine t_no rfl rfl (by decide) ?_
    refine t_no rfl rfl (by decide) ?_
    refine t_q (q_pick_f rfl rfl) ?_
    refine t_q (q_mv (.bool _) rfl) ?_
    refine t_no rfl rfl (by decide) ?_
    refine t_no rfl rfl (by decide) ?_
    refine t_no rfl rfl (by decide) ?_
    refine t_no rfl rfl (by decide) ?_
    refine t_no rfl rfl (by decide) ?_
    refine t_q (q_pick_f rfl rfl) ?_
    refine t_q (q_as (.bool _) rfl) ?_
    refine t_nil ?_
    refine c_ret ?_
    refine r_one rfl rfl ?_
    have hN := hS.nil
    clear hS
    refine ⟨congrArg (fun b => Ending.returned (.bool b)) ?_, hN⟩
    clear hN
    rw [Bool.eq_iff_iff, decide_eq_true_iff (p := x.vw = y.vw), cm_iff]
    clear hx hy
    simp_all
set_option maxHeartbeats 8000000 in
set_option maxRecDepth 100000 in
theorem ckept_calls {x : CmdV} : Calls Try.prog 101 #[.agg x.cells.toArray] W fun e w' => e = .returned (.tuple #[.agg (keepC (cfl x.kind) x).cells.toArray, .bool (cok x.kind)]) ∧ St W w' [] := by
  have hS := St.init W
  refine calls_of_wpE (args := [_]) Try.func101 rfl rfl rfl ?_
  refine c_seq ?_
  refine c_region ?_
  refine t_box (v := (.agg _)) rfl rfl hS (fun g1 w hS => ?_)
  replace hS := hS.recast (show _ = blkA g1 49 [.int .i64 x.kind, .int .u64 x.client, .int .u64 x.req, .int .i64 x.account, .int .u64 x.id, .int .i64 x.side, .int .i64 x.typ, .int .i64 x.asset, .int .i64 x.price, .int .i64 x.qty, .int .i64 x.version, .int .i64 x.replica, .int .u64 x.at_, .int .i64 x.rules.version, .slice x.rules.ticks.A x.rules.ticks.l.length x.rules.ticks.c, .int .i64 x.rules.lot, .int .i64 x.rules.band, .slice x.rules.fees.A x.rules.fees.l.length x.rules.fees.c, .int .i64 x.rules.round, .int .i64 x.rules.priority, .int .i64 x.rules.self, .int .i64 x.rules.layout] from rfl)
  refine t_alloc Try.zeroValue49 rfl hS (fun g2 w hS => ?_)
  refine t_q (q_assign) ?_
  refine t_nil ?_
  refine c_seq ?_
  refine c_region ?_
  refine t_q (q_fieldAddr 0 Try.runUnderlying49 rfl Try.sizeOf3 (by decide) rfl rfl) ?_
  refine t_q (q_load1 Try.isAgg3 rfl (hS.cell (by repeat first | exact .here _ _ | assumption | apply Pick.there) rfl)) ?_
  refine t_q (q_fieldAddr 1 Try.runUnderlying49 rfl Try.sizeOf26 (by decide) rfl rfl) ?_
  refine t_q (q_load1 Try.isAgg26 rfl (hS.cell (by repeat first | exact .here _ _ | assumption | apply Pick.there) rfl)) ?_
  refine t_q (q_fieldAddr 2 Try.runUnderlying49 rfl Try.sizeOf26 (by decide) rfl rfl) ?_
  refine t_q (q_load1 Try.isAgg26 rfl (hS.cell (by repeat first | exact .here _ _ | assumption | apply Pick.there) rfl)) ?_
  refine t_q (q_build (qs := [(0, 1), (1, 1), (2, 1), (3, 1), (4, 1), (5, 1), (6, 1), (7, 1), (8, 1), (9, 1), (10, 1), (11, 1), (12, 1), (13, 9)]) [(.int _ _), (.int _ _), (.int _ _), (.int _ _), (.int _ _), (.int _ _), (.int _ _), (.int _ _), (.int _ _), (.int _ _), (.int _ _), (.int _ _), (.int _ _), (.int _ _), (.slice _ _ _), (.int _ _), (.int _ _), (.slice _ _ _), (.int _ _), (.int _ _), (.int _ _), (.int _ _)] Try.zeroValue49 Try.runUnderlying49 ⟨rfl, Try.sizeOf3, rfl, Try.sizeOf26, rfl, Try.sizeOf26, rfl, Try.sizeOf3, rfl, Try.sizeOf26, rfl, Try.sizeOf3, rfl, Try.sizeOf3, rfl, Try.sizeOf3, rfl, Try.sizeOf2, rfl, Try.sizeOf2, rfl, Try.sizeOf3, rfl, Try.sizeOf3, rfl, Try.sizeOf26, rfl, Try.sizeOf47, trivial⟩ rfl rfl) ?_
  refine t_alloc Try.zeroValue49 rfl hS (fun g4 w hS => ?_)
  refine t_store (v := (.agg _)) Try.sizeOf49 hS (by repeat first | exact .here _ _ | assumption | apply Pick.there) rfl rfl rfl rfl rfl rfl (fun w hS => ?_)
  replace hS := hS.recast (congrArg (blkA g4 49) (setN_full (vs := [.int .i64 x.kind, .int .u64 x.client, .int .u64 x.req, .int .i64 0, .int .u64 0, .int .i64 0, .int .i64 0, .int .i64 0, .int .i64 0, .int .i64 0, .int .i64 0, .int .i64 0, .int .u64 0, .int .i64 0, .slice none 0 0, .int .i64 0, .int .i64 0, .slice none 0 0, .int .i64 0, .int .i64 0, .int .i64 0, .int .i64 0]) rfl))
  refine t_nil ?_
  refine c_seq ?_
  refine c_seq ?_
  refine c_region ?_
  refine t_q (q_fieldAddr 0 Try.runUnderlying49 rfl Try.sizeOf3 (by decide) rfl rfl) ?_
  refine t_q (q_load1 Try.isAgg3 rfl (hS.cell (by repeat first | exact .here _ _ | assumption | apply Pick.there) rfl)) ?_
  refine t_nil ?_
  refine c_block ?_
  refine c_seq ?_
  refine c_seq ?_
  refine c_region ?_
  refine t_q (q_eql rfl rfl) ?_
  refine t_q (q_as (.bool _) rfl) ?_
  refine t_nil ?_
  refine c_cond rfl ?_ ?_
  · intro hc2
    have hc2d := of_decide_eq_true hc2
    have hfl : cfl x.kind = 81 := by first | (rw [show x.kind = 1 by omega]; rfl) | (rw [show x.kind = 2 by omega]; rfl)
    have hok : cok x.kind = true := decide_eq_true (by omega)
    refine c_skip ?_
    refine c_cond_t rfl hc2 ?_
    have hfl : cfl x.kind = 81 := by first | (rw [show x.kind = 1 by omega]; rfl) | (rw [show x.kind = 2 by omega]; rfl)
    have hok : cok x.kind = true := decide_eq_true (by omega)
    refine c_draw ?_
    refine d_keep (blkA g1 49 [.int .i64 x.kind, .int .u64 x.client, .int .u64 x.req, .int .i64 x.account, .int .u64 x.id, .int .i64 x.side, .int .i64 x.typ, .int .i64 x.asset, .int .i64 x.price, .int .i64 x.qty, .int .i64 x.version, .int .i64 x.replica, .int .u64 x.at_, .int .i64 x.rules.version, .slice x.rules.ticks.A x.rules.ticks.l.length x.rules.ticks.c, .int .i64 x.rules.lot, .int .i64 x.rules.band, .slice x.rules.fees.A x.rules.fees.l.length x.rules.fees.c, .int .i64 x.rules.round, .int .i64 x.rules.priority, .int .i64 x.rules.self, .int .i64 x.rules.layout]) 12 [0, 1, 2, 3, 4, 5, 6, 7, 8, 9, 10, 11] [0, 1, 6, 7, 2, 3, 8, 9, 4, 5, 10, 11] hS rfl (by kernel_rfl) (by kernel_rfl) (by kernel_rfl) (by kernel_rfl) (fun hap hsel w hS => ?_)
    refine p_q hap hsel 0 rfl rfl ⟨_, hS.pick (by repeat first | exact .here _ _ | assumption | apply Pick.there)⟩ (fun w hI => q_fieldAddr 3 Try.runUnderlying49 rfl Try.sizeOf3 (by decide) rfl rfl) ?_
    refine p_q hap hsel 1 rfl rfl ⟨_, hS.pick (by repeat first | exact .here _ _ | assumption | apply Pick.there)⟩ (fun w hI => q_load1 Try.isAgg3 rfl (hI.choose_spec.cell (by repeat first | exact .here _ _ | assumption | apply Pick.there) rfl)) ?_
    refine p_q hap hsel 2 rfl rfl ⟨_, hS.pick (by repeat first | exact .here _ _ | assumption | apply Pick.there)⟩ (fun w hI => q_fieldAddr 7 Try.runUnderlying49 rfl Try.sizeOf3 (by decide) rfl rfl) ?_
    refine p_q hap hsel 3 rfl rfl ⟨_, hS.pick (by repeat first | exact .here _ _ | assumption | apply Pick.there)⟩ (fun w hI => q_load1 Try.isAgg3 rfl (hI.choose_spec.cell (by repeat first | exact .here _ _ | assumption | apply Pick.there) rfl)) ?_
    refine p_q hap hsel 4 rfl rfl ⟨_, hS.pick (by repeat first | exact .here _ _ | assumption | apply Pick.there)⟩ (fun w hI => q_fieldAddr 9 Try.runUnderlying49 rfl Try.sizeOf2 (by decide) rfl rfl) ?_
    refine p_q hap hsel 5 rfl rfl ⟨_, hS.pick (by repeat first | exact .here _ _ | assumption | apply Pick.there)⟩ (fun w hI => q_load1 Try.isAgg2 rfl (hI.choose_spec.cell (by repeat first | exact .here _ _ | assumption | apply Pick.there) rfl)) ?_
    refine p_q hap hsel 6 rfl rfl ⟨_, hS.pick (by repeat first | exact .here _ _ | assumption | apply Pick.there)⟩ (fun w hI => q_fieldAddr 3 Try.runUnderlying49 rfl Try.sizeOf3 (by decide) rfl rfl) ?_
    refine p_one 7 rfl (by kernel_rfl) ?_
    refine t_store (v := (.int _ _)) Try.sizeOf3 hS (by repeat first | exact .here _ _ | assumption | apply Pick.there) rfl rfl rfl rfl rfl rfl (fun w hS => ?_)
    replace hS := hS.recast (show blkA g4 49 _ = blkA g4 49 [.int .i64 x.kind, .int .u64 x.client, .int .u64 x.req, .int .i64 x.account, .int .u64 0, .int .i64 0, .int .i64 0, .int .i64 0, .int .i64 0, .int .i64 0, .int .i64 0, .int .i64 0, .int .u64 0, .int .i64 0, .slice none 0 0, .int .i64 0, .int .i64 0, .slice none 0 0, .int .i64 0, .int .i64 0, .int .i64 0, .int .i64 0] from rfl)
    refine t_nil ?_
    refine ⟨.inr ⟨_, hS.pick (by repeat first | exact .here _ _ | assumption | apply Pick.there)⟩, ?_⟩
    refine p_q hap hsel 8 rfl rfl ⟨_, hS.pick (by repeat first | exact .here _ _ | assumption | apply Pick.there)⟩ (fun w hI => q_fieldAddr 7 Try.runUnderlying49 rfl Try.sizeOf3 (by decide) rfl rfl) ?_
    refine p_one 9 rfl (by kernel_rfl) ?_
    refine t_store (v := (.int _ _)) Try.sizeOf3 hS (by repeat first | exact .here _ _ | assumption | apply Pick.there) rfl rfl rfl rfl rfl rfl (fun w hS => ?_)
    replace hS := hS.recast (show blkA g4 49 _ = blkA g4 49 [.int .i64 x.kind, .int .u64 x.client, .int .u64 x.req, .int .i64 x.account, .int .u64 0, .int .i64 0, .int .i64 0, .int .i64 x.asset, .int .i64 0, .int .i64 0, .int .i64 0, .int .i64 0, .int .u64 0, .int .i64 0, .slice none 0 0, .int .i64 0, .int .i64 0, .slice none 0 0, .int .i64 0, .int .i64 0, .int .i64 0, .int .i64 0] from rfl)
    refine t_nil ?_
    refine ⟨.inr ⟨_, hS.pick (by repeat first | exact .here _ _ | assumption | apply Pick.there)⟩, ?_⟩
    refine p_q hap hsel 10 rfl rfl ⟨_, hS.pick (by repeat first | exact .here _ _ | assumption | apply Pick.there)⟩ (fun w hI => q_fieldAddr 9 Try.runUnderlying49 rfl Try.sizeOf2 (by decide) rfl rfl) ?_
    refine p_one 11 rfl (by kernel_rfl) ?_
    refine t_store (v := (.int _ _)) Try.sizeOf2 hS (by repeat first | exact .here _ _ | assumption | apply Pick.there) rfl rfl rfl rfl rfl rfl (fun w hS => ?_)
    replace hS := hS.recast (show blkA g4 49 _ = blkA g4 49 [.int .i64 x.kind, .int .u64 x.client, .int .u64 x.req, .int .i64 x.account, .int .u64 0, .int .i64 0, .int .i64 0, .int .i64 x.asset, .int .i64 0, .int .i64 x.qty, .int .i64 0, .int .i64 0, .int .u64 0, .int .i64 0, .slice none 0 0, .int .i64 0, .int .i64 0, .slice none 0 0, .int .i64 0, .int .i64 0, .int .i64 0, .int .i64 0] from rfl)
    refine t_nil ?_
    refine ⟨.inl (by kernel_rfl), ?_⟩
    refine p_end (by kernel_rfl) ?_
    refine c_seq ?_
    refine c_region ?_
    refine t_q (q_load_blk Try.isAgg49 Try.sizeOf49 rfl (hS.blk (by repeat first | exact .here _ _ | assumption | apply Pick.there)) rfl) ?_
    refine t_store (v := (.agg _)) Try.sizeOf49 hS (by repeat first | exact .here _ _ | assumption | apply Pick.there) rfl rfl rfl rfl rfl rfl (fun w hS => ?_)
    replace hS := hS.recast (congrArg (blkA g2 49) (setN_full rfl))
    refine t_q (q_assign) ?_
    refine t_nil ?_
    refine c_ret ?_
    refine r_two rfl (res1_cellN Try.isAgg49 Try.sizeOf49 rfl (hS.blk (by repeat first | exact .here _ _ | assumption | apply Pick.there)) rfl) rfl ?_
    rw [hfl, hok]
    exact ⟨rfl, hS.nil⟩
  · intro hc2
    have hc2d := of_decide_eq_false hc2
    refine c_region ?_
    refine t_q (q_eql rfl rfl) ?_
    refine t_q (q_as (.bool _) rfl) ?_
    refine t_nil ?_
    refine c_cond rfl ?_ ?_
    · intro hc4
      have hc4d := of_decide_eq_true hc4
      have hfl : cfl x.kind = 81 := by first | (rw [show x.kind = 1 by omega]; rfl) | (rw [show x.kind = 2 by omega]; rfl)
      have hok : cok x.kind = true := decide_eq_true (by omega)
      refine c_draw ?_
      refine d_keep (blkA g1 49 [.int .i64 x.kind, .int .u64 x.client, .int .u64 x.req, .int .i64 x.account, .int .u64 x.id, .int .i64 x.side, .int .i64 x.typ, .int .i64 x.asset, .int .i64 x.price, .int .i64 x.qty, .int .i64 x.version, .int .i64 x.replica, .int .u64 x.at_, .int .i64 x.rules.version, .slice x.rules.ticks.A x.rules.ticks.l.length x.rules.ticks.c, .int .i64 x.rules.lot, .int .i64 x.rules.band, .slice x.rules.fees.A x.rules.fees.l.length x.rules.fees.c, .int .i64 x.rules.round, .int .i64 x.rules.priority, .int .i64 x.rules.self, .int .i64 x.rules.layout]) 12 [0, 1, 2, 3, 4, 5, 6, 7, 8, 9, 10, 11] [0, 1, 6, 7, 2, 3, 8, 9, 4, 5, 10, 11] hS rfl (by kernel_rfl) (by kernel_rfl) (by kernel_rfl) (by kernel_rfl) (fun hap hsel w hS => ?_)
      refine p_q hap hsel 0 rfl rfl ⟨_, hS.pick (by repeat first | exact .here _ _ | assumption | apply Pick.there)⟩ (fun w hI => q_fieldAddr 3 Try.runUnderlying49 rfl Try.sizeOf3 (by decide) rfl rfl) ?_
      refine p_q hap hsel 1 rfl rfl ⟨_, hS.pick (by repeat first | exact .here _ _ | assumption | apply Pick.there)⟩ (fun w hI => q_load1 Try.isAgg3 rfl (hI.choose_spec.cell (by repeat first | exact .here _ _ | assumption | apply Pick.there) rfl)) ?_
      refine p_q hap hsel 2 rfl rfl ⟨_, hS.pick (by repeat first | exact .here _ _ | assumption | apply Pick.there)⟩ (fun w hI => q_fieldAddr 7 Try.runUnderlying49 rfl Try.sizeOf3 (by decide) rfl rfl) ?_
      refine p_q hap hsel 3 rfl rfl ⟨_, hS.pick (by repeat first | exact .here _ _ | assumption | apply Pick.there)⟩ (fun w hI => q_load1 Try.isAgg3 rfl (hI.choose_spec.cell (by repeat first | exact .here _ _ | assumption | apply Pick.there) rfl)) ?_
      refine p_q hap hsel 4 rfl rfl ⟨_, hS.pick (by repeat first | exact .here _ _ | assumption | apply Pick.there)⟩ (fun w hI => q_fieldAddr 9 Try.runUnderlying49 rfl Try.sizeOf2 (by decide) rfl rfl) ?_
      refine p_q hap hsel 5 rfl rfl ⟨_, hS.pick (by repeat first | exact .here _ _ | assumption | apply Pick.there)⟩ (fun w hI => q_load1 Try.isAgg2 rfl (hI.choose_spec.cell (by repeat first | exact .here _ _ | assumption | apply Pick.there) rfl)) ?_
      refine p_q hap hsel 6 rfl rfl ⟨_, hS.pick (by repeat first | exact .here _ _ | assumption | apply Pick.there)⟩ (fun w hI => q_fieldAddr 3 Try.runUnderlying49 rfl Try.sizeOf3 (by decide) rfl rfl) ?_
      refine p_one 7 rfl (by kernel_rfl) ?_
      refine t_store (v := (.int _ _)) Try.sizeOf3 hS (by repeat first | exact .here _ _ | assumption | apply Pick.there) rfl rfl rfl rfl rfl rfl (fun w hS => ?_)
      replace hS := hS.recast (show blkA g4 49 _ = blkA g4 49 [.int .i64 x.kind, .int .u64 x.client, .int .u64 x.req, .int .i64 x.account, .int .u64 0, .int .i64 0, .int .i64 0, .int .i64 0, .int .i64 0, .int .i64 0, .int .i64 0, .int .i64 0, .int .u64 0, .int .i64 0, .slice none 0 0, .int .i64 0, .int .i64 0, .slice none 0 0, .int .i64 0, .int .i64 0, .int .i64 0, .int .i64 0] from rfl)
      refine t_nil ?_
      refine ⟨.inr ⟨_, hS.pick (by repeat first | exact .here _ _ | assumption | apply Pick.there)⟩, ?_⟩
      refine p_q hap hsel 8 rfl rfl ⟨_, hS.pick (by repeat first | exact .here _ _ | assumption | apply Pick.there)⟩ (fun w hI => q_fieldAddr 7 Try.runUnderlying49 rfl Try.sizeOf3 (by decide) rfl rfl) ?_
      refine p_one 9 rfl (by kernel_rfl) ?_
      refine t_store (v := (.int _ _)) Try.sizeOf3 hS (by repeat first | exact .here _ _ | assumption | apply Pick.there) rfl rfl rfl rfl rfl rfl (fun w hS => ?_)
      replace hS := hS.recast (show blkA g4 49 _ = blkA g4 49 [.int .i64 x.kind, .int .u64 x.client, .int .u64 x.req, .int .i64 x.account, .int .u64 0, .int .i64 0, .int .i64 0, .int .i64 x.asset, .int .i64 0, .int .i64 0, .int .i64 0, .int .i64 0, .int .u64 0, .int .i64 0, .slice none 0 0, .int .i64 0, .int .i64 0, .slice none 0 0, .int .i64 0, .int .i64 0, .int .i64 0, .int .i64 0] from rfl)
      refine t_nil ?_
      refine ⟨.inr ⟨_, hS.pick (by repeat first | exact .here _ _ | assumption | apply Pick.there)⟩, ?_⟩
      refine p_q hap hsel 10 rfl rfl ⟨_, hS.pick (by repeat first | exact .here _ _ | assumption | apply Pick.there)⟩ (fun w hI => q_fieldAddr 9 Try.runUnderlying49 rfl Try.sizeOf2 (by decide) rfl rfl) ?_
      refine p_one 11 rfl (by kernel_rfl) ?_
      refine t_store (v := (.int _ _)) Try.sizeOf2 hS (by repeat first | exact .here _ _ | assumption | apply Pick.there) rfl rfl rfl rfl rfl rfl (fun w hS => ?_)
      replace hS := hS.recast (show blkA g4 49 _ = blkA g4 49 [.int .i64 x.kind, .int .u64 x.client, .int .u64 x.req, .int .i64 x.account, .int .u64 0, .int .i64 0, .int .i64 0, .int .i64 x.asset, .int .i64 0, .int .i64 x.qty, .int .i64 0, .int .i64 0, .int .u64 0, .int .i64 0, .slice none 0 0, .int .i64 0, .int .i64 0, .slice none 0 0, .int .i64 0, .int .i64 0, .int .i64 0, .int .i64 0] from rfl)
      refine t_nil ?_
      refine ⟨.inl (by kernel_rfl), ?_⟩
      refine p_end (by kernel_rfl) ?_
      refine c_seq ?_
      refine c_region ?_
      refine t_q (q_load_blk Try.isAgg49 Try.sizeOf49 rfl (hS.blk (by repeat first | exact .here _ _ | assumption | apply Pick.there)) rfl) ?_
      refine t_store (v := (.agg _)) Try.sizeOf49 hS (by repeat first | exact .here _ _ | assumption | apply Pick.there) rfl rfl rfl rfl rfl rfl (fun w hS => ?_)
      replace hS := hS.recast (congrArg (blkA g2 49) (setN_full rfl))
      refine t_q (q_assign) ?_
      refine t_nil ?_
      refine c_ret ?_
      refine r_two rfl (res1_cellN Try.isAgg49 Try.sizeOf49 rfl (hS.blk (by repeat first | exact .here _ _ | assumption | apply Pick.there)) rfl) rfl ?_
      rw [hfl, hok]
      exact ⟨rfl, hS.nil⟩
    · intro hc4
      have hc4d := of_decide_eq_false hc4
      refine c_seq ?_
      refine c_region ?_
      refine t_q (q_eql rfl rfl) ?_
      refine t_q (q_as (.bool _) rfl) ?_
      refine t_nil ?_
      refine c_cond rfl ?_ ?_
      · intro hc6
        have hc6d := of_decide_eq_true hc6
        have hfl : cfl x.kind = 111 := by first | (rw [show x.kind = 3 by omega]; rfl)
        have hok : cok x.kind = true := decide_eq_true (by omega)
        refine c_draw ?_
        refine d_keep (blkA g1 49 [.int .i64 x.kind, .int .u64 x.client, .int .u64 x.req, .int .i64 x.account, .int .u64 x.id, .int .i64 x.side, .int .i64 x.typ, .int .i64 x.asset, .int .i64 x.price, .int .i64 x.qty, .int .i64 x.version, .int .i64 x.replica, .int .u64 x.at_, .int .i64 x.rules.version, .slice x.rules.ticks.A x.rules.ticks.l.length x.rules.ticks.c, .int .i64 x.rules.lot, .int .i64 x.rules.band, .slice x.rules.fees.A x.rules.fees.l.length x.rules.fees.c, .int .i64 x.rules.round, .int .i64 x.rules.priority, .int .i64 x.rules.self, .int .i64 x.rules.layout]) 24 [0, 1, 2, 3, 4, 5, 6, 7, 8, 9, 10, 11, 12, 13, 14, 15, 16, 17, 18, 19, 20, 21, 22, 23] [0, 1, 12, 13, 2, 3, 14, 15, 4, 5, 16, 17, 6, 7, 18, 19, 8, 9, 20, 21, 10, 11, 22, 23] hS rfl (by kernel_rfl) (by kernel_rfl) (by kernel_rfl) (by kernel_rfl) (fun hap hsel w hS => ?_)
        refine p_q hap hsel 0 rfl rfl ⟨_, hS.pick (by repeat first | exact .here _ _ | assumption | apply Pick.there)⟩ (fun w hI => q_fieldAddr 3 Try.runUnderlying49 rfl Try.sizeOf3 (by decide) rfl rfl) ?_
        refine p_q hap hsel 1 rfl rfl ⟨_, hS.pick (by repeat first | exact .here _ _ | assumption | apply Pick.there)⟩ (fun w hI => q_load1 Try.isAgg3 rfl (hI.choose_spec.cell (by repeat first | exact .here _ _ | assumption | apply Pick.there) rfl)) ?_
        refine p_q hap hsel 2 rfl rfl ⟨_, hS.pick (by repeat first | exact .here _ _ | assumption | apply Pick.there)⟩ (fun w hI => q_fieldAddr 4 Try.runUnderlying49 rfl Try.sizeOf26 (by decide) rfl rfl) ?_
        refine p_q hap hsel 3 rfl rfl ⟨_, hS.pick (by repeat first | exact .here _ _ | assumption | apply Pick.there)⟩ (fun w hI => q_load1 Try.isAgg26 rfl (hI.choose_spec.cell (by repeat first | exact .here _ _ | assumption | apply Pick.there) rfl)) ?_
        refine p_q hap hsel 4 rfl rfl ⟨_, hS.pick (by repeat first | exact .here _ _ | assumption | apply Pick.there)⟩ (fun w hI => q_fieldAddr 5 Try.runUnderlying49 rfl Try.sizeOf3 (by decide) rfl rfl) ?_
        refine p_q hap hsel 5 rfl rfl ⟨_, hS.pick (by repeat first | exact .here _ _ | assumption | apply Pick.there)⟩ (fun w hI => q_load1 Try.isAgg3 rfl (hI.choose_spec.cell (by repeat first | exact .here _ _ | assumption | apply Pick.there) rfl)) ?_
        refine p_q hap hsel 6 rfl rfl ⟨_, hS.pick (by repeat first | exact .here _ _ | assumption | apply Pick.there)⟩ (fun w hI => q_fieldAddr 6 Try.runUnderlying49 rfl Try.sizeOf3 (by decide) rfl rfl) ?_
        refine p_q hap hsel 7 rfl rfl ⟨_, hS.pick (by repeat first | exact .here _ _ | assumption | apply Pick.there)⟩ (fun w hI => q_load1 Try.isAgg3 rfl (hI.choose_spec.cell (by repeat first | exact .here _ _ | assumption | apply Pick.there) rfl)) ?_
        refine p_q hap hsel 8 rfl rfl ⟨_, hS.pick (by repeat first | exact .here _ _ | assumption | apply Pick.there)⟩ (fun w hI => q_fieldAddr 8 Try.runUnderlying49 rfl Try.sizeOf2 (by decide) rfl rfl) ?_
        refine p_q hap hsel 9 rfl rfl ⟨_, hS.pick (by repeat first | exact .here _ _ | assumption | apply Pick.there)⟩ (fun w hI => q_load1 Try.isAgg2 rfl (hI.choose_spec.cell (by repeat first | exact .here _ _ | assumption | apply Pick.there) rfl)) ?_
        refine p_q hap hsel 10 rfl rfl ⟨_, hS.pick (by repeat first | exact .here _ _ | assumption | apply Pick.there)⟩ (fun w hI => q_fieldAddr 9 Try.runUnderlying49 rfl Try.sizeOf2 (by decide) rfl rfl) ?_
        refine p_q hap hsel 11 rfl rfl ⟨_, hS.pick (by repeat first | exact .here _ _ | assumption | apply Pick.there)⟩ (fun w hI => q_load1 Try.isAgg2 rfl (hI.choose_spec.cell (by repeat first | exact .here _ _ | assumption | apply Pick.there) rfl)) ?_
        refine p_q hap hsel 12 rfl rfl ⟨_, hS.pick (by repeat first | exact .here _ _ | assumption | apply Pick.there)⟩ (fun w hI => q_fieldAddr 3 Try.runUnderlying49 rfl Try.sizeOf3 (by decide) rfl rfl) ?_
        refine p_one 13 rfl (by kernel_rfl) ?_
        refine t_store (v := (.int _ _)) Try.sizeOf3 hS (by repeat first | exact .here _ _ | assumption | apply Pick.there) rfl rfl rfl rfl rfl rfl (fun w hS => ?_)
        replace hS := hS.recast (show blkA g4 49 _ = blkA g4 49 [.int .i64 x.kind, .int .u64 x.client, .int .u64 x.req, .int .i64 x.account, .int .u64 0, .int .i64 0, .int .i64 0, .int .i64 0, .int .i64 0, .int .i64 0, .int .i64 0, .int .i64 0, .int .u64 0, .int .i64 0, .slice none 0 0, .int .i64 0, .int .i64 0, .slice none 0 0, .int .i64 0, .int .i64 0, .int .i64 0, .int .i64 0] from rfl)
        refine t_nil ?_
        refine ⟨.inr ⟨_, hS.pick (by repeat first | exact .here _ _ | assumption | apply Pick.there)⟩, ?_⟩
        refine p_q hap hsel 14 rfl rfl ⟨_, hS.pick (by repeat first | exact .here _ _ | assumption | apply Pick.there)⟩ (fun w hI => q_fieldAddr 4 Try.runUnderlying49 rfl Try.sizeOf26 (by decide) rfl rfl) ?_
        refine p_one 15 rfl (by kernel_rfl) ?_
        refine t_store (v := (.int _ _)) Try.sizeOf26 hS (by repeat first | exact .here _ _ | assumption | apply Pick.there) rfl rfl rfl rfl rfl rfl (fun w hS => ?_)
        replace hS := hS.recast (show blkA g4 49 _ = blkA g4 49 [.int .i64 x.kind, .int .u64 x.client, .int .u64 x.req, .int .i64 x.account, .int .u64 x.id, .int .i64 0, .int .i64 0, .int .i64 0, .int .i64 0, .int .i64 0, .int .i64 0, .int .i64 0, .int .u64 0, .int .i64 0, .slice none 0 0, .int .i64 0, .int .i64 0, .slice none 0 0, .int .i64 0, .int .i64 0, .int .i64 0, .int .i64 0] from rfl)
        refine t_nil ?_
        refine ⟨.inr ⟨_, hS.pick (by repeat first | exact .here _ _ | assumption | apply Pick.there)⟩, ?_⟩
        refine p_q hap hsel 16 rfl rfl ⟨_, hS.pick (by repeat first | exact .here _ _ | assumption | apply Pick.there)⟩ (fun w hI => q_fieldAddr 5 Try.runUnderlying49 rfl Try.sizeOf3 (by decide) rfl rfl) ?_
        refine p_one 17 rfl (by kernel_rfl) ?_
        refine t_store (v := (.int _ _)) Try.sizeOf3 hS (by repeat first | exact .here _ _ | assumption | apply Pick.there) rfl rfl rfl rfl rfl rfl (fun w hS => ?_)
        replace hS := hS.recast (show blkA g4 49 _ = blkA g4 49 [.int .i64 x.kind, .int .u64 x.client, .int .u64 x.req, .int .i64 x.account, .int .u64 x.id, .int .i64 x.side, .int .i64 0, .int .i64 0, .int .i64 0, .int .i64 0, .int .i64 0, .int .i64 0, .int .u64 0, .int .i64 0, .slice none 0 0, .int .i64 0, .int .i64 0, .slice none 0 0, .int .i64 0, .int .i64 0, .int .i64 0, .int .i64 0] from rfl)
        refine t_nil ?_
        refine ⟨.inr ⟨_, hS.pick (by repeat first | exact .here _ _ | assumption | apply Pick.there)⟩, ?_⟩
        refine p_q hap hsel 18 rfl rfl ⟨_, hS.pick (by repeat first | exact .here _ _ | assumption | apply Pick.there)⟩ (fun w hI => q_fieldAddr 6 Try.runUnderlying49 rfl Try.sizeOf3 (by decide) rfl rfl) ?_
        refine p_one 19 rfl (by kernel_rfl) ?_
        refine t_store (v := (.int _ _)) Try.sizeOf3 hS (by repeat first | exact .here _ _ | assumption | apply Pick.there) rfl rfl rfl rfl rfl rfl (fun w hS => ?_)
        replace hS := hS.recast (show blkA g4 49 _ = blkA g4 49 [.int .i64 x.kind, .int .u64 x.client, .int .u64 x.req, .int .i64 x.account, .int .u64 x.id, .int .i64 x.side, .int .i64 x.typ, .int .i64 0, .int .i64 0, .int .i64 0, .int .i64 0, .int .i64 0, .int .u64 0, .int .i64 0, .slice none 0 0, .int .i64 0, .int .i64 0, .slice none 0 0, .int .i64 0, .int .i64 0, .int .i64 0, .int .i64 0] from rfl)
        refine t_nil ?_
        refine ⟨.inr ⟨_, hS.pick (by repeat first | exact .here _ _ | assumption | apply Pick.there)⟩, ?_⟩
        refine p_q hap hsel 20 rfl rfl ⟨_, hS.pick (by repeat first | exact .here _ _ | assumption | apply Pick.there)⟩ (fun w hI => q_fieldAddr 8 Try.runUnderlying49 rfl Try.sizeOf2 (by decide) rfl rfl) ?_
        refine p_one 21 rfl (by kernel_rfl) ?_
        refine t_store (v := (.int _ _)) Try.sizeOf2 hS (by repeat first | exact .here _ _ | assumption | apply Pick.there) rfl rfl rfl rfl rfl rfl (fun w hS => ?_)
        replace hS := hS.recast (show blkA g4 49 _ = blkA g4 49 [.int .i64 x.kind, .int .u64 x.client, .int .u64 x.req, .int .i64 x.account, .int .u64 x.id, .int .i64 x.side, .int .i64 x.typ, .int .i64 0, .int .i64 x.price, .int .i64 0, .int .i64 0, .int .i64 0, .int .u64 0, .int .i64 0, .slice none 0 0, .int .i64 0, .int .i64 0, .slice none 0 0, .int .i64 0, .int .i64 0, .int .i64 0, .int .i64 0] from rfl)
        refine t_nil ?_
        refine ⟨.inr ⟨_, hS.pick (by repeat first | exact .here _ _ | assumption | apply Pick.there)⟩, ?_⟩
        refine p_q hap hsel 22 rfl rfl ⟨_, hS.pick (by repeat first | exact .here _ _ | assumption | apply Pick.there)⟩ (fun w hI => q_fieldAddr 9 Try.runUnderlying49 rfl Try.sizeOf2 (by decide) rfl rfl) ?_
        refine p_one 23 rfl (by kernel_rfl) ?_
        refine t_store (v := (.int _ _)) Try.sizeOf2 hS (by repeat first | exact .here _ _ | assumption | apply Pick.there) rfl rfl rfl rfl rfl rfl (fun w hS => ?_)
        replace hS := hS.recast (show blkA g4 49 _ = blkA g4 49 [.int .i64 x.kind, .int .u64 x.client, .int .u64 x.req, .int .i64 x.account, .int .u64 x.id, .int .i64 x.side, .int .i64 x.typ, .int .i64 0, .int .i64 x.price, .int .i64 x.qty, .int .i64 0, .int .i64 0, .int .u64 0, .int .i64 0, .slice none 0 0, .int .i64 0, .int .i64 0, .slice none 0 0, .int .i64 0, .int .i64 0, .int .i64 0, .int .i64 0] from rfl)
        refine t_nil ?_
        refine ⟨.inl (by kernel_rfl), ?_⟩
        refine p_end (by kernel_rfl) ?_
        refine c_seq ?_
        refine c_region ?_
        refine t_q (q_load_blk Try.isAgg49 Try.sizeOf49 rfl (hS.blk (by repeat first | exact .here _ _ | assumption | apply Pick.there)) rfl) ?_
        refine t_store (v := (.agg _)) Try.sizeOf49 hS (by repeat first | exact .here _ _ | assumption | apply Pick.there) rfl rfl rfl rfl rfl rfl (fun w hS => ?_)
        replace hS := hS.recast (congrArg (blkA g2 49) (setN_full rfl))
        refine t_q (q_assign) ?_
        refine t_nil ?_
        refine c_ret ?_
        refine r_two rfl (res1_cellN Try.isAgg49 Try.sizeOf49 rfl (hS.blk (by repeat first | exact .here _ _ | assumption | apply Pick.there)) rfl) rfl ?_
        rw [hfl, hok]
        exact ⟨rfl, hS.nil⟩
      · intro hc6
        have hc6d := of_decide_eq_false hc6
        refine c_seq ?_
        refine c_region ?_
        refine t_q (q_eql rfl rfl) ?_
        refine t_q (q_as (.bool _) rfl) ?_
        refine t_nil ?_
        refine c_cond rfl ?_ ?_
        · intro hc8
          have hc8d := of_decide_eq_true hc8
          have hfl : cfl x.kind = 3 := by first | (rw [show x.kind = 4 by omega]; rfl)
          have hok : cok x.kind = true := decide_eq_true (by omega)
          refine c_draw ?_
          refine d_keep (blkA g1 49 [.int .i64 x.kind, .int .u64 x.client, .int .u64 x.req, .int .i64 x.account, .int .u64 x.id, .int .i64 x.side, .int .i64 x.typ, .int .i64 x.asset, .int .i64 x.price, .int .i64 x.qty, .int .i64 x.version, .int .i64 x.replica, .int .u64 x.at_, .int .i64 x.rules.version, .slice x.rules.ticks.A x.rules.ticks.l.length x.rules.ticks.c, .int .i64 x.rules.lot, .int .i64 x.rules.band, .slice x.rules.fees.A x.rules.fees.l.length x.rules.fees.c, .int .i64 x.rules.round, .int .i64 x.rules.priority, .int .i64 x.rules.self, .int .i64 x.rules.layout]) 8 [0, 1, 2, 3, 4, 5, 6, 7] [0, 1, 4, 5, 2, 3, 6, 7] hS rfl (by kernel_rfl) (by kernel_rfl) (by kernel_rfl) (by kernel_rfl) (fun hap hsel w hS => ?_)
          refine p_q hap hsel 0 rfl rfl ⟨_, hS.pick (by repeat first | exact .here _ _ | assumption | apply Pick.there)⟩ (fun w hI => q_fieldAddr 3 Try.runUnderlying49 rfl Try.sizeOf3 (by decide) rfl rfl) ?_
          refine p_q hap hsel 1 rfl rfl ⟨_, hS.pick (by repeat first | exact .here _ _ | assumption | apply Pick.there)⟩ (fun w hI => q_load1 Try.isAgg3 rfl (hI.choose_spec.cell (by repeat first | exact .here _ _ | assumption | apply Pick.there) rfl)) ?_
          refine p_q hap hsel 2 rfl rfl ⟨_, hS.pick (by repeat first | exact .here _ _ | assumption | apply Pick.there)⟩ (fun w hI => q_fieldAddr 4 Try.runUnderlying49 rfl Try.sizeOf26 (by decide) rfl rfl) ?_
          refine p_q hap hsel 3 rfl rfl ⟨_, hS.pick (by repeat first | exact .here _ _ | assumption | apply Pick.there)⟩ (fun w hI => q_load1 Try.isAgg26 rfl (hI.choose_spec.cell (by repeat first | exact .here _ _ | assumption | apply Pick.there) rfl)) ?_
          refine p_q hap hsel 4 rfl rfl ⟨_, hS.pick (by repeat first | exact .here _ _ | assumption | apply Pick.there)⟩ (fun w hI => q_fieldAddr 3 Try.runUnderlying49 rfl Try.sizeOf3 (by decide) rfl rfl) ?_
          refine p_one 5 rfl (by kernel_rfl) ?_
          refine t_store (v := (.int _ _)) Try.sizeOf3 hS (by repeat first | exact .here _ _ | assumption | apply Pick.there) rfl rfl rfl rfl rfl rfl (fun w hS => ?_)
          replace hS := hS.recast (show blkA g4 49 _ = blkA g4 49 [.int .i64 x.kind, .int .u64 x.client, .int .u64 x.req, .int .i64 x.account, .int .u64 0, .int .i64 0, .int .i64 0, .int .i64 0, .int .i64 0, .int .i64 0, .int .i64 0, .int .i64 0, .int .u64 0, .int .i64 0, .slice none 0 0, .int .i64 0, .int .i64 0, .slice none 0 0, .int .i64 0, .int .i64 0, .int .i64 0, .int .i64 0] from rfl)
          refine t_nil ?_
          refine ⟨.inr ⟨_, hS.pick (by repeat first | exact .here _ _ | assumption | apply Pick.there)⟩, ?_⟩
          refine p_q hap hsel 6 rfl rfl ⟨_, hS.pick (by repeat first | exact .here _ _ | assumption | apply Pick.there)⟩ (fun w hI => q_fieldAddr 4 Try.runUnderlying49 rfl Try.sizeOf26 (by decide) rfl rfl) ?_
          refine p_one 7 rfl (by kernel_rfl) ?_
          refine t_store (v := (.int _ _)) Try.sizeOf26 hS (by repeat first | exact .here _ _ | assumption | apply Pick.there) rfl rfl rfl rfl rfl rfl (fun w hS => ?_)
          replace hS := hS.recast (show blkA g4 49 _ = blkA g4 49 [.int .i64 x.kind, .int .u64 x.client, .int .u64 x.req, .int .i64 x.account, .int .u64 x.id, .int .i64 0, .int .i64 0, .int .i64 0, .int .i64 0, .int .i64 0, .int .i64 0, .int .i64 0, .int .u64 0, .int .i64 0, .slice none 0 0, .int .i64 0, .int .i64 0, .slice none 0 0, .int .i64 0, .int .i64 0, .int .i64 0, .int .i64 0] from rfl)
          refine t_nil ?_
          refine ⟨.inl (by kernel_rfl), ?_⟩
          refine p_end (by kernel_rfl) ?_
          refine c_seq ?_
          refine c_region ?_
          refine t_q (q_load_blk Try.isAgg49 Try.sizeOf49 rfl (hS.blk (by repeat first | exact .here _ _ | assumption | apply Pick.there)) rfl) ?_
          refine t_store (v := (.agg _)) Try.sizeOf49 hS (by repeat first | exact .here _ _ | assumption | apply Pick.there) rfl rfl rfl rfl rfl rfl (fun w hS => ?_)
          replace hS := hS.recast (congrArg (blkA g2 49) (setN_full rfl))
          refine t_q (q_assign) ?_
          refine t_nil ?_
          refine c_ret ?_
          refine r_two rfl (res1_cellN Try.isAgg49 Try.sizeOf49 rfl (hS.blk (by repeat first | exact .here _ _ | assumption | apply Pick.there)) rfl) rfl ?_
          rw [hfl, hok]
          exact ⟨rfl, hS.nil⟩
        · intro hc8
          have hc8d := of_decide_eq_false hc8
          refine c_seq ?_
          refine c_region ?_
          refine t_q (q_eql rfl rfl) ?_
          refine t_q (q_as (.bool _) rfl) ?_
          refine t_nil ?_
          refine c_cond rfl ?_ ?_
          · intro hc10
            have hc10d := of_decide_eq_true hc10
            have hfl : cfl x.kind = 99 := by first | (rw [show x.kind = 5 by omega]; rfl)
            have hok : cok x.kind = true := decide_eq_true (by omega)
            refine c_draw ?_
            refine d_keep (blkA g1 49 [.int .i64 x.kind, .int .u64 x.client, .int .u64 x.req, .int .i64 x.account, .int .u64 x.id, .int .i64 x.side, .int .i64 x.typ, .int .i64 x.asset, .int .i64 x.price, .int .i64 x.qty, .int .i64 x.version, .int .i64 x.replica, .int .u64 x.at_, .int .i64 x.rules.version, .slice x.rules.ticks.A x.rules.ticks.l.length x.rules.ticks.c, .int .i64 x.rules.lot, .int .i64 x.rules.band, .slice x.rules.fees.A x.rules.fees.l.length x.rules.fees.c, .int .i64 x.rules.round, .int .i64 x.rules.priority, .int .i64 x.rules.self, .int .i64 x.rules.layout]) 16 [0, 1, 2, 3, 4, 5, 6, 7, 8, 9, 10, 11, 12, 13, 14, 15] [0, 1, 8, 9, 2, 3, 10, 11, 4, 5, 12, 13, 6, 7, 14, 15] hS rfl (by kernel_rfl) (by kernel_rfl) (by kernel_rfl) (by kernel_rfl) (fun hap hsel w hS => ?_)
            refine p_q hap hsel 0 rfl rfl ⟨_, hS.pick (by repeat first | exact .here _ _ | assumption | apply Pick.there)⟩ (fun w hI => q_fieldAddr 3 Try.runUnderlying49 rfl Try.sizeOf3 (by decide) rfl rfl) ?_
            refine p_q hap hsel 1 rfl rfl ⟨_, hS.pick (by repeat first | exact .here _ _ | assumption | apply Pick.there)⟩ (fun w hI => q_load1 Try.isAgg3 rfl (hI.choose_spec.cell (by repeat first | exact .here _ _ | assumption | apply Pick.there) rfl)) ?_
            refine p_q hap hsel 2 rfl rfl ⟨_, hS.pick (by repeat first | exact .here _ _ | assumption | apply Pick.there)⟩ (fun w hI => q_fieldAddr 4 Try.runUnderlying49 rfl Try.sizeOf26 (by decide) rfl rfl) ?_
            refine p_q hap hsel 3 rfl rfl ⟨_, hS.pick (by repeat first | exact .here _ _ | assumption | apply Pick.there)⟩ (fun w hI => q_load1 Try.isAgg26 rfl (hI.choose_spec.cell (by repeat first | exact .here _ _ | assumption | apply Pick.there) rfl)) ?_
            refine p_q hap hsel 4 rfl rfl ⟨_, hS.pick (by repeat first | exact .here _ _ | assumption | apply Pick.there)⟩ (fun w hI => q_fieldAddr 8 Try.runUnderlying49 rfl Try.sizeOf2 (by decide) rfl rfl) ?_
            refine p_q hap hsel 5 rfl rfl ⟨_, hS.pick (by repeat first | exact .here _ _ | assumption | apply Pick.there)⟩ (fun w hI => q_load1 Try.isAgg2 rfl (hI.choose_spec.cell (by repeat first | exact .here _ _ | assumption | apply Pick.there) rfl)) ?_
            refine p_q hap hsel 6 rfl rfl ⟨_, hS.pick (by repeat first | exact .here _ _ | assumption | apply Pick.there)⟩ (fun w hI => q_fieldAddr 9 Try.runUnderlying49 rfl Try.sizeOf2 (by decide) rfl rfl) ?_
            refine p_q hap hsel 7 rfl rfl ⟨_, hS.pick (by repeat first | exact .here _ _ | assumption | apply Pick.there)⟩ (fun w hI => q_load1 Try.isAgg2 rfl (hI.choose_spec.cell (by repeat first | exact .here _ _ | assumption | apply Pick.there) rfl)) ?_
            refine p_q hap hsel 8 rfl rfl ⟨_, hS.pick (by repeat first | exact .here _ _ | assumption | apply Pick.there)⟩ (fun w hI => q_fieldAddr 3 Try.runUnderlying49 rfl Try.sizeOf3 (by decide) rfl rfl) ?_
            refine p_one 9 rfl (by kernel_rfl) ?_
            refine t_store (v := (.int _ _)) Try.sizeOf3 hS (by repeat first | exact .here _ _ | assumption | apply Pick.there) rfl rfl rfl rfl rfl rfl (fun w hS => ?_)
            replace hS := hS.recast (show blkA g4 49 _ = blkA g4 49 [.int .i64 x.kind, .int .u64 x.client, .int .u64 x.req, .int .i64 x.account, .int .u64 0, .int .i64 0, .int .i64 0, .int .i64 0, .int .i64 0, .int .i64 0, .int .i64 0, .int .i64 0, .int .u64 0, .int .i64 0, .slice none 0 0, .int .i64 0, .int .i64 0, .slice none 0 0, .int .i64 0, .int .i64 0, .int .i64 0, .int .i64 0] from rfl)
            refine t_nil ?_
            refine ⟨.inr ⟨_, hS.pick (by repeat first | exact .here _ _ | assumption | apply Pick.there)⟩, ?_⟩
            refine p_q hap hsel 10 rfl rfl ⟨_, hS.pick (by repeat first | exact .here _ _ | assumption | apply Pick.there)⟩ (fun w hI => q_fieldAddr 4 Try.runUnderlying49 rfl Try.sizeOf26 (by decide) rfl rfl) ?_
            refine p_one 11 rfl (by kernel_rfl) ?_
            refine t_store (v := (.int _ _)) Try.sizeOf26 hS (by repeat first | exact .here _ _ | assumption | apply Pick.there) rfl rfl rfl rfl rfl rfl (fun w hS => ?_)
            replace hS := hS.recast (show blkA g4 49 _ = blkA g4 49 [.int .i64 x.kind, .int .u64 x.client, .int .u64 x.req, .int .i64 x.account, .int .u64 x.id, .int .i64 0, .int .i64 0, .int .i64 0, .int .i64 0, .int .i64 0, .int .i64 0, .int .i64 0, .int .u64 0, .int .i64 0, .slice none 0 0, .int .i64 0, .int .i64 0, .slice none 0 0, .int .i64 0, .int .i64 0, .int .i64 0, .int .i64 0] from rfl)
            refine t_nil ?_
            refine ⟨.inr ⟨_, hS.pick (by repeat first | exact .here _ _ | assumption | apply Pick.there)⟩, ?_⟩
            refine p_q hap hsel 12 rfl rfl ⟨_, hS.pick (by repeat first | exact .here _ _ | assumption | apply Pick.there)⟩ (fun w hI => q_fieldAddr 8 Try.runUnderlying49 rfl Try.sizeOf2 (by decide) rfl rfl) ?_
            refine p_one 13 rfl (by kernel_rfl) ?_
            refine t_store (v := (.int _ _)) Try.sizeOf2 hS (by repeat first | exact .here _ _ | assumption | apply Pick.there) rfl rfl rfl rfl rfl rfl (fun w hS => ?_)
            replace hS := hS.recast (show blkA g4 49 _ = blkA g4 49 [.int .i64 x.kind, .int .u64 x.client, .int .u64 x.req, .int .i64 x.account, .int .u64 x.id, .int .i64 0, .int .i64 0, .int .i64 0, .int .i64 x.price, .int .i64 0, .int .i64 0, .int .i64 0, .int .u64 0, .int .i64 0, .slice none 0 0, .int .i64 0, .int .i64 0, .slice none 0 0, .int .i64 0, .int .i64 0, .int .i64 0, .int .i64 0] from rfl)
            refine t_nil ?_
            refine ⟨.inr ⟨_, hS.pick (by repeat first | exact .here _ _ | assumption | apply Pick.there)⟩, ?_⟩
            refine p_q hap hsel 14 rfl rfl ⟨_, hS.pick (by repeat first | exact .here _ _ | assumption | apply Pick.there)⟩ (fun w hI => q_fieldAddr 9 Try.runUnderlying49 rfl Try.sizeOf2 (by decide) rfl rfl) ?_
            refine p_one 15 rfl (by kernel_rfl) ?_
            refine t_store (v := (.int _ _)) Try.sizeOf2 hS (by repeat first | exact .here _ _ | assumption | apply Pick.there) rfl rfl rfl rfl rfl rfl (fun w hS => ?_)
            replace hS := hS.recast (show blkA g4 49 _ = blkA g4 49 [.int .i64 x.kind, .int .u64 x.client, .int .u64 x.req, .int .i64 x.account, .int .u64 x.id, .int .i64 0, .int .i64 0, .int .i64 0, .int .i64 x.price, .int .i64 x.qty, .int .i64 0, .int .i64 0, .int .u64 0, .int .i64 0, .slice none 0 0, .int .i64 0, .int .i64 0, .slice none 0 0, .int .i64 0, .int .i64 0, .int .i64 0, .int .i64 0] from rfl)
            refine t_nil ?_
            refine ⟨.inl (by kernel_rfl), ?_⟩
            refine p_end (by kernel_rfl) ?_
            refine c_seq ?_
            refine c_region ?_
            refine t_q (q_load_blk Try.isAgg49 Try.sizeOf49 rfl (hS.blk (by repeat first | exact .here _ _ | assumption | apply Pick.there)) rfl) ?_
            refine t_store (v := (.agg _)) Try.sizeOf49 hS (by repeat first | exact .here _ _ | assumption | apply Pick.there) rfl rfl rfl rfl rfl rfl (fun w hS => ?_)
            replace hS := hS.recast (congrArg (blkA g2 49) (setN_full rfl))
            refine t_q (q_assign) ?_
            refine t_nil ?_
            refine c_ret ?_
            refine r_two rfl (res1_cellN Try.isAgg49 Try.sizeOf49 rfl (hS.blk (by repeat first | exact .here _ _ | assumption | apply Pick.there)) rfl) rfl ?_
            rw [hfl, hok]
            exact ⟨rfl, hS.nil⟩
          · intro hc10
            have hc10d := of_decide_eq_false hc10
            refine c_seq ?_
            refine c_region ?_
            refine t_q (q_eql rfl rfl) ?_
            refine t_q (q_as (.bool _) rfl) ?_
            refine t_nil ?_
            refine c_cond rfl ?_ ?_
            · intro hc12
              have hc12d := of_decide_eq_true hc12
              have hfl : cfl x.kind = 1 := by first | (rw [show x.kind = 8 by omega]; rfl)
              have hok : cok x.kind = true := decide_eq_true (by omega)
              refine c_region ?_
              refine t_q (q_fieldAddr 3 Try.runUnderlying49 rfl Try.sizeOf3 (by decide) rfl rfl) ?_
              refine t_q (q_load1 Try.isAgg3 rfl (hS.cell (by repeat first | exact .here _ _ | assumption | apply Pick.there) rfl)) ?_
              refine t_q (q_fieldAddr 3 Try.runUnderlying49 rfl Try.sizeOf3 (by decide) rfl rfl) ?_
              refine t_store (v := (.int _ _)) Try.sizeOf3 hS (by repeat first | exact .here _ _ | assumption | apply Pick.there) rfl rfl rfl rfl rfl rfl (fun w hS => ?_)
              replace hS := hS.recast (show blkA g4 49 _ = blkA g4 49 [.int .i64 x.kind, .int .u64 x.client, .int .u64 x.req, .int .i64 x.account, .int .u64 0, .int .i64 0, .int .i64 0, .int .i64 0, .int .i64 0, .int .i64 0, .int .i64 0, .int .i64 0, .int .u64 0, .int .i64 0, .slice none 0 0, .int .i64 0, .int .i64 0, .slice none 0 0, .int .i64 0, .int .i64 0, .int .i64 0, .int .i64 0] from rfl)
              refine t_nil ?_
              refine c_seq ?_
              refine c_region ?_
              refine t_q (q_load_blk Try.isAgg49 Try.sizeOf49 rfl (hS.blk (by repeat first | exact .here _ _ | assumption | apply Pick.there)) rfl) ?_
              refine t_store (v := (.agg _)) Try.sizeOf49 hS (by repeat first | exact .here _ _ | assumption | apply Pick.there) rfl rfl rfl rfl rfl rfl (fun w hS => ?_)
              replace hS := hS.recast (congrArg (blkA g2 49) (setN_full rfl))
              refine t_q (q_assign) ?_
              refine t_nil ?_
              refine c_ret ?_
              refine r_two rfl (res1_cellN Try.isAgg49 Try.sizeOf49 rfl (hS.blk (by repeat first | exact .here _ _ | assumption | apply Pick.there)) rfl) rfl ?_
              rw [hfl, hok]
              exact ⟨rfl, hS.nil⟩
            · intro hc12
              have hc12d := of_decide_eq_false hc12
              refine c_seq ?_
              refine c_region ?_
              refine t_q (q_eql rfl rfl) ?_
              refine t_q (q_as (.bool _) rfl) ?_
              refine t_nil ?_
              refine c_cond rfl ?_ ?_
              · intro hc14
                have hc14d := of_decide_eq_true hc14
                have hfl : cfl x.kind = 1024 := by first | (rw [show x.kind = 9 by omega]; rfl)
                have hok : cok x.kind = true := decide_eq_true (by omega)
                refine c_region ?_
                refine t_q (q_fieldAddr 13 Try.runUnderlying49 rfl Try.sizeOf47 (by decide) rfl rfl) ?_
                refine t_q (q_cast (v' := .agg x.rules.cells.toArray) (q_load_sub Try.isAgg47 Try.sizeOf47 rfl (hS.blk (by repeat first | exact .here _ _ | assumption | apply Pick.there)) (by show 0 + 13 + 9 ≤ 22; decide)) (by rfl)) ?_
                refine t_q (q_fieldAddr 13 Try.runUnderlying49 rfl Try.sizeOf47 (by decide) rfl rfl) ?_
                refine t_store (v := (.agg _)) Try.sizeOf47 hS (by repeat first | exact .here _ _ | assumption | apply Pick.there) rfl rfl rfl rfl rfl rfl (fun w hS => ?_)
                replace hS := hS.recast (show blkA g4 49 _ = blkA g4 49 [.int .i64 x.kind, .int .u64 x.client, .int .u64 x.req, .int .i64 0, .int .u64 0, .int .i64 0, .int .i64 0, .int .i64 0, .int .i64 0, .int .i64 0, .int .i64 0, .int .i64 0, .int .u64 0, .int .i64 x.rules.version, .slice x.rules.ticks.A x.rules.ticks.l.length x.rules.ticks.c, .int .i64 x.rules.lot, .int .i64 x.rules.band, .slice x.rules.fees.A x.rules.fees.l.length x.rules.fees.c, .int .i64 x.rules.round, .int .i64 x.rules.priority, .int .i64 x.rules.self, .int .i64 x.rules.layout] from rfl)
                refine t_nil ?_
                refine c_seq ?_
                refine c_region ?_
                refine t_q (q_load_blk Try.isAgg49 Try.sizeOf49 rfl (hS.blk (by repeat first | exact .here _ _ | assumption | apply Pick.there)) rfl) ?_
                refine t_store (v := (.agg _)) Try.sizeOf49 hS (by repeat first | exact .here _ _ | assumption | apply Pick.there) rfl rfl rfl rfl rfl rfl (fun w hS => ?_)
                replace hS := hS.recast (congrArg (blkA g2 49) (setN_full rfl))
                refine t_q (q_assign) ?_
                refine t_nil ?_
                refine c_ret ?_
                refine r_two rfl (res1_cellN Try.isAgg49 Try.sizeOf49 rfl (hS.blk (by repeat first | exact .here _ _ | assumption | apply Pick.there)) rfl) rfl ?_
                rw [hfl, hok]
                exact ⟨rfl, hS.nil⟩
              · intro hc14
                have hc14d := of_decide_eq_false hc14
                refine c_seq ?_
                refine c_region ?_
                refine t_q (q_eql rfl rfl) ?_
                refine t_q (q_as (.bool _) rfl) ?_
                refine t_nil ?_
                refine c_cond rfl ?_ ?_
                · intro hc16
                  have hc16d := of_decide_eq_true hc16
                  have hfl : cfl x.kind = 384 := by first | (rw [show x.kind = 10 by omega]; rfl)
                  have hok : cok x.kind = true := decide_eq_true (by omega)
                  refine c_draw ?_
                  refine d_keep (blkA g1 49 [.int .i64 x.kind, .int .u64 x.client, .int .u64 x.req, .int .i64 x.account, .int .u64 x.id, .int .i64 x.side, .int .i64 x.typ, .int .i64 x.asset, .int .i64 x.price, .int .i64 x.qty, .int .i64 x.version, .int .i64 x.replica, .int .u64 x.at_, .int .i64 x.rules.version, .slice x.rules.ticks.A x.rules.ticks.l.length x.rules.ticks.c, .int .i64 x.rules.lot, .int .i64 x.rules.band, .slice x.rules.fees.A x.rules.fees.l.length x.rules.fees.c, .int .i64 x.rules.round, .int .i64 x.rules.priority, .int .i64 x.rules.self, .int .i64 x.rules.layout]) 8 [0, 1, 2, 3, 4, 5, 6, 7] [0, 1, 4, 5, 2, 3, 6, 7] hS rfl (by kernel_rfl) (by kernel_rfl) (by kernel_rfl) (by kernel_rfl) (fun hap hsel w hS => ?_)
                  refine p_q hap hsel 0 rfl rfl ⟨_, hS.pick (by repeat first | exact .here _ _ | assumption | apply Pick.there)⟩ (fun w hI => q_fieldAddr 11 Try.runUnderlying49 rfl Try.sizeOf3 (by decide) rfl rfl) ?_
                  refine p_q hap hsel 1 rfl rfl ⟨_, hS.pick (by repeat first | exact .here _ _ | assumption | apply Pick.there)⟩ (fun w hI => q_load1 Try.isAgg3 rfl (hI.choose_spec.cell (by repeat first | exact .here _ _ | assumption | apply Pick.there) rfl)) ?_
                  refine p_q hap hsel 2 rfl rfl ⟨_, hS.pick (by repeat first | exact .here _ _ | assumption | apply Pick.there)⟩ (fun w hI => q_fieldAddr 10 Try.runUnderlying49 rfl Try.sizeOf3 (by decide) rfl rfl) ?_
                  refine p_q hap hsel 3 rfl rfl ⟨_, hS.pick (by repeat first | exact .here _ _ | assumption | apply Pick.there)⟩ (fun w hI => q_load1 Try.isAgg3 rfl (hI.choose_spec.cell (by repeat first | exact .here _ _ | assumption | apply Pick.there) rfl)) ?_
                  refine p_q hap hsel 4 rfl rfl ⟨_, hS.pick (by repeat first | exact .here _ _ | assumption | apply Pick.there)⟩ (fun w hI => q_fieldAddr 11 Try.runUnderlying49 rfl Try.sizeOf3 (by decide) rfl rfl) ?_
                  refine p_one 5 rfl (by kernel_rfl) ?_
                  refine t_store (v := (.int _ _)) Try.sizeOf3 hS (by repeat first | exact .here _ _ | assumption | apply Pick.there) rfl rfl rfl rfl rfl rfl (fun w hS => ?_)
                  replace hS := hS.recast (show blkA g4 49 _ = blkA g4 49 [.int .i64 x.kind, .int .u64 x.client, .int .u64 x.req, .int .i64 0, .int .u64 0, .int .i64 0, .int .i64 0, .int .i64 0, .int .i64 0, .int .i64 0, .int .i64 0, .int .i64 x.replica, .int .u64 0, .int .i64 0, .slice none 0 0, .int .i64 0, .int .i64 0, .slice none 0 0, .int .i64 0, .int .i64 0, .int .i64 0, .int .i64 0] from rfl)
                  refine t_nil ?_
                  refine ⟨.inr ⟨_, hS.pick (by repeat first | exact .here _ _ | assumption | apply Pick.there)⟩, ?_⟩
                  refine p_q hap hsel 6 rfl rfl ⟨_, hS.pick (by repeat first | exact .here _ _ | assumption | apply Pick.there)⟩ (fun w hI => q_fieldAddr 10 Try.runUnderlying49 rfl Try.sizeOf3 (by decide) rfl rfl) ?_
                  refine p_one 7 rfl (by kernel_rfl) ?_
                  refine t_store (v := (.int _ _)) Try.sizeOf3 hS (by repeat first | exact .here _ _ | assumption | apply Pick.there) rfl rfl rfl rfl rfl rfl (fun w hS => ?_)
                  replace hS := hS.recast (show blkA g4 49 _ = blkA g4 49 [.int .i64 x.kind, .int .u64 x.client, .int .u64 x.req, .int .i64 0, .int .u64 0, .int .i64 0, .int .i64 0, .int .i64 0, .int .i64 0, .int .i64 0, .int .i64 x.version, .int .i64 x.replica, .int .u64 0, .int .i64 0, .slice none 0 0, .int .i64 0, .int .i64 0, .slice none 0 0, .int .i64 0, .int .i64 0, .int .i64 0, .int .i64 0] from rfl)
                  refine t_nil ?_
                  refine ⟨.inl (by kernel_rfl), ?_⟩
                  refine p_end (by kernel_rfl) ?_
                  refine c_seq ?_
                  refine c_region ?_
                  refine t_q (q_load_blk Try.isAgg49 Try.sizeOf49 rfl (hS.blk (by repeat first | exact .here _ _ | assumption | apply Pick.there)) rfl) ?_
                  refine t_store (v := (.agg _)) Try.sizeOf49 hS (by repeat first | exact .here _ _ | assumption | apply Pick.there) rfl rfl rfl rfl rfl rfl (fun w hS => ?_)
                  replace hS := hS.recast (congrArg (blkA g2 49) (setN_full rfl))
                  refine t_q (q_assign) ?_
                  refine t_nil ?_
                  refine c_ret ?_
                  refine r_two rfl (res1_cellN Try.isAgg49 Try.sizeOf49 rfl (hS.blk (by repeat first | exact .here _ _ | assumption | apply Pick.there)) rfl) rfl ?_
                  rw [hfl, hok]
                  exact ⟨rfl, hS.nil⟩
                · intro hc16
                  have hc16d := of_decide_eq_false hc16
                  refine c_seq ?_
                  refine c_region ?_
                  refine t_q (q_eql rfl rfl) ?_
                  refine t_q (q_as (.bool _) rfl) ?_
                  refine t_nil ?_
                  refine c_cond rfl ?_ ?_
                  · intro hc18
                    have hc18d := of_decide_eq_true hc18
                    have hfl : cfl x.kind = 256 := by first | (rw [show x.kind = 11 by omega]; rfl)
                    have hok : cok x.kind = true := decide_eq_true (by omega)
                    refine c_region ?_
                    refine t_q (q_fieldAddr 10 Try.runUnderlying49 rfl Try.sizeOf3 (by decide) rfl rfl) ?_
                    refine t_q (q_load1 Try.isAgg3 rfl (hS.cell (by repeat first | exact .here _ _ | assumption | apply Pick.there) rfl)) ?_
                    refine t_q (q_fieldAddr 10 Try.runUnderlying49 rfl Try.sizeOf3 (by decide) rfl rfl) ?_
                    refine t_store (v := (.int _ _)) Try.sizeOf3 hS (by repeat first | exact .here _ _ | assumption | apply Pick.there) rfl rfl rfl rfl rfl rfl (fun w hS => ?_)
                    replace hS := hS.recast (show blkA g4 49 _ = blkA g4 49 [.int .i64 x.kind, .int .u64 x.client, .int .u64 x.req, .int .i64 0, .int .u64 0, .int .i64 0, .int .i64 0, .int .i64 0, .int .i64 0, .int .i64 0, .int .i64 x.version, .int .i64 0, .int .u64 0, .int .i64 0, .slice none 0 0, .int .i64 0, .int .i64 0, .slice none 0 0, .int .i64 0, .int .i64 0, .int .i64 0, .int .i64 0] from rfl)
                    refine t_nil ?_
                    refine c_seq ?_
                    refine c_region ?_
                    refine t_q (q_load_blk Try.isAgg49 Try.sizeOf49 rfl (hS.blk (by repeat first | exact .here _ _ | assumption | apply Pick.there)) rfl) ?_
                    refine t_store (v := (.agg _)) Try.sizeOf49 hS (by repeat first | exact .here _ _ | assumption | apply Pick.there) rfl rfl rfl rfl rfl rfl (fun w hS => ?_)
                    replace hS := hS.recast (congrArg (blkA g2 49) (setN_full rfl))
                    refine t_q (q_assign) ?_
                    refine t_nil ?_
                    refine c_ret ?_
                    refine r_two rfl (res1_cellN Try.isAgg49 Try.sizeOf49 rfl (hS.blk (by repeat first | exact .here _ _ | assumption | apply Pick.there)) rfl) rfl ?_
                    rw [hfl, hok]
                    exact ⟨rfl, hS.nil⟩
                  · intro hc18
                    have hc18d := of_decide_eq_false hc18
                    refine c_seq ?_
                    refine c_region ?_
                    refine t_q (q_eql rfl rfl) ?_
                    refine t_q (q_as (.bool _) rfl) ?_
                    refine t_nil ?_
                    refine c_cond rfl ?_ ?_
                    · intro hc20
                      have hc20d := of_decide_eq_true hc20
                      have hfl : cfl x.kind = 768 := by first | (rw [show x.kind = 13 by omega]; rfl)
                      have hok : cok x.kind = true := decide_eq_true (by omega)
                      refine c_draw ?_
                      refine d_keep (blkA g1 49 [.int .i64 x.kind, .int .u64 x.client, .int .u64 x.req, .int .i64 x.account, .int .u64 x.id, .int .i64 x.side, .int .i64 x.typ, .int .i64 x.asset, .int .i64 x.price, .int .i64 x.qty, .int .i64 x.version, .int .i64 x.replica, .int .u64 x.at_, .int .i64 x.rules.version, .slice x.rules.ticks.A x.rules.ticks.l.length x.rules.ticks.c, .int .i64 x.rules.lot, .int .i64 x.rules.band, .slice x.rules.fees.A x.rules.fees.l.length x.rules.fees.c, .int .i64 x.rules.round, .int .i64 x.rules.priority, .int .i64 x.rules.self, .int .i64 x.rules.layout]) 8 [0, 1, 2, 3, 4, 5, 6, 7] [0, 1, 4, 5, 2, 3, 6, 7] hS rfl (by kernel_rfl) (by kernel_rfl) (by kernel_rfl) (by kernel_rfl) (fun hap hsel w hS => ?_)
                      refine p_q hap hsel 0 rfl rfl ⟨_, hS.pick (by repeat first | exact .here _ _ | assumption | apply Pick.there)⟩ (fun w hI => q_fieldAddr 10 Try.runUnderlying49 rfl Try.sizeOf3 (by decide) rfl rfl) ?_
                      refine p_q hap hsel 1 rfl rfl ⟨_, hS.pick (by repeat first | exact .here _ _ | assumption | apply Pick.there)⟩ (fun w hI => q_load1 Try.isAgg3 rfl (hI.choose_spec.cell (by repeat first | exact .here _ _ | assumption | apply Pick.there) rfl)) ?_
                      refine p_q hap hsel 2 rfl rfl ⟨_, hS.pick (by repeat first | exact .here _ _ | assumption | apply Pick.there)⟩ (fun w hI => q_fieldAddr 12 Try.runUnderlying49 rfl Try.sizeOf26 (by decide) rfl rfl) ?_
                      refine p_q hap hsel 3 rfl rfl ⟨_, hS.pick (by repeat first | exact .here _ _ | assumption | apply Pick.there)⟩ (fun w hI => q_load1 Try.isAgg26 rfl (hI.choose_spec.cell (by repeat first | exact .here _ _ | assumption | apply Pick.there) rfl)) ?_
                      refine p_q hap hsel 4 rfl rfl ⟨_, hS.pick (by repeat first | exact .here _ _ | assumption | apply Pick.there)⟩ (fun w hI => q_fieldAddr 10 Try.runUnderlying49 rfl Try.sizeOf3 (by decide) rfl rfl) ?_
                      refine p_one 5 rfl (by kernel_rfl) ?_
                      refine t_store (v := (.int _ _)) Try.sizeOf3 hS (by repeat first | exact .here _ _ | assumption | apply Pick.there) rfl rfl rfl rfl rfl rfl (fun w hS => ?_)
                      replace hS := hS.recast (show blkA g4 49 _ = blkA g4 49 [.int .i64 x.kind, .int .u64 x.client, .int .u64 x.req, .int .i64 0, .int .u64 0, .int .i64 0, .int .i64 0, .int .i64 0, .int .i64 0, .int .i64 0, .int .i64 x.version, .int .i64 0, .int .u64 0, .int .i64 0, .slice none 0 0, .int .i64 0, .int .i64 0, .slice none 0 0, .int .i64 0, .int .i64 0, .int .i64 0, .int .i64 0] from rfl)
                      refine t_nil ?_
                      refine ⟨.inr ⟨_, hS.pick (by repeat first | exact .here _ _ | assumption | apply Pick.there)⟩, ?_⟩
                      refine p_q hap hsel 6 rfl rfl ⟨_, hS.pick (by repeat first | exact .here _ _ | assumption | apply Pick.there)⟩ (fun w hI => q_fieldAddr 12 Try.runUnderlying49 rfl Try.sizeOf26 (by decide) rfl rfl) ?_
                      refine p_one 7 rfl (by kernel_rfl) ?_
                      refine t_store (v := (.int _ _)) Try.sizeOf26 hS (by repeat first | exact .here _ _ | assumption | apply Pick.there) rfl rfl rfl rfl rfl rfl (fun w hS => ?_)
                      replace hS := hS.recast (show blkA g4 49 _ = blkA g4 49 [.int .i64 x.kind, .int .u64 x.client, .int .u64 x.req, .int .i64 0, .int .u64 0, .int .i64 0, .int .i64 0, .int .i64 0, .int .i64 0, .int .i64 0, .int .i64 x.version, .int .i64 0, .int .u64 x.at_, .int .i64 0, .slice none 0 0, .int .i64 0, .int .i64 0, .slice none 0 0, .int .i64 0, .int .i64 0, .int .i64 0, .int .i64 0] from rfl)
                      refine t_nil ?_
                      refine ⟨.inl (by kernel_rfl), ?_⟩
                      refine p_end (by kernel_rfl) ?_
                      refine c_seq ?_
                      refine c_region ?_
                      refine t_q (q_load_blk Try.isAgg49 Try.sizeOf49 rfl (hS.blk (by repeat first | exact .here _ _ | assumption | apply Pick.there)) rfl) ?_
                      refine t_store (v := (.agg _)) Try.sizeOf49 hS (by repeat first | exact .here _ _ | assumption | apply Pick.there) rfl rfl rfl rfl rfl rfl (fun w hS => ?_)
                      replace hS := hS.recast (congrArg (blkA g2 49) (setN_full rfl))
                      refine t_q (q_assign) ?_
                      refine t_nil ?_
                      refine c_ret ?_
                      refine r_two rfl (res1_cellN Try.isAgg49 Try.sizeOf49 rfl (hS.blk (by repeat first | exact .here _ _ | assumption | apply Pick.there)) rfl) rfl ?_
                      rw [hfl, hok]
                      exact ⟨rfl, hS.nil⟩
                    · intro hc20
                      have hc20d := of_decide_eq_false hc20
                      refine c_seq ?_
                      refine c_seq ?_
                      refine c_region ?_
                      refine t_q (q_eql rfl rfl) ?_
                      refine t_q (q_as (.bool _) rfl) ?_
                      refine t_nil ?_
                      refine c_cond rfl ?_ ?_
                      · intro hc22
                        have hc22d := of_decide_eq_true hc22
                        have hfl : cfl x.kind = 0 := by first | (rw [show x.kind = 6 by omega]; rfl) | (rw [show x.kind = 7 by omega]; rfl) | (rw [show x.kind = 12 by omega]; rfl) | (rw [show x.kind = 14 by omega]; rfl) | (rw [show x.kind = 15 by omega]; rfl)
                        have hok : cok x.kind = true := decide_eq_true (by omega)
                        refine c_skip ?_
                        refine c_cond_t rfl hc22 ?_
                        have hfl : cfl x.kind = 0 := by first | (rw [show x.kind = 6 by omega]; rfl) | (rw [show x.kind = 7 by omega]; rfl) | (rw [show x.kind = 12 by omega]; rfl) | (rw [show x.kind = 14 by omega]; rfl) | (rw [show x.kind = 15 by omega]; rfl)
                        have hok : cok x.kind = true := decide_eq_true (by omega)
                        refine c_seq ?_
                        refine c_region ?_
                        refine t_q (q_load_blk Try.isAgg49 Try.sizeOf49 rfl (hS.blk (by repeat first | exact .here _ _ | assumption | apply Pick.there)) rfl) ?_
                        refine t_store (v := (.agg _)) Try.sizeOf49 hS (by repeat first | exact .here _ _ | assumption | apply Pick.there) rfl rfl rfl rfl rfl rfl (fun w hS => ?_)
                        replace hS := hS.recast (congrArg (blkA g2 49) (setN_full rfl))
                        refine t_q (q_assign) ?_
                        refine t_nil ?_
                        refine c_ret ?_
                        refine r_two rfl (res1_cellN Try.isAgg49 Try.sizeOf49 rfl (hS.blk (by repeat first | exact .here _ _ | assumption | apply Pick.there)) rfl) rfl ?_
                        rw [hfl, hok]
                        exact ⟨rfl, hS.nil⟩
                      · intro hc22
                        have hc22d := of_decide_eq_false hc22
                        first | have hfl : cfl x.kind = 0 := cfl_none (by omega) | skip
                        first | have hok : cok x.kind = false := decide_eq_false (by omega) | skip
                        refine c_seq ?_
                        refine c_region ?_
                        refine t_q (q_eql rfl rfl) ?_
                        refine t_q (q_as (.bool _) rfl) ?_
                        refine t_nil ?_
                        refine c_cond rfl ?_ ?_
                        · intro hc24
                          have hc24d := of_decide_eq_true hc24
                          have hfl : cfl x.kind = 0 := by first | (rw [show x.kind = 6 by omega]; rfl) | (rw [show x.kind = 7 by omega]; rfl) | (rw [show x.kind = 12 by omega]; rfl) | (rw [show x.kind = 14 by omega]; rfl) | (rw [show x.kind = 15 by omega]; rfl)
                          have hok : cok x.kind = true := decide_eq_true (by omega)
                          refine c_skip ?_
                          refine c_cond_t rfl hc24 ?_
                          have hfl : cfl x.kind = 0 := by first | (rw [show x.kind = 6 by omega]; rfl) | (rw [show x.kind = 7 by omega]; rfl) | (rw [show x.kind = 12 by omega]; rfl) | (rw [show x.kind = 14 by omega]; rfl) | (rw [show x.kind = 15 by omega]; rfl)
                          have hok : cok x.kind = true := decide_eq_true (by omega)
                          refine c_seq ?_
                          refine c_region ?_
                          refine t_q (q_load_blk Try.isAgg49 Try.sizeOf49 rfl (hS.blk (by repeat first | exact .here _ _ | assumption | apply Pick.there)) rfl) ?_
                          refine t_store (v := (.agg _)) Try.sizeOf49 hS (by repeat first | exact .here _ _ | assumption | apply Pick.there) rfl rfl rfl rfl rfl rfl (fun w hS => ?_)
                          replace hS := hS.recast (congrArg (blkA g2 49) (setN_full rfl))
                          refine t_q (q_assign) ?_
                          refine t_nil ?_
                          refine c_ret ?_
                          refine r_two rfl (res1_cellN Try.isAgg49 Try.sizeOf49 rfl (hS.blk (by repeat first | exact .here _ _ | assumption | apply Pick.there)) rfl) rfl ?_
                          rw [hfl, hok]
                          exact ⟨rfl, hS.nil⟩
                        · intro hc24
                          have hc24d := of_decide_eq_false hc24
                          first | have hfl : cfl x.kind = 0 := cfl_none (by omega) | skip
                          first | have hok : cok x.kind = false := decide_eq_false (by omega) | skip
                          refine c_seq ?_
                          refine c_region ?_
                          refine t_q (q_eql rfl rfl) ?_
                          refine t_q (q_as (.bool _) rfl) ?_
                          refine t_nil ?_
                          refine c_cond rfl ?_ ?_
                          · intro hc26
                            have hc26d := of_decide_eq_true hc26
                            have hfl : cfl x.kind = 0 := by first | (rw [show x.kind = 6 by omega]; rfl) | (rw [show x.kind = 7 by omega]; rfl) | (rw [show x.kind = 12 by omega]; rfl) | (rw [show x.kind = 14 by omega]; rfl) | (rw [show x.kind = 15 by omega]; rfl)
                            have hok : cok x.kind = true := decide_eq_true (by omega)
                            refine c_skip ?_
                            refine c_cond_t rfl hc26 ?_
                            have hfl : cfl x.kind = 0 := by first | (rw [show x.kind = 6 by omega]; rfl) | (rw [show x.kind = 7 by omega]; rfl) | (rw [show x.kind = 12 by omega]; rfl) | (rw [show x.kind = 14 by omega]; rfl) | (rw [show x.kind = 15 by omega]; rfl)
                            have hok : cok x.kind = true := decide_eq_true (by omega)
                            refine c_seq ?_
                            refine c_region ?_
                            refine t_q (q_load_blk Try.isAgg49 Try.sizeOf49 rfl (hS.blk (by repeat first | exact .here _ _ | assumption | apply Pick.there)) rfl) ?_
                            refine t_store (v := (.agg _)) Try.sizeOf49 hS (by repeat first | exact .here _ _ | assumption | apply Pick.there) rfl rfl rfl rfl rfl rfl (fun w hS => ?_)
                            replace hS := hS.recast (congrArg (blkA g2 49) (setN_full rfl))
                            refine t_q (q_assign) ?_
                            refine t_nil ?_
                            refine c_ret ?_
                            refine r_two rfl (res1_cellN Try.isAgg49 Try.sizeOf49 rfl (hS.blk (by repeat first | exact .here _ _ | assumption | apply Pick.there)) rfl) rfl ?_
                            rw [hfl, hok]
                            exact ⟨rfl, hS.nil⟩
                          · intro hc26
                            have hc26d := of_decide_eq_false hc26
                            first | have hfl : cfl x.kind = 0 := cfl_none (by omega) | skip
                            first | have hok : cok x.kind = false := decide_eq_false (by omega) | skip
                            refine c_seq ?_
                            refine c_region ?_
                            refine t_q (q_eql rfl rfl) ?_
                            refine t_q (q_as (.bool _) rfl) ?_
                            refine t_nil ?_
                            refine c_cond rfl ?_ ?_
                            · intro hc28
                              have hc28d := of_decide_eq_true hc28
                              have hfl : cfl x.kind = 0 := by first | (rw [show x.kind = 6 by omega]; rfl) | (rw [show x.kind = 7 by omega]; rfl) | (rw [show x.kind = 12 by omega]; rfl) | (rw [show x.kind = 14 by omega]; rfl) | (rw [show x.kind = 15 by omega]; rfl)
                              have hok : cok x.kind = true := decide_eq_true (by omega)
                              refine c_skip ?_
                              refine c_cond_t rfl hc28 ?_
                              have hfl : cfl x.kind = 0 := by first | (rw [show x.kind = 6 by omega]; rfl) | (rw [show x.kind = 7 by omega]; rfl) | (rw [show x.kind = 12 by omega]; rfl) | (rw [show x.kind = 14 by omega]; rfl) | (rw [show x.kind = 15 by omega]; rfl)
                              have hok : cok x.kind = true := decide_eq_true (by omega)
                              refine c_seq ?_
                              refine c_region ?_
                              refine t_q (q_load_blk Try.isAgg49 Try.sizeOf49 rfl (hS.blk (by repeat first | exact .here _ _ | assumption | apply Pick.there)) rfl) ?_
                              refine t_store (v := (.agg _)) Try.sizeOf49 hS (by repeat first | exact .here _ _ | assumption | apply Pick.there) rfl rfl rfl rfl rfl rfl (fun w hS => ?_)
                              replace hS := hS.recast (congrArg (blkA g2 49) (setN_full rfl))
                              refine t_q (q_assign) ?_
                              refine t_nil ?_
                              refine c_ret ?_
                              refine r_two rfl (res1_cellN Try.isAgg49 Try.sizeOf49 rfl (hS.blk (by repeat first | exact .here _ _ | assumption | apply Pick.there)) rfl) rfl ?_
                              rw [hfl, hok]
                              exact ⟨rfl, hS.nil⟩
                            · intro hc28
                              have hc28d := of_decide_eq_false hc28
                              first | have hfl : cfl x.kind = 0 := cfl_none (by omega) | skip
                              first | have hok : cok x.kind = false := decide_eq_false (by omega) | skip
                              refine c_region ?_
                              refine t_q (q_eql rfl rfl) ?_
                              refine t_q (q_as (.bool _) rfl) ?_
                              refine t_nil ?_
                              refine c_cond rfl ?_ ?_
                              · intro hc30
                                have hc30d := of_decide_eq_true hc30
                                have hfl : cfl x.kind = 0 := by first | (rw [show x.kind = 6 by omega]; rfl) | (rw [show x.kind = 7 by omega]; rfl) | (rw [show x.kind = 12 by omega]; rfl) | (rw [show x.kind = 14 by omega]; rfl) | (rw [show x.kind = 15 by omega]; rfl)
                                have hok : cok x.kind = true := decide_eq_true (by omega)
                                refine c_seq ?_
                                refine c_region ?_
                                refine t_q (q_load_blk Try.isAgg49 Try.sizeOf49 rfl (hS.blk (by repeat first | exact .here _ _ | assumption | apply Pick.there)) rfl) ?_
                                refine t_store (v := (.agg _)) Try.sizeOf49 hS (by repeat first | exact .here _ _ | assumption | apply Pick.there) rfl rfl rfl rfl rfl rfl (fun w hS => ?_)
                                replace hS := hS.recast (congrArg (blkA g2 49) (setN_full rfl))
                                refine t_q (q_assign) ?_
                                refine t_nil ?_
                                refine c_ret ?_
                                refine r_two rfl (res1_cellN Try.isAgg49 Try.sizeOf49 rfl (hS.blk (by repeat first | exact .here _ _ | assumption | apply Pick.there)) rfl) rfl ?_
                                rw [hfl, hok]
                                exact ⟨rfl, hS.nil⟩
                              · intro hc30
                                have hc30d := of_decide_eq_false hc30
                                first | have hfl : cfl x.kind = 0 := cfl_none (by omega) | skip
                                first | have hok : cok x.kind = false := decide_eq_false (by omega) | skip
                                refine c_seq ?_
                                refine c_region ?_
                                refine t_q (q_load_blk Try.isAgg49 Try.sizeOf49 rfl (hS.blk (by repeat first | exact .here _ _ | assumption | apply Pick.there)) rfl) ?_
                                refine t_store (v := (.agg _)) Try.sizeOf49 hS (by repeat first | exact .here _ _ | assumption | apply Pick.there) rfl rfl rfl rfl rfl rfl (fun w hS => ?_)
                                replace hS := hS.recast (congrArg (blkA g2 49) (setN_full rfl))
                                refine t_q (q_assign) ?_
                                refine t_nil ?_
                                refine c_ret ?_
                                refine r_two rfl (res1_cellN Try.isAgg49 Try.sizeOf49 rfl (hS.blk (by repeat first | exact .here _ _ | assumption | apply Pick.there)) rfl) rfl ?_
                                rw [hfl, hok]
                                exact ⟨rfl, hS.nil⟩
set_option maxHeartbeats 4000000 in
set_option maxRecDepth 100000 in
theorem qcsound_calls {x : CmdV} (hx : x.Gd W) : Calls Try.prog 49 #[.agg x.cells.toArray] W fun e w' => e = .returned (.bool (sndC x)) ∧ St W w' [] := by
  have hS := St.init W
  have hcl := hx.client
  obtain ⟨kv, hkv⟩ : ∃ y, y = keepC (cfl x.kind) x := ⟨_, rfl⟩
  have hkg : kv.Gd W := by rw [hkv]; exact hx.keep _
  refine calls_of_wpE (args := [_]) Try.func49 rfl rfl rfl ?_
  refine c_seq ?_
  refine c_region ?_
  refine t_box (v := (.agg _)) rfl rfl hS (fun g1 w hS => ?_)
  replace hS := hS.recast (show _ = blkA g1 49 [.int .i64 x.kind, .int .u64 x.client, .int .u64 x.req, .int .i64 x.account, .int .u64 x.id, .int .i64 x.side, .int .i64 x.typ, .int .i64 x.asset, .int .i64 x.price, .int .i64 x.qty, .int .i64 x.version, .int .i64 x.replica, .int .u64 x.at_, .int .i64 x.rules.version, .slice x.rules.ticks.A x.rules.ticks.l.length x.rules.ticks.c, .int .i64 x.rules.lot, .int .i64 x.rules.band, .slice x.rules.fees.A x.rules.fees.l.length x.rules.fees.c, .int .i64 x.rules.round, .int .i64 x.rules.priority, .int .i64 x.rules.self, .int .i64 x.rules.layout] from rfl)
  refine t_q (q_assign) ?_
  refine t_nil ?_
  refine c_seq ?_
  refine c_region ?_
  refine t_q (q_cast (v' := .agg x.cells.toArray) (q_load_blk Try.isAgg49 Try.sizeOf49 rfl (hS.blk (by repeat first | exact .here _ _ | assumption | apply Pick.there)) rfl) (by rfl)) ?_
  refine t_call Try.call101 (ckept_calls (x := x)) rfl ?_
  rintro e w ⟨rfl, hT⟩
  refine ⟨_, rfl, ?_⟩
  replace hS := hS.after hT
  rw [← hkv]
  refine t_q (q_mv (.tuple _) rfl) ?_
  refine t_q (q_extract rfl rfl) ?_
  refine t_q (q_extract rfl rfl) ?_
  refine t_alloc Try.zeroValue49 rfl hS (fun g3 w hS => ?_)
  refine t_store (v := (.agg _)) Try.sizeOf49 hS (by repeat first | exact .here _ _ | assumption | apply Pick.there) rfl rfl rfl rfl rfl rfl (fun w hS => ?_)
  replace hS := hS.recast (congrArg (blkA g3 49) (setN_full (vs := kv.cells) (cmd_len kv).symm))
  refine t_q (q_as (.bool _) rfl) ?_
  refine t_nil ?_
  refine c_seq ?_
  refine c_region ?_
  refine t_q (q_mv (.bool _) rfl) ?_
  refine t_q (q_mv (.bool _) rfl) ?_
  refine t_case 11 rfl ?_ ?_
  · intro hg4
    refine t_yes rfl rfl hg4 ?_
    refine t_q (q_load_blk Try.isAgg49 Try.sizeOf49 rfl (hS.blk (by repeat first | exact .here _ _ | assumption | apply Pick.there)) rfl) ?_
    refine t_yes rfl rfl hg4 ?_
    refine t_q (q_cast (v' := .agg x.cells.toArray) (q_load_blk Try.isAgg49 Try.sizeOf49 rfl (hS.blk (by repeat first | exact .here _ _ | assumption | apply Pick.there)) rfl) (by rfl)) ?_
    refine t_yes rfl rfl hg4 ?_
    refine t_call Try.call46 (qcsame_calls (x := kv) (y := x) (hkg.st hS) (hx.st hS)) rfl ?_
    rintro e w ⟨rfl, hT⟩
    refine ⟨_, rfl, ?_⟩
    replace hS := hS.after hT
    refine t_q (q_pick_t rfl hg4) ?_
    refine t_q (q_mv (.bool _) rfl) ?_
    refine t_case 16 rfl ?_ ?_
    · intro hg6
      refine t_yes rfl rfl hg6 ?_
      refine t_q (q_fieldAddr 1 Try.runUnderlying49 rfl Try.sizeOf26 (by decide) rfl rfl) ?_
      refine t_yes rfl rfl hg6 ?_
      refine t_q (q_load1 Try.isAgg26 rfl (hS.cell (by repeat first | exact .here _ _ | assumption | apply Pick.there) rfl)) ?_
      refine t_yes rfl rfl hg6 ?_
      refine t_q (q_leq rfl rfl) ?_
      refine t_q (q_pick_t rfl hg6) ?_
      refine t_q (q_mv (.bool _) rfl) ?_
      refine t_case 21 rfl ?_ ?_
      · intro hg8
        have hg8d := of_decide_eq_true hg8
        refine t_yes rfl rfl hg8 ?_
        refine t_q (q_fieldAddr 0 Try.runUnderlying49 rfl Try.sizeOf3 (by decide) rfl rfl) ?_
        refine t_yes rfl rfl hg8 ?_
        refine t_q (q_load1 Try.isAgg3 rfl (hS.cell (by repeat first | exact .here _ _ | assumption | apply Pick.there) rfl)) ?_
        refine t_yes rfl rfl hg8 ?_
        refine t_q (q_neq rfl rfl) ?_
        refine t_yes rfl rfl hg8 ?_
        refine t_q (q_mv (.bool _) rfl) ?_
        refine t_case 25 rfl ?_ ?_
        · intro hg10
          have hg10d := of_decide_eq_true hg10
          refine t_no rfl rfl (by rw [hg10]; decide) ?_
          refine t_no rfl rfl (by rw [hg10]; decide) ?_
          refine t_no rfl rfl (by rw [hg10]; decide) ?_
          refine t_yes rfl rfl hg8 ?_
          refine t_q (q_pick_t rfl hg10) ?_
          refine t_q (q_pick_t rfl hg8) ?_
          refine t_q (q_as (.bool _) rfl) ?_
          refine t_nil ?_
          refine c_ret ?_
          refine r_one rfl rfl ?_
          have hN := hS.nil
          clear hS
          refine ⟨congrArg (fun b => Ending.returned (.bool b)) ?_, hN⟩
          unfold sndC
          rw [← hkv]
          first
            | (simp [*]; done)
            | (simp_all; done)
        · intro hg10
          have hg10d := of_decide_eq_false hg10
          refine t_yes rfl rfl hg10 ?_
          refine t_q (q_fieldAddr 13 Try.runUnderlying49 rfl Try.sizeOf47 (by decide) rfl rfl) ?_
          refine t_yes rfl rfl hg10 ?_
          refine t_q (q_cast (v' := .agg x.rules.cells.toArray) (q_load_sub Try.isAgg47 Try.sizeOf47 rfl (hS.blk (by repeat first | exact .here _ _ | assumption | apply Pick.there)) (by show 0 + 13 + 9 ≤ 22; decide)) (by rfl)) ?_
          refine t_yes rfl rfl hg10 ?_
          refine t_call Try.call77 (qgoodr_calls (x := x.rules) (hx.rules.st hS)) rfl ?_
          rintro e w ⟨rfl, hT⟩
          refine ⟨_, rfl, ?_⟩
          replace hS := hS.after hT
          refine t_yes rfl rfl hg8 ?_
          refine t_q (q_pick_f rfl hg10) ?_
          refine t_q (q_pick_t rfl hg8) ?_
          refine t_q (q_as (.bool _) rfl) ?_
          refine t_nil ?_
          refine c_ret ?_
          refine r_one rfl rfl ?_
          have hN := hS.nil
          clear hS
          refine ⟨congrArg (fun b => Ending.returned (.bool b)) ?_, hN⟩
          unfold sndC
          rw [← hkv]
          first
            | (simp [*]; done)
            | (simp_all; done)
      · intro hg8
        have hg8d := of_decide_eq_false hg8
        refine t_no rfl rfl (by rw [hg8]; decide) ?_
        refine t_no rfl rfl (by rw [hg8]; decide) ?_
        refine t_no rfl rfl (by rw [hg8]; decide) ?_
        refine t_no rfl rfl (by rw [hg8]; decide) ?_
        refine t_nu rfl rfl ?_
        refine t_nu rfl rfl ?_
        refine t_nu rfl rfl ?_
        refine t_no rfl rfl (by rw [hg8]; decide) ?_
        refine t_q (q_pick_f rfl hg8) ?_
        refine t_q (q_as (.bool _) rfl) ?_
        refine t_nil ?_
        refine c_ret ?_
        refine r_one rfl rfl ?_
        have hN := hS.nil
        clear hS
        refine ⟨congrArg (fun b => Ending.returned (.bool b)) ?_, hN⟩
        unfold sndC
        rw [← hkv]
        first
          | (simp [*]; done)
          | (simp_all; done)
    · intro hg6
      refine t_no rfl rfl (by rw [hg6]; decide) ?_
      refine t_no rfl rfl (by rw [hg6]; decide) ?_
      refine t_no rfl rfl (by rw [hg6]; decide) ?_
      refine t_q (q_pick_f rfl hg6) ?_
      refine t_q (q_mv (.bool _) rfl) ?_
      refine t_no rfl rfl (by decide) ?_
      refine t_no rfl rfl (by decide) ?_
      refine t_no rfl rfl (by decide) ?_
      refine t_no rfl rfl (by decide) ?_
      refine t_nu rfl rfl ?_
      refine t_nu rfl rfl ?_
      refine t_nu rfl rfl ?_
      refine t_no rfl rfl (by decide) ?_
      refine t_q (q_pick_f rfl rfl) ?_
      refine t_q (q_as (.bool _) rfl) ?_
      refine t_nil ?_
      refine c_ret ?_
      refine r_one rfl rfl ?_
      have hN := hS.nil
      clear hS
      refine ⟨congrArg (fun b => Ending.returned (.bool b)) ?_, hN⟩
      unfold sndC
      rw [← hkv]
      first
        | (simp [*]; done)
        | (simp_all; done)
  · intro hg4
    refine t_no rfl rfl (by rw [hg4]; decide) ?_
    refine t_no rfl rfl (by rw [hg4]; decide) ?_
    refine t_no rfl rfl (by rw [hg4]; decide) ?_
    refine t_q (q_pick_f rfl hg4) ?_
    refine t_q (q_mv (.bool _) rfl) ?_
    refine t_no rfl rfl (by decide) ?_
    refine t_no rfl rfl (by decide) ?_
    refine t_no rfl rfl (by decide) ?_
    refine t_q (q_pick_f rfl rfl) ?_
    refine t_q (q_mv (.bool _) rfl) ?_
    refine t_no rfl rfl (by decide) ?_
    refine t_no rfl rfl (by decide) ?_
    refine t_no rfl rfl (by decide) ?_
    refine t_no rfl rfl (by decide) ?_
    refine t_nu rfl rfl ?_
    refine t_nu rfl rfl ?_
    refine t_nu rfl rfl ?_
    refine t_no rfl rfl (by decide) ?_
    refine t_q (q_pick_f rfl rfl) ?_
    refine t_q (q_as (.bool _) rfl) ?_
    refine t_nil ?_
    refine c_ret ?_
    refine r_one rfl rfl ?_
    have hN := hS.nil
    clear hS
    refine ⟨congrArg (fun b => Ending.returned (.bool b)) ?_, hN⟩
    unfold sndC
    rw [← hkv]
    first
      | (simp [*]; done)
      | (simp_all; done)
end Go.Proofs.Ytmgobaojioaioaa
