/- Rules: light ones; Check with its error; the error that was found. -/
import Derived.Test.YtcgagmojgjbfpaaDoorFe
import Derived.Test.YtcgagmojgjbfpaaDoorUc
namespace Go.Proofs.YtcgagmojgjbfpaaDoor
open Go Go.RowKit Go.Lib
variable {W : World}
def lightR (x : RuV) : Bool := decide (x.ticks.l.length ≤ 20 ∧ x.fees.l.length ≤ 20)
theorem light_rgd {x : RuV} {w : World} (hx : x.Ok w) (h : lightR x = true) : x.Gd w := by
  have h := of_decide_eq_true h
  exact hx.gd (by omega) (by omega)
attribute [local irreducible] blkA rowA rdsA
set_option maxRecDepth 100000 in
theorem rlight_calls {x : RuV} : Calls Tryd.prog 21 #[.agg x.cells.toArray] W fun e w' => e = .returned (.bool (lightR x)) ∧ St W w' [] := by
  have hS := St.init W
  refine calls_of_wpE (args := [_]) Tryd.func21 rfl rfl rfl ?_
  refine c_seq ?_
  refine c_region ?_
  refine t_box (v := (.agg _)) rfl rfl hS (fun g1 w hS => ?_)
  replace hS := hS.recast (show _ = blkA g1 42 [.int .i64 x.version, .slice x.ticks.A x.ticks.l.length x.ticks.c, .int .i64 x.lot, .int .i64 x.band, .slice x.fees.A x.fees.l.length x.fees.c, .int .i64 x.round, .int .i64 x.priority, .int .i64 x.self, .int .i64 x.layout] from rfl)
  refine t_q (q_assign) ?_
  refine t_nil ?_
  refine c_seq ?_
  refine c_region ?_
  refine t_q (q_fieldAddr 1 Tryd.runUnderlying42 rfl Tryd.sizeOf39 (by decide) rfl rfl) ?_
  refine t_q (q_load1 Tryd.isAgg39 rfl (hS.cell (by repeat first | exact .here _ _ | assumption | apply Pick.there) rfl)) ?_
  refine t_q (q_len_slice Tryd.runUnderlying39 rfl) ?_
  refine t_q (q_leq rfl rfl) ?_
  refine t_q (q_mv (.bool _) rfl) ?_
  refine t_case 7 rfl ?_ ?_
  · intro hg2
    have hg2d := of_decide_eq_true hg2
    refine t_yes rfl rfl hg2 ?_
    refine t_q (q_fieldAddr 4 Tryd.runUnderlying42 rfl Tryd.sizeOf40 (by decide) rfl rfl) ?_
    refine t_yes rfl rfl hg2 ?_
    refine t_q (q_load1 Tryd.isAgg40 rfl (hS.cell (by repeat first | exact .here _ _ | assumption | apply Pick.there) rfl)) ?_
    refine t_yes rfl rfl hg2 ?_
    refine t_q (q_len_slice Tryd.runUnderlying40 rfl) ?_
    refine t_yes rfl rfl hg2 ?_
    refine t_q (q_leq rfl rfl) ?_
    refine t_q (q_pick_t rfl hg2) ?_
    refine t_q (q_as (.bool _) rfl) ?_
    refine t_nil ?_
    refine c_ret ?_
    refine r_one rfl rfl ?_
    unfold lightR
    refine ⟨congrArg (fun b => Ending.returned (.bool b)) ?_, hS.nil⟩
    first
      | (rw [decide_eq_decide]; omega)
      | (symm; exact decide_eq_false (by omega))
      | (symm; exact decide_eq_true (by omega))
  · intro hg2
    have hg2d := of_decide_eq_false hg2
    refine t_no rfl rfl (by rw [hg2]; decide) ?_
    refine t_no rfl rfl (by rw [hg2]; decide) ?_
    refine t_no rfl rfl (by rw [hg2]; decide) ?_
    refine t_no rfl rfl (by rw [hg2]; decide) ?_
    refine t_q (q_pick_f rfl hg2) ?_
    refine t_q (q_as (.bool _) rfl) ?_
    refine t_nil ?_
    refine c_ret ?_
    refine r_one rfl rfl ?_
    unfold lightR
    refine ⟨congrArg (fun b => Ending.returned (.bool b)) ?_, hS.nil⟩
    first
      | (rw [decide_eq_decide]; omega)
      | (symm; exact decide_eq_false (by omega))
      | (symm; exact decide_eq_true (by omega))
end Go.Proofs.YtcgagmojgjbfpaaDoor
