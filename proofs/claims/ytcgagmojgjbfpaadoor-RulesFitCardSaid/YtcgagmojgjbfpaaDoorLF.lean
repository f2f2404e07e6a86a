/- Whether any order may be: the walk. -/
import Derived.Test.YtcgagmojgjbfpaaDoorGc
import Derived.Test.YtcgagmojgjbfpaaDoorFf
import Derived.Test.YtcgagmojgjbfpaaDoorUg
import Derived.Test.YtcgagmojgjbfpaaDoorUc
import Derived.Test.YtcgagmojgjbfpaaDoorUd
import Derived.Test.YtcgagmojgjbfpaaDoorCw
namespace Go.Proofs.YtcgagmojgjbfpaaDoor
open Go Go.RowKit Go.Lib
variable {W : World}
attribute [local irreducible] blkA rowA nF nB loB upB mulA mulX brw
set_option maxHeartbeats 2000000 in
set_option maxRecDepth 100000 in
theorem RulesFit_calls {x : RuV} {last side kind price qty : Int} (hE : EtOk W) (hx : x.Ok W) (hlast : -9223372036854775808 ≤ last ∧ last ≤ 9223372036854775807) (hprice : -9223372036854775808 ≤ price ∧ price ≤ 9223372036854775807) (hqty : -9223372036854775808 ≤ qty ∧ qty ≤ 9223372036854775807) : Calls Tryd.prog 7 #[.agg x.cells.toArray, .int .i64 last, .int .i64 side, .int .i64 kind, .int .i64 price, .int .i64 qty] W fun e w' => e = .returned (.bool true) ∧ St W w' [] := by
  have hS := St.init W
  refine calls_of_wpE (args := [_, _, _, _, _, _]) Tryd.func7 rfl rfl rfl ?_
  refine c_seq ?_
  refine c_region ?_
  refine t_box (v := (.agg _)) rfl rfl hS (fun g6 w hS => ?_)
  replace hS := hS.recast (show _ = blkA g6 42 [.int .i64 x.version, .slice x.ticks.A x.ticks.l.length x.ticks.c, .int .i64 x.lot, .int .i64 x.band, .slice x.fees.A x.fees.l.length x.fees.c, .int .i64 x.round, .int .i64 x.priority, .int .i64 x.self, .int .i64 x.layout] from rfl)
  refine t_q (q_assign) ?_
  refine t_nil ?_
  refine c_seq ?_
  refine c_seq ?_
  refine c_region ?_
  refine t_q (q_cast (v' := .agg x.cells.toArray) (q_load_blk Tryd.isAgg42 Tryd.sizeOf42 rfl (hS.blk (by repeat first | exact .here _ _ | assumption | apply Pick.there)) rfl) (by rfl)) ?_
  refine t_call Tryd.call21 (rlight_calls (x := x)) rfl ?_
  rintro e w ⟨rfl, hT⟩
  refine ⟨_, rfl, ?_⟩
  replace hS := hS.after hT
  refine t_q (q_not rfl) ?_
  refine t_nil ?_
  refine c_cond rfl ?_ ?_
  · intro hc2
    refine c_seq ?_
    refine c_region ?_
    refine t_call Tryd.call22 (r9lives_calls (hE.st hS)) rfl ?_
    rintro e w ⟨rfl, hT⟩
    refine ⟨_, rfl, ?_⟩
    replace hS := hS.after hT
    refine t_q (q_as (.bool _) rfl) ?_
    refine t_nil ?_
    refine c_ret ?_
    refine r_one rfl rfl ?_
    exact ⟨rfl, hS.nil⟩
  · intro hc2
    have hlx : lightR x = true := bnf (by assumption : (!lightR x) = false)
    refine c_skip ?_
    refine c_seq ?_
    refine c_region ?_
    refine t_q (q_cast (v' := .agg x.cells.toArray) (q_load_blk Tryd.isAgg42 Tryd.sizeOf42 rfl (hS.blk (by repeat first | exact .here _ _ | assumption | apply Pick.there)) rfl) (by rfl)) ?_
    refine t_q (q_mv (.int _ _) rfl) ?_
    refine t_q (q_mv (.int _ _) rfl) ?_
    refine t_q (q_mv (.int _ _) rfl) ?_
    refine t_q (q_mv (.int _ _) rfl) ?_
    refine t_q (q_mv (.int _ _) rfl) ?_
    refine t_call Tryd.call26 (qfits_calls (x := x) (last := last) (side := side) (kind := kind) (price := price) (qty := qty) ((light_rgd hx hlx).st hS) hlast hprice hqty) rfl ?_
    rintro e w ⟨rfl, hT⟩
    refine ⟨_, rfl, ?_⟩
    replace hS := hS.after hT
    refine t_q (q_mv (.tuple _) rfl) ?_
    refine t_q (q_extract rfl rfl) ?_
    refine t_q (q_extract rfl rfl) ?_
    refine t_q (q_as (.int _ _) rfl) ?_
    refine t_q (q_as (.int _ _) rfl) ?_
    refine t_nil ?_
    refine c_seq ?_
    refine c_region ?_
    refine t_q (q_cast (v' := .agg x.cells.toArray) (q_load_blk Tryd.isAgg42 Tryd.sizeOf42 rfl (hS.blk (by repeat first | exact .here _ _ | assumption | apply Pick.there)) rfl) (by rfl)) ?_
    refine t_q (q_mv (.int _ _) rfl) ?_
    refine t_q (q_mv (.int _ _) rfl) ?_
    refine t_q (q_mv (.int _ _) rfl) ?_
    refine t_q (q_mv (.int _ _) rfl) ?_
    refine t_q (q_mv (.int _ _) rfl) ?_
    refine t_call Tryd.call27 (fits_calls (x := x) (last := last) (side := side) (kind := kind) (price := price) (qty := qty) ((light_rgd hx hlx).st hS) hlast hprice hqty) rfl ?_
    rintro e w ⟨v, ps, rfl, hv, hT⟩
    refine ⟨_, rfl, ?_⟩
    have hS : St W w (_ :: _) := hS.lift hT
    rw [← errOf_n] at hv
    refine t_q (q_mv (.int _ _) rfl) ?_
    refine t_q (q_mv (.int _ _) rfl) ?_
    refine t_call Tryd.call24 (found_calls (p := fitN (fitV x last side kind price qty)) hE (hS.pick (A := rdsA ps) (by repeat first | exact .here _ _ | assumption | apply Pick.there)) hv) rfl ?_
    rintro e w ⟨rfl, hS⟩
    refine ⟨_, rfl, ?_⟩
    refine t_q (q_mv (.bool _) rfl) ?_
    refine t_yes rfl rfl rfl ?_
    refine t_call Tryd.call22 (r9lives_calls (hE.st hS)) rfl ?_
    rintro e w ⟨rfl, hT⟩
    refine ⟨_, rfl, ?_⟩
    replace hS := hS.after hT
    refine t_q (q_pick_t rfl rfl) ?_
    refine t_q (q_as (.bool _) rfl) ?_
    refine t_nil ?_
    refine c_ret ?_
    refine r_one rfl rfl ?_
    exact ⟨rfl, hS.nil⟩
end Go.Proofs.YtcgagmojgjbfpaaDoor
