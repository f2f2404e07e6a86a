/- Any command has the document's bytes; what is written is read as it was: the walk. -/
import Derived.Test.YtmgobaojioaioaaVl
import Derived.Test.YtmgobaojioaioaaVe
import Derived.Test.YtmgobaojioaioaaVf
import Derived.Test.YtmgobaojioaioaaVi
namespace Go.Proofs.Ytmgobaojioaioaa
open Go Go.RowKit Go.Lib
variable {W : World}
theorem light_cgd {x : CmdV} {w : World} (hx : x.Ok w) (h : lightR x.rules = true) : x.Gd w := by
  have h := of_decide_eq_true h
  exact hx.gd (by omega) (by omega)
theorem cbE_zero {x : CmdV} (h : cbE x = 0) : sndC x = true ∧ (cbB x).length ≤ 512 ∧ cbL x = cbB x := by
  cases hb : sndC x with
  | false => rw [(cbE_no hb).1] at h; cases h
  | true =>
    rcases Nat.lt_or_ge 512 (cbB x).length with hl | hl
    · rw [(cbE_big hb hl).1] at h; cases h
    · exact ⟨rfl, hl, (cbE_ok hb (by omega)).2⟩
attribute [local irreducible] blkA rowA rdsA
set_option maxHeartbeats 4000000 in
set_option maxRecDepth 100000 in
theorem CommandWrites_calls {x : CmdV} (hx : x.Ok W) : Calls Try.prog 7 #[.agg x.cells.toArray] W fun e w' => e = .returned (.bool true) ∧ St W w' [] := by
  have hS := St.init W
  refine calls_of_wpE (args := [_]) Try.func7 rfl rfl rfl ?_
  refine c_seq ?_
  refine c_region ?_
  refine t_box (v := (.agg _)) rfl rfl hS (fun g1 w hS => ?_)
  replace hS := hS.recast (show _ = blkA g1 49 [.int .i64 x.kind, .int .u64 x.client, .int .u64 x.req, .int .i64 x.account, .int .u64 x.id, .int .i64 x.side, .int .i64 x.typ, .int .i64 x.asset, .int .i64 x.price, .int .i64 x.qty, .int .i64 x.version, .int .i64 x.replica, .int .u64 x.at_, .int .i64 x.rules.version, .slice x.rules.ticks.A x.rules.ticks.l.length x.rules.ticks.c, .int .i64 x.rules.lot, .int .i64 x.rules.band, .slice x.rules.fees.A x.rules.fees.l.length x.rules.fees.c, .int .i64 x.rules.round, .int .i64 x.rules.priority, .int .i64 x.rules.self, .int .i64 x.rules.layout] from rfl)
  refine t_q (q_assign) ?_
  refine t_nil ?_
  refine c_seq ?_
  refine c_seq ?_
  refine c_region ?_
  refine t_q (q_fieldAddr 13 Try.runUnderlying49 rfl Try.sizeOf47 (by decide) rfl rfl) ?_
  refine t_q (q_cast (v' := .agg x.rules.cells.toArray) (q_load_sub Try.isAgg47 Try.sizeOf47 rfl (hS.blk (by repeat first | exact .here _ _ | assumption | apply Pick.there)) (by show 0 + 13 + 9 ≤ 22; decide)) (by rfl)) ?_
  refine t_call Try.call41 (rlight_calls (x := x.rules)) rfl ?_
  rintro e w ⟨rfl, hT⟩
  refine ⟨_, rfl, ?_⟩
  replace hS := hS.after hT
  refine t_q (q_not rfl) ?_
  refine t_nil ?_
  refine c_cond rfl ?_ ?_
  · intro hc2
    refine c_seq ?_
    refine c_region ?_
    refine t_call Try.call42 (clives_calls) rfl ?_
    rintro e w ⟨rfl, hT⟩
    refine ⟨_, rfl, ?_⟩
    replace hS := hS.after hT
    refine t_q (q_as (.bool _) rfl) ?_
    refine t_nil ?_
    refine c_ret ?_
    refine r_one rfl rfl ?_
    exact ⟨rfl, hS.nil⟩
  · intro hc2
    have hgx : x.Gd W := light_cgd hx (bnf (by assumption : (!lightR x.rules) = false))
    refine c_skip ?_
    refine c_seq ?_
    refine c_region ?_
    refine t_q (q_cast (v' := .agg x.cells.toArray) (q_load_blk Try.isAgg49 Try.sizeOf49 rfl (hS.blk (by repeat first | exact .here _ _ | assumption | apply Pick.there)) rfl) (by rfl)) ?_
    refine t_call Try.call43 (cbytes_calls (x := x) (hgx.st hS)) rfl ?_
    rintro e w ⟨A15, c15, rfl, hT⟩
    refine ⟨_, rfl, ?_⟩
    have hS : St W w (_ :: _) := hS.lift hT
    refine t_q (q_mv (.tuple _) rfl) ?_
    refine t_q (q_extract rfl rfl) ?_
    refine t_q (q_extract rfl rfl) ?_
    refine t_q (q_as (.slice _ _ _) rfl) ?_
    refine t_q (q_as (.int _ _) rfl) ?_
    refine t_nil ?_
    refine c_seq ?_
    refine c_region ?_
    refine t_q (q_cast (v' := .agg x.cells.toArray) (q_load_blk Try.isAgg49 Try.sizeOf49 rfl (hS.blk (by repeat first | exact .here _ _ | assumption | apply Pick.there)) rfl) (by rfl)) ?_
    refine t_call Try.call44 (qcbytes_calls (x := x) (hgx.st hS)) rfl ?_
    rintro e w ⟨A21, c21, rfl, hT⟩
    refine ⟨_, rfl, ?_⟩
    have hS : St W w (_ :: _) := hS.lift hT
    refine t_q (q_mv (.tuple _) rfl) ?_
    refine t_q (q_extract rfl rfl) ?_
    refine t_q (q_extract rfl rfl) ?_
    refine t_q (q_as (.slice _ _ _) rfl) ?_
    refine t_q (q_as (.int _ _) rfl) ?_
    refine t_nil ?_
    refine c_seq ?_
    refine c_seq ?_
    refine c_region ?_
    refine t_q (q_mv (.slice _ _ _) rfl) ?_
    refine t_q (q_string Try.runUnderlying74 Try.runUnderlying5 Try.runUnderlying9 rfl rfl (hS.rowRd (A := A15) (c := c15) (bs := cbL x) (by repeat first | exact .here _ _ | assumption | apply Pick.there) rfl)) ?_
    refine t_q (q_mv (.slice _ _ _) rfl) ?_
    refine t_q (q_string Try.runUnderlying74 Try.runUnderlying5 Try.runUnderlying9 rfl rfl (hS.rowRd (A := A21) (c := c21) (bs := cbL x) (by repeat first | exact .here _ _ | assumption | apply Pick.there) rfl)) ?_
    refine t_q (q_cast (v' := .bool false) (q_neq_string rfl rfl) (by simp)) ?_
    refine t_q (q_mv (.bool _) rfl) ?_
    refine t_yes rfl rfl rfl ?_
    refine t_q (q_mv (.int _ _) rfl) ?_
    refine t_yes rfl rfl rfl ?_
    refine t_q (q_mv (.int _ _) rfl) ?_
    refine t_yes rfl rfl rfl ?_
    refine t_q (q_cast (v' := .bool false) (q_neq rfl rfl) (by simp)) ?_
    refine t_q (q_pick_f rfl rfl) ?_
    refine t_nil ?_
    refine c_cond_f rfl rfl ?_
    refine c_skip ?_
    refine c_seq ?_
    refine c_seq ?_
    refine c_region ?_
    refine t_q (q_mv (.int _ _) rfl) ?_
    refine t_q (q_neq rfl rfl) ?_
    refine t_nil ?_
    refine c_cond rfl ?_ ?_
    · intro hc13
      have hc13d := of_decide_eq_true hc13
      refine c_seq ?_
      refine c_region ?_
      refine t_call Try.call42 (clives_calls) rfl ?_
      rintro e w ⟨rfl, hT⟩
      refine ⟨_, rfl, ?_⟩
      replace hS := hS.after hT
      refine t_q (q_as (.bool _) rfl) ?_
      refine t_nil ?_
      refine c_ret ?_
      refine r_one rfl rfl ?_
      exact ⟨rfl, hS.nil⟩
    · intro hc13
      have hc13d := of_decide_eq_false hc13
      obtain ⟨hsy, hll, hLx⟩ := cbE_zero (x := x) (by omega)
      refine c_skip ?_
      refine c_seq ?_
      refine c_region ?_
      refine t_q (q_mv (.slice _ _ _) rfl) ?_
      refine t_call Try.call45 (cread_calls (hS.rowRd (A := A15) (c := c15) (bs := cbL x) (by repeat first | exact .here _ _ | assumption | apply Pick.there) rfl) ⟨hS.row_le (t := 5) (size := 1) (A := A15) (c := c15) (by repeat first | exact .here _ _ | assumption | apply Pick.there), by rw [hLx]; omega⟩) rfl ?_
      rintro e w ⟨y, er, rfl, hby, hout, hT⟩
      refine ⟨_, rfl, ?_⟩
      have hS : St W w (_ :: _) := hS.lift hT
      rw [hLx] at hout
      obtain ⟨he, hv⟩ := outC_back (x := x) (w := w) (hgx.st hS) hsy hll hout
      subst he
      refine t_q (q_mv (.tuple _) rfl) ?_
      refine t_q (q_extract rfl rfl) ?_
      refine t_q (q_extract rfl rfl) ?_
      refine t_alloc Try.zeroValue49 rfl hS (fun g7 w hS => ?_)
      refine t_store (v := (.agg _)) Try.sizeOf49 hS (by repeat first | exact .here _ _ | assumption | apply Pick.there) rfl rfl rfl rfl rfl rfl (fun w hS => ?_)
      replace hS := hS.recast (congrArg (blkA g7 49) (setN_full (vs := y.cells) (cmd_len y).symm))
      replace hS := hS.recast (show _ = blkA g7 49 [.int .i64 y.kind, .int .u64 y.client, .int .u64 y.req, .int .i64 y.account, .int .u64 y.id, .int .i64 y.side, .int .i64 y.typ, .int .i64 y.asset, .int .i64 y.price, .int .i64 y.qty, .int .i64 y.version, .int .i64 y.replica, .int .u64 y.at_, .int .i64 y.rules.version, .slice y.rules.ticks.A y.rules.ticks.l.length y.rules.ticks.c, .int .i64 y.rules.lot, .int .i64 y.rules.band, .slice y.rules.fees.A y.rules.fees.l.length y.rules.fees.c, .int .i64 y.rules.round, .int .i64 y.rules.priority, .int .i64 y.rules.self, .int .i64 y.rules.layout] from rfl)
      refine t_q (q_as (.int _ _) rfl) ?_
      refine t_nil ?_
      refine c_seq ?_
      refine c_region ?_
      refine t_q (q_mv (.int _ _) rfl) ?_
      refine t_q (q_cast (v' := .bool true) (q_eql rfl rfl) (by rfl)) ?_
      refine t_q (q_mv (.bool _) rfl) ?_
      refine t_yes rfl rfl rfl ?_
      refine t_q (q_cast (v' := .agg x.cells.toArray) (q_load_blk Try.isAgg49 Try.sizeOf49 rfl (hS.blk (by repeat first | exact .here _ _ | assumption | apply Pick.there)) rfl) (by rfl)) ?_
      refine t_yes rfl rfl rfl ?_
      refine t_q (q_cast (v' := .agg y.cells.toArray) (q_load_blk Try.isAgg49 Try.sizeOf49 rfl (hS.blk (by repeat first | exact .here _ _ | assumption | apply Pick.there)) rfl) (by rfl)) ?_
      refine t_yes rfl rfl rfl ?_
      refine t_call Try.call46 (qcsame_calls (x := x) (y := y) (hgx.st hS) (hby hS (by repeat first | exact .here _ _ | assumption | apply Pick.there))) rfl ?_
      rintro e w ⟨rfl, hT⟩
      refine ⟨_, rfl, ?_⟩
      replace hS := hS.after hT
      rw [show decide (x.vw = y.vw) = true from decide_eq_true hv.symm]
      refine t_q (q_pick_t rfl rfl) ?_
      refine t_q (q_mv (.bool _) rfl) ?_
      refine t_yes rfl rfl rfl ?_
      refine t_call Try.call42 (clives_calls) rfl ?_
      rintro e w ⟨rfl, hT⟩
      refine ⟨_, rfl, ?_⟩
      replace hS := hS.after hT
      refine t_q (q_pick_t rfl rfl) ?_
      refine t_q (q_as (.bool _) rfl) ?_
      refine t_nil ?_
      refine c_ret ?_
      refine r_one rfl rfl ?_
      exact ⟨rfl, hS.nil⟩
end Go.Proofs.Ytmgobaojioaioaa
