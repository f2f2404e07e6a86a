/- Any bytes are read as the document's command; what is read, written again, is those bytes: the walk. -/
import Derived.Test.YtmgobaojioaioaaVl
import Derived.Test.YtmgobaojioaioaaVj
import Derived.Test.YtmgobaojioaioaaVe
import Derived.Test.YtmgobaojioaioaaVf
namespace Go.Proofs.Ytmgobaojioaioaa
open Go Go.RowKit Go.Lib
variable {W : World}
attribute [local irreducible] blkA rowA rdsA
set_option maxHeartbeats 4000000 in
set_option maxRecDepth 100000 in
theorem CommandReads_calls {A : Option Addr} {c : Nat} {bs : List UInt8} (hR : RdB W A bs) (hc : bs.length ≤ c ∧ bs.length ≤ 9223372036854775807) : Calls Try.prog 8 #[.slice A bs.length c] W fun e w' => e = .returned (.bool true) ∧ St W w' [] := by
  have hS := St.init W
  refine calls_of_wpE (args := [_]) Try.func8 rfl rfl rfl ?_
  refine c_seq ?_
  refine c_region ?_
  refine t_q (q_assign) ?_
  refine t_nil ?_
  refine c_seq ?_
  refine c_seq ?_
  refine c_region ?_
  refine t_q (q_mv (.slice _ _ _) rfl) ?_
  refine t_q (q_len_slice Try.runUnderlying74 rfl) ?_
  refine t_q (q_gtr rfl rfl) ?_
  refine t_nil ?_
  refine c_cond rfl ?_ ?_
  · intro hc2
    have hc2d := of_decide_eq_true hc2
    refine c_seq ?_
    refine c_region ?_
    refine t_call Try.call42 (clives_calls) rfl ?_
    rintro e w ⟨rfl, hT⟩
    refine ⟨_, rfl, ?_⟩
    replace hS := hS.after hT
    refine t_q (q_as (.bool _) rfl) ?_
    refine t_nil ?_
    refine c_ret ?_
    refine r_one rfl rfl ?_
    exact ⟨rfl, hS.nil⟩
  · intro hc2
    have hc2d := of_decide_eq_false hc2
    refine c_skip ?_
    refine c_seq ?_
    refine c_region ?_
    refine t_q (q_mv (.slice _ _ _) rfl) ?_
    refine t_call Try.call45 (cread_calls (hR.st hS) hc) rfl ?_
    rintro e w ⟨y, er, rfl, hby, hout, hT⟩
    refine ⟨_, rfl, ?_⟩
    have hS : St W w (_ :: _) := hS.lift hT
    refine t_q (q_mv (.tuple _) rfl) ?_
    refine t_q (q_extract rfl rfl) ?_
    refine t_q (q_extract rfl rfl) ?_
    refine t_alloc Try.zeroValue49 rfl hS (fun g3 w hS => ?_)
    refine t_store (v := (.agg _)) Try.sizeOf49 hS (by repeat first | exact .here _ _ | assumption | apply Pick.there) rfl rfl rfl rfl rfl rfl (fun w hS => ?_)
    replace hS := hS.recast (congrArg (blkA g3 49) (setN_full (vs := y.cells) (cmd_len y).symm))
    replace hS := hS.recast (show _ = blkA g3 49 [.int .i64 y.kind, .int .u64 y.client, .int .u64 y.req, .int .i64 y.account, .int .u64 y.id, .int .i64 y.side, .int .i64 y.typ, .int .i64 y.asset, .int .i64 y.price, .int .i64 y.qty, .int .i64 y.version, .int .i64 y.replica, .int .u64 y.at_, .int .i64 y.rules.version, .slice y.rules.ticks.A y.rules.ticks.l.length y.rules.ticks.c, .int .i64 y.rules.lot, .int .i64 y.rules.band, .slice y.rules.fees.A y.rules.fees.l.length y.rules.fees.c, .int .i64 y.rules.round, .int .i64 y.rules.priority, .int .i64 y.rules.self, .int .i64 y.rules.layout] from rfl)
    refine t_q (q_as (.int _ _) rfl) ?_
    refine t_nil ?_
    refine c_seq ?_
    refine c_region ?_
    refine t_q (q_mv (.slice _ _ _) rfl) ?_
    refine t_call Try.call47 (qcread_calls (hR.st hS) hc) rfl ?_
    rintro e w ⟨z, er2, rfl, hbz, hout2, hT⟩
    refine ⟨_, rfl, ?_⟩
    have hS : St W w (_ :: _) := hS.lift hT
    obtain ⟨he, hv⟩ := outsC_eq hout hout2
    subst he
    refine t_q (q_mv (.tuple _) rfl) ?_
    refine t_q (q_extract rfl rfl) ?_
    refine t_q (q_extract rfl rfl) ?_
    refine t_alloc Try.zeroValue49 rfl hS (fun g5 w hS => ?_)
    refine t_store (v := (.agg _)) Try.sizeOf49 hS (by repeat first | exact .here _ _ | assumption | apply Pick.there) rfl rfl rfl rfl rfl rfl (fun w hS => ?_)
    replace hS := hS.recast (congrArg (blkA g5 49) (setN_full (vs := z.cells) (cmd_len z).symm))
    replace hS := hS.recast (show _ = blkA g5 49 [.int .i64 z.kind, .int .u64 z.client, .int .u64 z.req, .int .i64 z.account, .int .u64 z.id, .int .i64 z.side, .int .i64 z.typ, .int .i64 z.asset, .int .i64 z.price, .int .i64 z.qty, .int .i64 z.version, .int .i64 z.replica, .int .u64 z.at_, .int .i64 z.rules.version, .slice z.rules.ticks.A z.rules.ticks.l.length z.rules.ticks.c, .int .i64 z.rules.lot, .int .i64 z.rules.band, .slice z.rules.fees.A z.rules.fees.l.length z.rules.fees.c, .int .i64 z.rules.round, .int .i64 z.rules.priority, .int .i64 z.rules.self, .int .i64 z.rules.layout] from rfl)
    refine t_q (q_as (.int _ _) rfl) ?_
    refine t_nil ?_
    refine c_seq ?_
    refine c_seq ?_
    refine c_region ?_
    refine t_q (q_mv (.int _ _) rfl) ?_
    refine t_q (q_mv (.int _ _) rfl) ?_
    refine t_q (q_cast (v' := .bool false) (q_neq rfl rfl) (by simp)) ?_
    refine t_q (q_mv (.bool _) rfl) ?_
    refine t_yes rfl rfl rfl ?_
    refine t_q (q_cast (v' := .agg y.cells.toArray) (q_load_blk Try.isAgg49 Try.sizeOf49 rfl (hS.blk (by repeat first | exact .here _ _ | assumption | apply Pick.there)) rfl) (by rfl)) ?_
    refine t_yes rfl rfl rfl ?_
    refine t_q (q_cast (v' := .agg z.cells.toArray) (q_load_blk Try.isAgg49 Try.sizeOf49 rfl (hS.blk (by repeat first | exact .here _ _ | assumption | apply Pick.there)) rfl) (by rfl)) ?_
    refine t_yes rfl rfl rfl ?_
    refine t_call Try.call46 (qcsame_calls (x := y) (y := z) (hby hS (by repeat first | exact .here _ _ | assumption | apply Pick.there)) (hbz hS (by repeat first | exact .here _ _ | assumption | apply Pick.there))) rfl ?_
    rintro e w ⟨rfl, hT⟩
    refine ⟨_, rfl, ?_⟩
    replace hS := hS.after hT
    rw [show decide (y.vw = z.vw) = true from decide_eq_true hv]
    refine t_yes rfl rfl rfl ?_
    refine t_q (q_not rfl) ?_
    refine t_q (q_pick_f rfl rfl) ?_
    refine t_nil ?_
    refine c_cond_f rfl rfl ?_
    refine c_skip ?_
    refine c_seq ?_
    refine c_seq ?_
    refine c_region ?_
    refine t_q (q_mv (.int _ _) rfl) ?_
    refine t_q (q_neq rfl rfl) ?_
    refine t_nil ?_
    refine c_cond rfl ?_ ?_
    · intro hc13
      have hc13d := of_decide_eq_true hc13
      refine c_seq ?_
      refine c_region ?_
      refine t_call Try.call42 (clives_calls) rfl ?_
      rintro e w ⟨rfl, hT⟩
      refine ⟨_, rfl, ?_⟩
      replace hS := hS.after hT
      refine t_q (q_as (.bool _) rfl) ?_
      refine t_nil ?_
      refine c_ret ?_
      refine r_one rfl rfl ?_
      exact ⟨rfl, hS.nil⟩
    · intro hc13
      have hc13d := of_decide_eq_false hc13
      have he0 : er = 0 := by omega
      subst he0
      refine c_skip ?_
      refine c_seq ?_
      refine c_region ?_
      refine t_q (q_cast (v' := .agg y.cells.toArray) (q_load_blk Try.isAgg49 Try.sizeOf49 rfl (hS.blk (by repeat first | exact .here _ _ | assumption | apply Pick.there)) rfl) (by rfl)) ?_
      refine t_call Try.call43 (cbytes_calls (x := y) (hby hS (by repeat first | exact .here _ _ | assumption | apply Pick.there))) rfl ?_
      rintro e w ⟨A38, c38, rfl, hT⟩
      refine ⟨_, rfl, ?_⟩
      have hS : St W w (_ :: _) := hS.lift hT
      obtain ⟨h0, hL⟩ := outC_again hout
      rw [h0]
      rw [hL] at hS ⊢
      refine t_q (q_mv (.tuple _) rfl) ?_
      refine t_q (q_extract rfl rfl) ?_
      refine t_q (q_extract rfl rfl) ?_
      refine t_q (q_as (.slice _ _ _) rfl) ?_
      refine t_q (q_as (.int _ _) rfl) ?_
      refine t_nil ?_
      refine c_seq ?_
      refine c_region ?_
      refine t_q (q_mv (.int _ _) rfl) ?_
      refine t_q (q_cast (v' := .bool true) (q_eql rfl rfl) (by rfl)) ?_
      refine t_q (q_mv (.bool _) rfl) ?_
      refine t_yes rfl rfl rfl ?_
      refine t_q (q_mv (.slice _ _ _) rfl) ?_
      refine t_yes rfl rfl rfl ?_
      refine t_q (q_string Try.runUnderlying74 Try.runUnderlying5 Try.runUnderlying9 rfl rfl (hS.rowRd (A := A38) (c := c38) (bs := bs) (by repeat first | exact .here _ _ | assumption | apply Pick.there) rfl)) ?_
      refine t_yes rfl rfl rfl ?_
      refine t_q (q_mv (.slice _ _ _) rfl) ?_
      refine t_yes rfl rfl rfl ?_
      refine t_q (q_string Try.runUnderlying74 Try.runUnderlying5 Try.runUnderlying9 rfl rfl (hR.st hS)) ?_
      refine t_yes rfl rfl rfl ?_
      refine t_q (q_cast (v' := .bool true) (q_eql_string rfl rfl) (by simp)) ?_
      refine t_q (q_pick_t rfl rfl) ?_
      refine t_q (q_mv (.bool _) rfl) ?_
      refine t_yes rfl rfl rfl ?_
      refine t_call Try.call42 (clives_calls) rfl ?_
      rintro e w ⟨rfl, hT⟩
      refine ⟨_, rfl, ?_⟩
      replace hS := hS.after hT
      refine t_q (q_pick_t rfl rfl) ?_
      refine t_q (q_as (.bool _) rfl) ?_
      refine t_nil ?_
      refine c_ret ?_
      refine r_one rfl rfl ?_
      exact ⟨rfl, hS.nil⟩
end Go.Proofs.Ytmgobaojioaioaa
