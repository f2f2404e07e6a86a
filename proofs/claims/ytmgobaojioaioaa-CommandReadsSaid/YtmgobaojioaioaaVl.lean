/- The chapter's example. -/
import Derived.Test.YtmgobaojioaioaaUa
import Derived.Test.YtmgobaojioaioaaVh
namespace Go.Proofs.Ytmgobaojioaioaa
open Go Go.RowKit Go.Lib
variable {W : World}
def tN : CmdV := { zC with kind := 15, client := 1, req := 2 }
theorem tN_gd {w : World} : tN.Gd w := ⟨by decide, by decide, by decide, by decide, by decide, by decide, by decide, by decide, by decide, by decide, by decide, by decide, by decide, ruZ_gd⟩
theorem tN_snd : sndC tN = true := by
  have h9 : decide (tN.kind = 9) = false := by decide
  unfold sndC
  rw [h9]
  decide
theorem enc_one {n : Nat} (h : n < 128) : enc n = [UInt8.ofNat n] := by rw [enc]; simp [h]
theorem tN_cb : cbB tN = [15, 1, 2] := by
  rw [cbB_flat, show cfl tN.kind = 0 from by decide]
  unfold oI oU oR
  rw [show hasC 0 1 = false from by decide, show hasC 0 16 = false from by decide, show hasC 0 2 = false from by decide, show hasC 0 4 = false from by decide, show hasC 0 8 = false from by decide, show hasC 0 32 = false from by decide, show hasC 0 64 = false from by decide, show hasC 0 128 = false from by decide, show hasC 0 256 = false from by decide, show hasC 0 512 = false from by decide, show hasC 0 1024 = false from by decide]
  rw [show tN.kind.toNat = 15 from rfl, show tN.client.toNat = 1 from rfl, show tN.req.toNat = 2 from rfl, enc_one (by decide), enc_one (by decide), enc_one (by decide)]
  rfl
theorem tN_bytes : cbE tN = 0 ∧ cbL tN = [15, 1, 2] := by
  obtain ⟨h1, h2⟩ := cbE_ok tN_snd (by rw [tN_cb]; decide)
  exact ⟨h1, h2.trans tN_cb⟩
attribute [local irreducible] blkA rowA rdsA
set_option maxHeartbeats 1000000 in
set_option maxRecDepth 100000 in
theorem clives_calls : Calls Try.prog 42 #[] W fun e w' => e = .returned (.bool true) ∧ St W w' [] := by
  have hS := St.init W
  refine calls_of_wpE (args := []) Try.func42 rfl rfl rfl ?_
  refine c_seq ?_
  refine c_region ?_
  refine t_q (q_assign) ?_
  refine t_nil ?_
  refine c_seq ?_
  refine c_region ?_
  refine t_q (q_cast (v' := .agg tN.cells.toArray) (q_build (qs := [(0, 1), (1, 1), (2, 1), (3, 1), (4, 1), (5, 1), (6, 1), (7, 1), (8, 1), (9, 1), (10, 1), (11, 1), (12, 1), (13, 9)]) [(.int _ _), (.int _ _), (.int _ _), (.int _ _), (.int _ _), (.int _ _), (.int _ _), (.int _ _), (.int _ _), (.int _ _), (.int _ _), (.int _ _), (.int _ _), (.int _ _), (.slice _ _ _), (.int _ _), (.int _ _), (.slice _ _ _), (.int _ _), (.int _ _), (.int _ _), (.int _ _)] Try.zeroValue49 Try.runUnderlying49 ⟨rfl, Try.sizeOf3, rfl, Try.sizeOf26, rfl, Try.sizeOf26, rfl, Try.sizeOf3, rfl, Try.sizeOf26, rfl, Try.sizeOf3, rfl, Try.sizeOf3, rfl, Try.sizeOf3, rfl, Try.sizeOf2, rfl, Try.sizeOf2, rfl, Try.sizeOf3, rfl, Try.sizeOf3, rfl, Try.sizeOf26, rfl, Try.sizeOf47, trivial⟩ rfl rfl) (by rfl)) ?_
  refine t_call Try.call43 (cbytes_calls (x := tN) tN_gd) rfl ?_
  rintro e w ⟨A7, c7, rfl, hT⟩
  refine ⟨_, rfl, ?_⟩
  have hS : St W w (_ :: _) := hS.lift hT
  rw [tN_bytes.1]
  rw [tN_bytes.2] at hS ⊢
  refine t_q (q_mv (.tuple _) rfl) ?_
  refine t_q (q_extract rfl rfl) ?_
  refine t_q (q_extract rfl rfl) ?_
  refine t_q (q_as (.slice _ _ _) rfl) ?_
  refine t_q (q_as (.int _ _) rfl) ?_
  refine t_nil ?_
  refine c_seq ?_
  refine c_region ?_
  refine t_q (q_mv (.slice _ _ _) rfl) ?_
  refine t_call Try.call45 (cread_calls (bs := [15, 1, 2]) (hS.rowRd (A := A7) (c := c7) (bs := [15, 1, 2]) (by repeat first | exact .here _ _ | assumption | apply Pick.there) rfl) ⟨hS.row_le (t := 5) (size := 1) (A := A7) (c := c7) (by repeat first | exact .here _ _ | assumption | apply Pick.there), by decide⟩) rfl ?_
  rintro e w ⟨y, er, rfl, hby, hout, hT⟩
  refine ⟨_, rfl, ?_⟩
  have hS : St W w (_ :: _) := hS.lift hT
  obtain ⟨he, hv⟩ := outC_back (x := tN) (w := w) tN_gd tN_snd (by rw [tN_cb]; decide) (by rw [tN_cb]; exact hout)
  have hyk : y.kind = 15 := congrArg Cm.kind hv
  have hyc : y.client = 1 := congrArg Cm.client hv
  have hyr : y.req = 2 := congrArg Cm.req hv
  subst he
  refine t_q (q_mv (.tuple _) rfl) ?_
  refine t_q (q_extract rfl rfl) ?_
  refine t_q (q_extract rfl rfl) ?_
  refine t_alloc Try.zeroValue49 rfl hS (fun g3 w hS => ?_)
  refine t_store (v := (.agg _)) Try.sizeOf49 hS (by repeat first | exact .here _ _ | assumption | apply Pick.there) rfl rfl rfl rfl rfl rfl (fun w hS => ?_)
  replace hS := hS.recast (congrArg (blkA g3 49) (setN_full (vs := y.cells) (cmd_len y).symm))
  replace hS := hS.recast (show _ = blkA g3 49 [.int .i64 y.kind, .int .u64 y.client, .int .u64 y.req, .int .i64 y.account, .int .u64 y.id, .int .i64 y.side, .int .i64 y.typ, .int .i64 y.asset, .int .i64 y.price, .int .i64 y.qty, .int .i64 y.version, .int .i64 y.replica, .int .u64 y.at_, .int .i64 y.rules.version, .slice y.rules.ticks.A y.rules.ticks.l.length y.rules.ticks.c, .int .i64 y.rules.lot, .int .i64 y.rules.band, .slice y.rules.fees.A y.rules.fees.l.length y.rules.fees.c, .int .i64 y.rules.round, .int .i64 y.rules.priority, .int .i64 y.rules.self, .int .i64 y.rules.layout] from rfl)
  refine t_q (q_as (.int _ _) rfl) ?_
  refine t_nil ?_
  refine c_seq ?_
  refine c_region ?_
  refine t_q (q_mv (.int _ _) rfl) ?_
  refine t_q (q_cast (v' := .bool true) (q_eql rfl rfl) (by rfl)) ?_
  refine t_q (q_mv (.bool _) rfl) ?_
  refine t_yes rfl rfl rfl ?_
  refine t_q (q_mv (.slice _ _ _) rfl) ?_
  refine t_yes rfl rfl rfl ?_
  refine t_q (q_string Try.runUnderlying74 Try.runUnderlying5 Try.runUnderlying9 rfl rfl (hS.rowRd (A := A7) (c := c7) (bs := [15, 1, 2]) (by repeat first | exact .here _ _ | assumption | apply Pick.there) rfl)) ?_
  refine t_yes rfl rfl rfl ?_
  refine t_q (q_cast (v' := .bool true) (q_eql_string rfl rfl) (by rfl)) ?_
  refine t_q (q_pick_t rfl rfl) ?_
  refine t_q (q_mv (.bool _) rfl) ?_
  refine t_yes rfl rfl rfl ?_
  refine t_q (q_mv (.int _ _) rfl) ?_
  refine t_yes rfl rfl rfl ?_
  refine t_q (q_cast (v' := .bool true) (q_eql rfl rfl) (by rfl)) ?_
  refine t_q (q_pick_t rfl rfl) ?_
  refine t_q (q_mv (.bool _) rfl) ?_
  refine t_yes rfl rfl rfl ?_
  refine t_q (q_fieldAddr 0 Try.runUnderlying49 rfl Try.sizeOf3 (by decide) rfl rfl) ?_
  refine t_yes rfl rfl rfl ?_
  refine t_q (q_load1 Try.isAgg3 rfl (hS.cell (by repeat first | exact .here _ _ | assumption | apply Pick.there) rfl)) ?_
  refine t_yes rfl rfl rfl ?_
  refine t_q (q_cast (v' := .bool true) (q_eql rfl rfl) (congrArg Value.bool (decide_eq_true hyk))) ?_
  refine t_q (q_pick_t rfl rfl) ?_
  refine t_q (q_mv (.bool _) rfl) ?_
  refine t_yes rfl rfl rfl ?_
  refine t_q (q_fieldAddr 1 Try.runUnderlying49 rfl Try.sizeOf26 (by decide) rfl rfl) ?_
  refine t_yes rfl rfl rfl ?_
  refine t_q (q_load1 Try.isAgg26 rfl (hS.cell (by repeat first | exact .here _ _ | assumption | apply Pick.there) rfl)) ?_
  refine t_yes rfl rfl rfl ?_
  refine t_q (q_cast (v' := .bool true) (q_eql rfl rfl) (congrArg Value.bool (decide_eq_true hyc))) ?_
  refine t_q (q_pick_t rfl rfl) ?_
  refine t_q (q_mv (.bool _) rfl) ?_
  refine t_yes rfl rfl rfl ?_
  refine t_q (q_fieldAddr 2 Try.runUnderlying49 rfl Try.sizeOf26 (by decide) rfl rfl) ?_
  refine t_yes rfl rfl rfl ?_
  refine t_q (q_load1 Try.isAgg26 rfl (hS.cell (by repeat first | exact .here _ _ | assumption | apply Pick.there) rfl)) ?_
  refine t_yes rfl rfl rfl ?_
  refine t_q (q_cast (v' := .bool true) (q_eql rfl rfl) (congrArg Value.bool (decide_eq_true hyr))) ?_
  refine t_q (q_pick_t rfl rfl) ?_
  refine t_q (q_as (.bool _) rfl) ?_
  refine t_nil ?_
  refine c_ret ?_
  refine r_one rfl rfl ?_
  exact ⟨rfl, hS.nil⟩
end Go.Proofs.Ytmgobaojioaioaa
