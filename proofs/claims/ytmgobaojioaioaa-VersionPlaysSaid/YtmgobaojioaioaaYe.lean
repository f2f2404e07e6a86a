/- A command done, or refused. -/
import Derived.Test.YtmgobaojioaioaaYd
namespace Go.Proofs.Ytmgobaojioaioaa
open Go Go.RowKit Go.Lib
variable {W : World}
theorem d_keep4 {P : Program} {ops : Array Oper} {N : Env → World → Prop} {ρ : Env} {w : World} {W : World} {L : List Asn} (K0 K1 K2 K3 : Asn) (n : Nat) (ordT ordG : List Nat) (hS : St W w L) (hn : ops.size = n) (hT : (topoB .text ops ordT [] && coverB ops.size ordT) = true) (hG : (topoB .gc ops ordG [] && coverB ops.size ordG) = true)
    (hap : apartB ops = true) (hsel : noSelect ops = true) (h : apartB ops = true → noSelect ops = true → ∀ w', St W w' L → anyC P ops (fun w' => ∃ L', St W w' (K0 :: K1 :: K2 :: K3 :: L')) n [] ρ w' N) : drawE P ops ρ w N :=
  d_start _ n ordT ordG hn hT hG hap hsel fun a b => h a b _ hS.draw
attribute [local irreducible] blkA rowA rdsA mapA regA
set_option maxHeartbeats 1000000 in
set_option maxRecDepth 100000 in
theorem apply_calls {w : World} {R : List Asn} {g : Nat} {M : List RuV} {ps : List RdP} {s : StV} {n : Int} {a : Nat → Int} {c : CmdV} {i : Int} (hS : St W w (regA W g M ps :: rdsA ps :: R)) (hn : 0 ≤ n ∧ n ≤ 7) (hs : Sb a) (hb : RuBy W ps c.rules) (hat : 0 ≤ c.at_ ∧ c.at_ < 18446744073709551616) (hi : 0 ≤ i ∧ i < 18446744073709551616) : Calls Try.prog 20 #[.agg (bdc s (some ⟨g, 0, none⟩) n a).toArray, .agg c.cells.toArray, .int .u64 i] w fun e w' => ∃ ps', e = .returned (.tuple #[.agg (bdc (apS s M n a c i) (some ⟨g, 0, none⟩) n (apA s M n a c i)).toArray, .agg (apE s M n a c i).cells.toArray, .int .i64 (apV s M n a c i).e]) ∧ (∀ p ∈ ps, p ∈ ps') ∧ St W w' (regA W g (apV s M n a c i).M ps' :: rdsA ps' :: R) := by
  refine calls_of_wpE (args := [_, _, _]) Try.func20 rfl rfl rfl ?_
  refine c_seq ?_
  refine c_region ?_
  refine t_box (v := (.agg _)) rfl rfl hS (fun g3 w hS => ?_)
  replace hS := hS.recast (show _ = blkA g3 34 [.int .i64 s.active, .int .i64 s.previous, .int .i64 s.pending, .int .u64 s.at_, .int .i64 s.shadow, .pointer (some ⟨g, 0, none⟩), .int .i64 n, .int .u64 (a 0), .int .u64 (a 1), .int .u64 (a 2), .int .u64 (a 3), .int .u64 (a 4), .int .u64 (a 5), .int .u64 (a 6)] from rfl)
  refine t_box (v := (.agg _)) rfl rfl hS (fun g4 w hS => ?_)
  replace hS := hS.recast (show _ = blkA g4 49 [.int .i64 c.kind, .int .u64 c.client, .int .u64 c.req, .int .i64 c.account, .int .u64 c.id, .int .i64 c.side, .int .i64 c.typ, .int .i64 c.asset, .int .i64 c.price, .int .i64 c.qty, .int .i64 c.version, .int .i64 c.replica, .int .u64 c.at_, .int .i64 c.rules.version, .slice c.rules.ticks.A c.rules.ticks.l.length c.rules.ticks.c, .int .i64 c.rules.lot, .int .i64 c.rules.band, .slice c.rules.fees.A c.rules.fees.l.length c.rules.fees.c, .int .i64 c.rules.round, .int .i64 c.rules.priority, .int .i64 c.rules.self, .int .i64 c.rules.layout] from rfl)
  refine t_alloc Try.zeroValue34 rfl hS (fun g6 w hS => ?_)
  refine t_alloc Try.zeroValue55 rfl hS (fun g7 w hS => ?_)
  refine t_q (q_assign) ?_
  refine t_nil ?_
  refine c_seq ?_
  refine c_seq ?_
  refine c_region ?_
  refine t_q (q_fieldAddr 5 Try.runUnderlying34 rfl Try.sizeOf29 (by decide) rfl rfl) ?_
  refine t_q (q_load1 Try.isAgg29 rfl (hS.cell (by repeat first | exact .here _ _ | assumption | apply Pick.there) rfl)) ?_
  refine t_q (q_eql_ptr_nil Try.runUnderlying29 rfl rfl) ?_
  refine t_nil ?_
  refine c_cond_f rfl rfl ?_
  refine c_skip ?_
  refine c_seq ?_
  refine c_region ?_
  refine t_q (q_cast (v' := .agg (bdc s (some ⟨g, 0, none⟩) n a).toArray) (q_load_blk Try.isAgg34 Try.sizeOf34 rfl (hS.blk (by repeat first | exact .here _ _ | assumption | apply Pick.there)) rfl) (by rfl)) ?_
  refine t_q (q_cast (v' := .agg c.cells.toArray) (q_load_blk Try.isAgg49 Try.sizeOf49 rfl (hS.blk (by repeat first | exact .here _ _ | assumption | apply Pick.there)) rfl) (by rfl)) ?_
  refine t_q (q_mv (.int _ _) rfl) ?_
  refine t_call Try.call72 (apply1_calls (c := c) (i := i) ((hS.pick (A := rdsA ps) (by repeat first | exact .here _ _ | assumption | apply Pick.there)).pick (A := regA W g M ps) (by repeat first | exact .here _ _ | assumption | apply Pick.there)) hn hs hb hat hi) rfl ?_
  rintro e w ⟨ps', rfl, hsub, hS⟩
  refine ⟨_, rfl, ?_⟩
  obtain ⟨r, hr⟩ : ∃ r, r = apV s M n a c i := ⟨_, rfl⟩
  rw [← hr] at hS ⊢
  refine t_q (q_mv (.tuple _) rfl) ?_
  refine t_q (q_extract rfl rfl) ?_
  refine t_q (q_extract rfl rfl) ?_
  refine t_q (q_extract rfl rfl) ?_
  refine t_alloc Try.zeroValue34 rfl hS (fun g9 w hS => ?_)
  refine t_alloc Try.zeroValue55 rfl hS (fun g10 w hS => ?_)
  refine t_store (v := (.agg _)) Try.sizeOf34 hS (by repeat first | exact .here _ _ | assumption | apply Pick.there) rfl rfl rfl rfl rfl rfl (fun w hS => ?_)
  replace hS := hS.recast (congrArg (blkA g9 34) (rset_full (vs := bdc r.s (some ⟨g, 0, none⟩) n r.a) rfl))
  replace hS := hS.recast (show _ = blkA g9 34 [.int .i64 r.s.active, .int .i64 r.s.previous, .int .i64 r.s.pending, .int .u64 r.s.at_, .int .i64 r.s.shadow, .pointer (some ⟨g, 0, none⟩), .int .i64 n, .int .u64 (r.a 0), .int .u64 (r.a 1), .int .u64 (r.a 2), .int .u64 (r.a 3), .int .u64 (r.a 4), .int .u64 (r.a 5), .int .u64 (r.a 6)] from rfl)
  refine t_store (v := (.agg _)) Try.sizeOf55 hS (by repeat first | exact .here _ _ | assumption | apply Pick.there) rfl rfl rfl rfl rfl rfl (fun w hS => ?_)
  replace hS := hS.recast (congrArg (blkA g10 55) (rset_full (vs := r.ev.cells) rfl))
  replace hS := hS.recast (show _ = blkA g10 55 [.int .i64 r.ev.kind, .int .i64 r.ev.account, .int .u64 r.ev.id, .int .u64 r.ev.other, .int .i64 r.ev.side, .int .i64 r.ev.price, .int .i64 r.ev.qty, .int .i64 r.ev.fee, .int .i64 r.ev.fee2, .int .i64 r.ev.code, .int .i64 r.ev.version, .int .u64 r.ev.index] from rfl)
  refine t_q (q_as (.int _ _) rfl) ?_
  refine t_nil ?_
  refine c_seq ?_
  refine c_seq ?_
  refine c_region ?_
  refine t_q (q_mv (.int _ _) rfl) ?_
  refine t_q (q_neq rfl rfl) ?_
  refine t_nil ?_
  refine c_cond rfl ?_ ?_
  · intro hc6
    have hc6d := of_decide_eq_true hc6
    have h0 : ¬ r.e = 0 := hc6d
    have e1 : apS s M n a c i = s := by unfold apS; rw [← hr, if_neg h0]
    have e2 : apA s M n a c i = a := by unfold apA; rw [← hr, if_neg h0]
    have e3 : apE s M n a c i = evZ := by unfold apE; rw [← hr, if_neg h0]
    refine c_seq ?_
    refine c_region ?_
    refine t_q (q_cast (v' := .agg (bdc s (some ⟨g, 0, none⟩) n a).toArray) (q_load_blk Try.isAgg34 Try.sizeOf34 rfl (hS.blk (by repeat first | exact .here _ _ | assumption | apply Pick.there)) rfl) (by rfl)) ?_
    refine t_q (q_build (qs := [(0, 1), (1, 1), (2, 1), (3, 1), (4, 1), (5, 1), (6, 1), (7, 1), (8, 1), (9, 1), (10, 1), (11, 1)]) [(.int _ _), (.int _ _), (.int _ _), (.int _ _), (.int _ _), (.int _ _), (.int _ _), (.int _ _), (.int _ _), (.int _ _), (.int _ _), (.int _ _)] Try.zeroValue55 Try.runUnderlying55 ⟨rfl, Try.sizeOf3, rfl, Try.sizeOf3, rfl, Try.sizeOf26, rfl, Try.sizeOf26, rfl, Try.sizeOf3, rfl, Try.sizeOf2, rfl, Try.sizeOf2, rfl, Try.sizeOf2, rfl, Try.sizeOf2, rfl, Try.sizeOf53, rfl, Try.sizeOf3, rfl, Try.sizeOf26, trivial⟩ rfl rfl) ?_
    refine t_q (q_mv (.int _ _) rfl) ?_
    refine t_store (v := (.agg _)) Try.sizeOf34 hS (by repeat first | exact .here _ _ | assumption | apply Pick.there) rfl rfl rfl rfl rfl rfl (fun w hS => ?_)
    replace hS := hS.recast (congrArg (blkA g6 34) (rset_full (vs := bdc s (some ⟨g, 0, none⟩) n a) rfl))
    refine t_store (v := (.agg _)) Try.sizeOf55 hS (by repeat first | exact .here _ _ | assumption | apply Pick.there) rfl rfl rfl rfl rfl rfl (fun w hS => ?_)
    replace hS := hS.recast (congrArg (blkA g7 55) (rset_full (vs := evZ.cells) rfl))
    refine t_q (q_as (.int _ _) rfl) ?_
    refine t_nil ?_
    refine c_ret ?_
    refine r_three rfl (res1_cellN Try.isAgg34 Try.sizeOf34 rfl (hS.blk (by repeat first | exact .here _ _ | assumption | apply Pick.there)) rfl) (res1_cellN Try.isAgg55 Try.sizeOf55 rfl (hS.blk (by repeat first | exact .here _ _ | assumption | apply Pick.there)) rfl) rfl ?_
    rw [e1, e2, e3]
    first
      | exact ⟨ps', rfl, hsub, ((((((((hS.pick (A := blkA g3 34 _) (by repeat first | exact .here _ _ | assumption | apply Pick.there)).drop.pick (A := blkA g4 49 _) (by repeat first | exact .here _ _ | assumption | apply Pick.there)).drop.pick (A := blkA g6 34 _) (by repeat first | exact .here _ _ | assumption | apply Pick.there)).drop.pick (A := blkA g7 55 _) (by repeat first | exact .here _ _ | assumption | apply Pick.there)).drop.pick (A := blkA g9 34 _) (by repeat first | exact .here _ _ | assumption | apply Pick.there)).drop.pick (A := blkA g10 55 _) (by repeat first | exact .here _ _ | assumption | apply Pick.there)).drop.pick (A := rdsA _) (by repeat first | exact .here _ _ | assumption | apply Pick.there)).pick (A := regA W g _ _) (by repeat first | exact .here _ _ | assumption | apply Pick.there))⟩
      | (rw [h0]
         exact ⟨ps', rfl, hsub, ((((((((hS.pick (A := blkA g3 34 _) (by repeat first | exact .here _ _ | assumption | apply Pick.there)).drop.pick (A := blkA g4 49 _) (by repeat first | exact .here _ _ | assumption | apply Pick.there)).drop.pick (A := blkA g6 34 _) (by repeat first | exact .here _ _ | assumption | apply Pick.there)).drop.pick (A := blkA g7 55 _) (by repeat first | exact .here _ _ | assumption | apply Pick.there)).drop.pick (A := blkA g9 34 _) (by repeat first | exact .here _ _ | assumption | apply Pick.there)).drop.pick (A := blkA g10 55 _) (by repeat first | exact .here _ _ | assumption | apply Pick.there)).drop.pick (A := rdsA _) (by repeat first | exact .here _ _ | assumption | apply Pick.there)).pick (A := regA W g _ _) (by repeat first | exact .here _ _ | assumption | apply Pick.there))⟩)
  · intro hc6
    have hc6d := of_decide_eq_false hc6
    have h0 : r.e = 0 := by omega
    have e1 : apS s M n a c i = r.s := by unfold apS; rw [← hr, if_pos h0]
    have e2 : apA s M n a c i = r.a := by unfold apA; rw [← hr, if_pos h0]
    have e3 : apE s M n a c i = r.ev := by unfold apE; rw [← hr, if_pos h0]
    refine c_skip ?_
    refine c_seq ?_
    refine c_draw ?_
    refine d_keep2 (blkA g9 34 [.int .i64 r.s.active, .int .i64 r.s.previous, .int .i64 r.s.pending, .int .u64 r.s.at_, .int .i64 r.s.shadow, .pointer (some ⟨g, 0, none⟩), .int .i64 n, .int .u64 (r.a 0), .int .u64 (r.a 1), .int .u64 (r.a 2), .int .u64 (r.a 3), .int .u64 (r.a 4), .int .u64 (r.a 5), .int .u64 (r.a 6)]) (blkA g10 55 [.int .i64 r.ev.kind, .int .i64 r.ev.account, .int .u64 r.ev.id, .int .u64 r.ev.other, .int .i64 r.ev.side, .int .i64 r.ev.price, .int .i64 r.ev.qty, .int .i64 r.ev.fee, .int .i64 r.ev.fee2, .int .i64 r.ev.code, .int .i64 r.ev.version, .int .u64 r.ev.index]) 5 [0, 1, 2, 3, 4] [0, 2, 1, 3, 4] hS rfl (by kernel_rfl) (by kernel_rfl) (by kernel_rfl) (by kernel_rfl) (fun hap hsel w hS => ?_)
    refine p_q hap hsel 0 rfl rfl ⟨_, ((hS.pick (A := blkA g10 55 [.int .i64 r.ev.kind, .int .i64 r.ev.account, .int .u64 r.ev.id, .int .u64 r.ev.other, .int .i64 r.ev.side, .int .i64 r.ev.price, .int .i64 r.ev.qty, .int .i64 r.ev.fee, .int .i64 r.ev.fee2, .int .i64 r.ev.code, .int .i64 r.ev.version, .int .u64 r.ev.index]) (by repeat first | exact .here _ _ | assumption | apply Pick.there)).pick (A := blkA g9 34 [.int .i64 r.s.active, .int .i64 r.s.previous, .int .i64 r.s.pending, .int .u64 r.s.at_, .int .i64 r.s.shadow, .pointer (some ⟨g, 0, none⟩), .int .i64 n, .int .u64 (r.a 0), .int .u64 (r.a 1), .int .u64 (r.a 2), .int .u64 (r.a 3), .int .u64 (r.a 4), .int .u64 (r.a 5), .int .u64 (r.a 6)]) (by repeat first | exact .here _ _ | assumption | apply Pick.there))⟩ (fun w hI => (q_cast (v' := .agg (bdc r.s (some ⟨g, 0, none⟩) n r.a).toArray) (q_load_blk Try.isAgg34 Try.sizeOf34 rfl (hI.choose_spec.blk (by repeat first | exact .here _ _ | assumption | apply Pick.there)) rfl) (by rfl))) ?_
    refine p_q hap hsel 1 rfl rfl ⟨_, ((hS.pick (A := blkA g10 55 [.int .i64 r.ev.kind, .int .i64 r.ev.account, .int .u64 r.ev.id, .int .u64 r.ev.other, .int .i64 r.ev.side, .int .i64 r.ev.price, .int .i64 r.ev.qty, .int .i64 r.ev.fee, .int .i64 r.ev.fee2, .int .i64 r.ev.code, .int .i64 r.ev.version, .int .u64 r.ev.index]) (by repeat first | exact .here _ _ | assumption | apply Pick.there)).pick (A := blkA g9 34 [.int .i64 r.s.active, .int .i64 r.s.previous, .int .i64 r.s.pending, .int .u64 r.s.at_, .int .i64 r.s.shadow, .pointer (some ⟨g, 0, none⟩), .int .i64 n, .int .u64 (r.a 0), .int .u64 (r.a 1), .int .u64 (r.a 2), .int .u64 (r.a 3), .int .u64 (r.a 4), .int .u64 (r.a 5), .int .u64 (r.a 6)]) (by repeat first | exact .here _ _ | assumption | apply Pick.there))⟩ (fun w hI => (q_cast (v' := .agg r.ev.cells.toArray) (q_load_blk Try.isAgg55 Try.sizeOf55 rfl (hI.choose_spec.blk (by repeat first | exact .here _ _ | assumption | apply Pick.there)) rfl) (by rfl))) ?_
    refine p_one 2 rfl (by kernel_rfl) ?_
    refine t_store (v := (.agg _)) Try.sizeOf34 hS (by repeat first | exact .here _ _ | assumption | apply Pick.there) rfl rfl rfl rfl rfl rfl (fun w hS => ?_)
    replace hS := hS.recast (congrArg (blkA g6 34) (rset_full (vs := bdc r.s (some ⟨g, 0, none⟩) n r.a) rfl))
    refine t_nil ?_
    refine ⟨.inr ⟨_, ((hS.pick (A := blkA g10 55 [.int .i64 r.ev.kind, .int .i64 r.ev.account, .int .u64 r.ev.id, .int .u64 r.ev.other, .int .i64 r.ev.side, .int .i64 r.ev.price, .int .i64 r.ev.qty, .int .i64 r.ev.fee, .int .i64 r.ev.fee2, .int .i64 r.ev.code, .int .i64 r.ev.version, .int .u64 r.ev.index]) (by repeat first | exact .here _ _ | assumption | apply Pick.there)).pick (A := blkA g9 34 [.int .i64 r.s.active, .int .i64 r.s.previous, .int .i64 r.s.pending, .int .u64 r.s.at_, .int .i64 r.s.shadow, .pointer (some ⟨g, 0, none⟩), .int .i64 n, .int .u64 (r.a 0), .int .u64 (r.a 1), .int .u64 (r.a 2), .int .u64 (r.a 3), .int .u64 (r.a 4), .int .u64 (r.a 5), .int .u64 (r.a 6)]) (by repeat first | exact .here _ _ | assumption | apply Pick.there))⟩, ?_⟩
    refine p_one 3 rfl (by kernel_rfl) ?_
    refine t_store (v := (.agg _)) Try.sizeOf55 hS (by repeat first | exact .here _ _ | assumption | apply Pick.there) rfl rfl rfl rfl rfl rfl (fun w hS => ?_)
    replace hS := hS.recast (congrArg (blkA g7 55) (rset_full (vs := r.ev.cells) rfl))
    refine t_nil ?_
    refine ⟨.inr ⟨_, ((hS.pick (A := blkA g10 55 [.int .i64 r.ev.kind, .int .i64 r.ev.account, .int .u64 r.ev.id, .int .u64 r.ev.other, .int .i64 r.ev.side, .int .i64 r.ev.price, .int .i64 r.ev.qty, .int .i64 r.ev.fee, .int .i64 r.ev.fee2, .int .i64 r.ev.code, .int .i64 r.ev.version, .int .u64 r.ev.index]) (by repeat first | exact .here _ _ | assumption | apply Pick.there)).pick (A := blkA g9 34 [.int .i64 r.s.active, .int .i64 r.s.previous, .int .i64 r.s.pending, .int .u64 r.s.at_, .int .i64 r.s.shadow, .pointer (some ⟨g, 0, none⟩), .int .i64 n, .int .u64 (r.a 0), .int .u64 (r.a 1), .int .u64 (r.a 2), .int .u64 (r.a 3), .int .u64 (r.a 4), .int .u64 (r.a 5), .int .u64 (r.a 6)]) (by repeat first | exact .here _ _ | assumption | apply Pick.there))⟩, ?_⟩
    refine p_q hap hsel 4 rfl rfl ⟨_, ((hS.pick (A := blkA g10 55 [.int .i64 r.ev.kind, .int .i64 r.ev.account, .int .u64 r.ev.id, .int .u64 r.ev.other, .int .i64 r.ev.side, .int .i64 r.ev.price, .int .i64 r.ev.qty, .int .i64 r.ev.fee, .int .i64 r.ev.fee2, .int .i64 r.ev.code, .int .i64 r.ev.version, .int .u64 r.ev.index]) (by repeat first | exact .here _ _ | assumption | apply Pick.there)).pick (A := blkA g9 34 [.int .i64 r.s.active, .int .i64 r.s.previous, .int .i64 r.s.pending, .int .u64 r.s.at_, .int .i64 r.s.shadow, .pointer (some ⟨g, 0, none⟩), .int .i64 n, .int .u64 (r.a 0), .int .u64 (r.a 1), .int .u64 (r.a 2), .int .u64 (r.a 3), .int .u64 (r.a 4), .int .u64 (r.a 5), .int .u64 (r.a 6)]) (by repeat first | exact .here _ _ | assumption | apply Pick.there))⟩ (fun w hI => q_assign) ?_
    refine p_end (by kernel_rfl) ?_
    refine c_ret ?_
    refine r_three rfl (res1_cellN Try.isAgg34 Try.sizeOf34 rfl (hS.blk (by repeat first | exact .here _ _ | assumption | apply Pick.there)) rfl) (res1_cellN Try.isAgg55 Try.sizeOf55 rfl (hS.blk (by repeat first | exact .here _ _ | assumption | apply Pick.there)) rfl) rfl ?_
    rw [e1, e2, e3]
    first
      | exact ⟨ps', rfl, hsub, ((((((((hS.pick (A := blkA g3 34 _) (by repeat first | exact .here _ _ | assumption | apply Pick.there)).drop.pick (A := blkA g4 49 _) (by repeat first | exact .here _ _ | assumption | apply Pick.there)).drop.pick (A := blkA g6 34 _) (by repeat first | exact .here _ _ | assumption | apply Pick.there)).drop.pick (A := blkA g7 55 _) (by repeat first | exact .here _ _ | assumption | apply Pick.there)).drop.pick (A := blkA g9 34 _) (by repeat first | exact .here _ _ | assumption | apply Pick.there)).drop.pick (A := blkA g10 55 _) (by repeat first | exact .here _ _ | assumption | apply Pick.there)).drop.pick (A := rdsA _) (by repeat first | exact .here _ _ | assumption | apply Pick.there)).pick (A := regA W g _ _) (by repeat first | exact .here _ _ | assumption | apply Pick.there))⟩
      | (rw [h0]
         exact ⟨ps', rfl, hsub, ((((((((hS.pick (A := blkA g3 34 _) (by repeat first | exact .here _ _ | assumption | apply Pick.there)).drop.pick (A := blkA g4 49 _) (by repeat first | exact .here _ _ | assumption | apply Pick.there)).drop.pick (A := blkA g6 34 _) (by repeat first | exact .here _ _ | assumption | apply Pick.there)).drop.pick (A := blkA g7 55 _) (by repeat first | exact .here _ _ | assumption | apply Pick.there)).drop.pick (A := blkA g9 34 _) (by repeat first | exact .here _ _ | assumption | apply Pick.there)).drop.pick (A := blkA g10 55 _) (by repeat first | exact .here _ _ | assumption | apply Pick.there)).drop.pick (A := rdsA _) (by repeat first | exact .here _ _ | assumption | apply Pick.there)).pick (A := regA W g _ _) (by repeat first | exact .here _ _ | assumption | apply Pick.there))⟩)
end Go.Proofs.Ytmgobaojioaioaa
