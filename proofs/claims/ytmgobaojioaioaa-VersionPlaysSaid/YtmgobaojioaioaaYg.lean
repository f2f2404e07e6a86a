/- The chapter's example. -/
import Derived.Test.YtmgobaojioaioaaYf
import Derived.Test.YtmgobaojioaioaaYb
namespace Go.Proofs.Ytmgobaojioaioaa
open Go Go.RowKit Go.Lib
variable {W : World}
def zV : CmdV := ⟨0, 0, 0, 0, 0, 0, 0, 0, 0, 0, 0, 0, 0, ruZ⟩
def cP (y : RuV) : CmdV := { zV with kind := 9, rules := y }
def cA : CmdV := { zV with kind := 10, version := 2 }
def cX : CmdV := { zV with kind := 13, version := 2, at_ := 9 }
theorem lv1 {y : RuV} (hy : nf y = (bas 2 none 0 none 0)) : apS (⟨1, 0, 0, 0, 0⟩ : StV) [(bas 1 none 0 none 0)] 1 (fun _ => 0) (cP y) 1 = (⟨1, 0, 0, 0, 0⟩ : StV) ∧ apA (⟨1, 0, 0, 0, 0⟩ : StV) [(bas 1 none 0 none 0)] 1 (fun _ => 0) (cP y) 1 = (fun _ => 0) ∧ (apV (⟨1, 0, 0, 0, 0⟩ : StV) [(bas 1 none 0 none 0)] 1 (fun _ => 0) (cP y) 1).e = 0 ∧ (apV (⟨1, 0, 0, 0, 0⟩ : StV) [(bas 1 none 0 none 0)] 1 (fun _ => 0) (cP y) 1).M = [(bas 1 none 0 none 0), (bas 2 none 0 none 0)] := by
  have hg : goodR (bas 2 none 0 none 0) = true := by rw [bas_goodP]; decide
  obtain ⟨a1, a2⟩ := gputE_4 (M := [(bas 1 none 0 none 0)]) hg (by rfl) (by decide)
  have e0 : gputE [(bas 1 none 0 none 0)] y = 0 := (show gputE [(bas 1 none 0 none 0)] (nf y) = 0 from by rw [hy]; exact a1)
  have e1 : gputM [(bas 1 none 0 none 0)] y = [(bas 1 none 0 none 0), (bas 2 none 0 none 0)] := (show gputM [(bas 1 none 0 none 0)] (nf y) = _ from by rw [hy]; exact a2.trans rfl)
  have hk : (cP y).kind = 9 := rfl
  refine ⟨?_, ?_, ?_, ?_⟩
  · unfold apS
    rw [ap_9 hk]
    show (if gputE [(bas 1 none 0 none 0)] y = 0 then (⟨1, 0, 0, 0, 0⟩ : StV) else (⟨1, 0, 0, 0, 0⟩ : StV)) = (⟨1, 0, 0, 0, 0⟩ : StV)
    rw [e0, if_pos rfl]
  · unfold apA
    rw [ap_9 hk]
    show (if gputE [(bas 1 none 0 none 0)] y = 0 then (fun _ => 0) else (fun _ => 0)) = ((fun _ => 0) : Nat → Int)
    rw [e0, if_pos rfl]
  · rw [ap_9 hk]
    exact e0
  · rw [ap_9 hk]
    exact e1
theorem kn2 : vknownE [(bas 1 none 0 none 0), (bas 2 none 0 none 0)] 2 = 0 := by
  unfold vknownE
  rw [show (rgF [(bas 1 none 0 none 0), (bas 2 none 0 none 0)] 2).isSome = true from rfl]
  rfl
theorem lv2 : apS (⟨1, 0, 0, 0, 0⟩ : StV) [(bas 1 none 0 none 0), (bas 2 none 0 none 0)] 1 (fun _ => 0) cA 2 = (⟨1, 0, 0, 0, 0⟩ : StV) ∧ apA (⟨1, 0, 0, 0, 0⟩ : StV) [(bas 1 none 0 none 0), (bas 2 none 0 none 0)] 1 (fun _ => 0) cA 2 = (addT (fun _ => 0) 0 2) ∧ (apV (⟨1, 0, 0, 0, 0⟩ : StV) [(bas 1 none 0 none 0), (bas 2 none 0 none 0)] 1 (fun _ => 0) cA 2).e = 0 ∧ (apV (⟨1, 0, 0, 0, 0⟩ : StV) [(bas 1 none 0 none 0), (bas 2 none 0 none 0)] 1 (fun _ => 0) cA 2).M = [(bas 1 none 0 none 0), (bas 2 none 0 none 0)] := by
  have hk : cA.kind = 10 := rfl
  have hv : (0 ≤ cA.replica ∧ cA.replica < 1) ∧ (1 ≤ cA.version ∧ cA.version ≤ 32) := by decide
  have hr := ap_10a (s := (⟨1, 0, 0, 0, 0⟩ : StV)) (M := [(bas 1 none 0 none 0), (bas 2 none 0 none 0)]) (n := 1) (a := (fun _ => 0)) (i := 2) hk kn2
  rw [if_pos hv, if_pos hv] at hr
  unfold apS apA
  rw [hr]
  exact ⟨rfl, rfl, rfl, rfl⟩
theorem lv3 : apS (⟨1, 0, 0, 0, 0⟩ : StV) [(bas 1 none 0 none 0), (bas 2 none 0 none 0)] 1 (addT (fun _ => 0) 0 2) cX 5 = (⟨1, 0, 2, 9, 0⟩ : StV) ∧ apA (⟨1, 0, 0, 0, 0⟩ : StV) [(bas 1 none 0 none 0), (bas 2 none 0 none 0)] 1 (addT (fun _ => 0) 0 2) cX 5 = (addT (fun _ => 0) 0 2) ∧ (apV (⟨1, 0, 0, 0, 0⟩ : StV) [(bas 1 none 0 none 0), (bas 2 none 0 none 0)] 1 (addT (fun _ => 0) 0 2) cX 5).e = 0 ∧ (apV (⟨1, 0, 0, 0, 0⟩ : StV) [(bas 1 none 0 none 0), (bas 2 none 0 none 0)] 1 (addT (fun _ => 0) 0 2) cX 5).M = [(bas 1 none 0 none 0), (bas 2 none 0 none 0)] ∧ (apE (⟨1, 0, 0, 0, 0⟩ : StV) [(bas 1 none 0 none 0), (bas 2 none 0 none 0)] 1 (addT (fun _ => 0) 0 2) cX 5).kind = 12 := by
  have hk : cX.kind = 13 := rfl
  have ha : allT 1 (addT (fun _ => 0) 0 2) 2 = true := by decide
  have hrd : vreadyE [(bas 1 none 0 none 0), (bas 2 none 0 none 0)] (⟨1, 0, 0, 0, 0⟩ : StV) 2 0 = 0 := by
    unfold vreadyE
    rw [kn2]
    rfl
  have hs : vschedE [(bas 1 none 0 none 0), (bas 2 none 0 none 0)] (⟨1, 0, 0, 0, 0⟩ : StV) 1 (addT (fun _ => 0) 0 2) cX.version cX.at_ 5 = 0 := by
    unfold vschedE
    rw [show vreadyE [(bas 1 none 0 none 0), (bas 2 none 0 none 0)] (⟨1, 0, 0, 0, 0⟩ : StV) cX.version ((⟨1, 0, 0, 0, 0⟩ : StV)).pending = 0 from hrd, show allT 1 (addT (fun _ => 0) 0 2) cX.version = true from ha]
    rfl
  have hr := ap_13 (s := (⟨1, 0, 0, 0, 0⟩ : StV)) (M := [(bas 1 none 0 none 0), (bas 2 none 0 none 0)]) (n := 1) (a := (addT (fun _ => 0) 0 2)) (i := 5) hk
  rw [hs] at hr
  unfold apS apA apE
  rw [hr]
  exact ⟨rfl, rfl, rfl, rfl, rfl⟩
theorem sb0 : Sb (fun _ => 0) := fun _ => by show (0 : Int) ≤ 0 ∧ (0 : Int) < _; decide
attribute [local irreducible] blkA rowA rdsA mapA regA
set_option maxHeartbeats 2000000 in
set_option maxRecDepth 100000 in
theorem vlives_calls : Calls Try.prog 16 #[] W fun e w' => e = .returned (.bool true) ∧ St W w' [] := by
  have hS := St.init W
  refine calls_of_wpE (args := []) Try.func16 rfl rfl rfl ?_
  refine c_seq ?_
  refine c_region ?_
  refine t_q (q_assign) ?_
  refine t_nil ?_
  refine c_seq ?_
  refine c_region ?_
  refine t_call Try.call17 (begin_calls (n := 1) hS (by decide)) rfl ?_
  rintro e w ⟨g, q, A, c, ps, y0, rfl, hy0, hb0, hS⟩
  refine ⟨_, rfl, ?_⟩
  refine t_q (q_mv (.tuple _) rfl) ?_
  refine t_q (q_extract rfl rfl) ?_
  refine t_q (q_extract rfl rfl) ?_
  refine t_alloc Try.zeroValue34 rfl hS (fun g1 w hS => ?_)
  refine t_alloc Try.zeroValue41 rfl hS (fun g2 w hS => ?_)
  refine t_store (v := (.agg _)) Try.sizeOf34 hS (by repeat first | exact .here _ _ | assumption | apply Pick.there) rfl rfl rfl rfl rfl rfl (fun w hS => ?_)
  replace hS := hS.recast (congrArg (blkA g1 34) (rset_full (vs := bdc (⟨1, 0, 0, 0, 0⟩ : StV) (some ⟨g, 0, none⟩) 1 (fun _ => 0)) rfl))
  replace hS := hS.recast (show _ = blkA g1 34 [.int .i64 (⟨1, 0, 0, 0, 0⟩ : StV).active, .int .i64 (⟨1, 0, 0, 0, 0⟩ : StV).previous, .int .i64 (⟨1, 0, 0, 0, 0⟩ : StV).pending, .int .u64 (⟨1, 0, 0, 0, 0⟩ : StV).at_, .int .i64 (⟨1, 0, 0, 0, 0⟩ : StV).shadow, .pointer (some ⟨g, 0, none⟩), .int .i64 1, .int .u64 ((fun _ => 0) 0), .int .u64 ((fun _ => 0) 1), .int .u64 ((fun _ => 0) 2), .int .u64 ((fun _ => 0) 3), .int .u64 ((fun _ => 0) 4), .int .u64 ((fun _ => 0) 5), .int .u64 ((fun _ => 0) 6)] from rfl)
  refine t_store (v := (.agg _)) Try.sizeOf41 hS (by repeat first | exact .here _ _ | assumption | apply Pick.there) rfl rfl rfl rfl rfl rfl (fun w hS => ?_)
  refine t_nil ?_
  refine c_seq ?_
  refine c_draw ?_
  refine d_keep (blkA g1 34 [.int .i64 (⟨1, 0, 0, 0, 0⟩ : StV).active, .int .i64 (⟨1, 0, 0, 0, 0⟩ : StV).previous, .int .i64 (⟨1, 0, 0, 0, 0⟩ : StV).pending, .int .u64 (⟨1, 0, 0, 0, 0⟩ : StV).at_, .int .i64 (⟨1, 0, 0, 0, 0⟩ : StV).shadow, .pointer (some ⟨g, 0, none⟩), .int .i64 1, .int .u64 ((fun _ => 0) 0), .int .u64 ((fun _ => 0) 1), .int .u64 ((fun _ => 0) 2), .int .u64 ((fun _ => 0) 3), .int .u64 ((fun _ => 0) 4), .int .u64 ((fun _ => 0) 5), .int .u64 ((fun _ => 0) 6)]) 12 [0, 1, 2, 3, 4, 5, 6, 7, 8, 9, 10, 11] [0, 1, 2, 3, 4, 5, 8, 9, 6, 10, 7, 11] hS rfl (by kernel_rfl) (by kernel_rfl) (by kernel_rfl) (by kernel_rfl) (fun hap hsel w hS => ?_)
  refine p_q hap hsel 0 rfl rfl ⟨_, hS.pick (by repeat first | exact .here _ _ | assumption | apply Pick.there)⟩ (fun w hI => (q_cast (v' := .agg (bdc (⟨1, 0, 0, 0, 0⟩ : StV) (some ⟨g, 0, none⟩) 1 (fun _ => 0)).toArray) (q_load_blk Try.isAgg34 Try.sizeOf34 rfl (hI.choose_spec.blk (by repeat first | exact .here _ _ | assumption | apply Pick.there)) rfl) (by rfl))) ?_
  refine p_two 1 8 rfl rfl (by kernel_rfl) ?_ ?_
  ·
    refine t_call Try.call22 (vof_calls (v := 2) hS (by decide)) rfl ?_
    rintro e w ⟨y2, rfl, hy2, hb2, hS⟩
    refine ⟨_, rfl, ?_⟩
    replace hS := rds_join ((hS.pick (A := rdsA ps) (by repeat first | exact .here _ _ | assumption | apply Pick.there)).pick (A := rdsA (ruP y2)) (by repeat first | exact .here _ _ | assumption | apply Pick.there))
    replace hS := St.reg_mono (hS.pick (A := regA W g _ ps) (by repeat first | exact .here _ _ | assumption | apply Pick.there)) (ps' := ruP y2 ++ ps) (fun p hp => List.mem_append_right _ hp)
    refine t_nil ?_
    refine ⟨.inr ⟨_, hS.pick (by repeat first | exact .here _ _ | assumption | apply Pick.there)⟩, ?_⟩
    refine p_q hap hsel 2 rfl rfl ⟨_, hS.pick (by repeat first | exact .here _ _ | assumption | apply Pick.there)⟩ (fun w hI => (q_cast (v' := .agg (cP y2).cells.toArray) (q_build (qs := [(0, 1), (1, 1), (2, 1), (3, 1), (4, 1), (5, 1), (6, 1), (7, 1), (8, 1), (9, 1), (10, 1), (11, 1), (12, 1), (13, 9)]) [.int .i64 9, .int .u64 0, .int .u64 0, .int .i64 0, .int .u64 0, .int .i64 0, .int .i64 0, .int .i64 0, .int .i64 0, .int .i64 0, .int .i64 0, .int .i64 0, .int .u64 0, .int .i64 y2.version, .slice y2.ticks.A y2.ticks.l.length y2.ticks.c, .int .i64 y2.lot, .int .i64 y2.band, .slice y2.fees.A y2.fees.l.length y2.fees.c, .int .i64 y2.round, .int .i64 y2.priority, .int .i64 y2.self, .int .i64 y2.layout] Try.zeroValue49 Try.runUnderlying49 ⟨rfl, Try.sizeOf3, rfl, Try.sizeOf26, rfl, Try.sizeOf26, rfl, Try.sizeOf3, rfl, Try.sizeOf26, rfl, Try.sizeOf3, rfl, Try.sizeOf3, rfl, Try.sizeOf3, rfl, Try.sizeOf2, rfl, Try.sizeOf2, rfl, Try.sizeOf3, rfl, Try.sizeOf3, rfl, Try.sizeOf26, rfl, Try.sizeOf47, trivial⟩ rfl rfl) (by rfl))) ?_
    refine p_two 3 8 rfl rfl (by kernel_rfl) ?_ ?_
    ·
      refine t_call Try.call20 (apply_calls (s := (⟨1, 0, 0, 0, 0⟩ : StV)) (M := [(bas 1 none 0 none 0)]) (n := 1) (a := (fun _ => 0)) (c := cP y2) (i := 1) ((hS.pick (A := rdsA _) (by repeat first | exact .here _ _ | assumption | apply Pick.there)).pick (A := regA W g _ _) (by repeat first | exact .here _ _ | assumption | apply Pick.there)) (by decide) sb0 (hb2.mono fun p hp => List.mem_append_left _ hp) (show (0 : Int) ≤ 0 ∧ (0 : Int) < 18446744073709551616 by decide) (by decide)) rfl ?_
      rintro e w ⟨ps2, rfl, hs_ps2, hS⟩
      refine ⟨_, rfl, ?_⟩
      obtain ⟨e1, e2, e3, e4⟩ := lv1 hy2
      rw [e1, e2, e3]
      rw [e4] at hS
      refine t_nil ?_
      refine ⟨.inr ⟨_, hS.pick (by repeat first | exact .here _ _ | assumption | apply Pick.there)⟩, ?_⟩
      refine p_q hap hsel 4 rfl rfl ⟨_, hS.pick (by repeat first | exact .here _ _ | assumption | apply Pick.there)⟩ (fun w hI => q_mv (.tuple _) rfl) ?_
      refine p_q hap hsel 5 rfl rfl ⟨_, hS.pick (by repeat first | exact .here _ _ | assumption | apply Pick.there)⟩ (fun w hI => q_extract rfl rfl) ?_
      refine p_q hap hsel 6 rfl rfl ⟨_, hS.pick (by repeat first | exact .here _ _ | assumption | apply Pick.there)⟩ (fun w hI => q_extract rfl rfl) ?_
      refine p_q hap hsel 7 rfl rfl ⟨_, hS.pick (by repeat first | exact .here _ _ | assumption | apply Pick.there)⟩ (fun w hI => q_extract rfl rfl) ?_
      refine p_one 8 rfl (by kernel_rfl) ?_
      refine t_alloc Try.zeroValue55 rfl hS (fun g3 w hS => ?_)
      refine t_nil ?_
      refine ⟨.inr ⟨_, hS.pick (by repeat first | exact .here _ _ | assumption | apply Pick.there)⟩, ?_⟩
      refine p_one 9 rfl (by kernel_rfl) ?_
      refine t_store (v := (.agg _)) Try.sizeOf34 hS (by repeat first | exact .here _ _ | assumption | apply Pick.there) rfl rfl rfl rfl rfl rfl (fun w hS => ?_)
      replace hS := hS.recast (congrArg (blkA g1 34) (rset_full (vs := bdc (⟨1, 0, 0, 0, 0⟩ : StV) (some ⟨g, 0, none⟩) 1 (fun _ => 0)) rfl))
      replace hS := hS.recast (show _ = blkA g1 34 [.int .i64 (⟨1, 0, 0, 0, 0⟩ : StV).active, .int .i64 (⟨1, 0, 0, 0, 0⟩ : StV).previous, .int .i64 (⟨1, 0, 0, 0, 0⟩ : StV).pending, .int .u64 (⟨1, 0, 0, 0, 0⟩ : StV).at_, .int .i64 (⟨1, 0, 0, 0, 0⟩ : StV).shadow, .pointer (some ⟨g, 0, none⟩), .int .i64 1, .int .u64 ((fun _ => 0) 0), .int .u64 ((fun _ => 0) 1), .int .u64 ((fun _ => 0) 2), .int .u64 ((fun _ => 0) 3), .int .u64 ((fun _ => 0) 4), .int .u64 ((fun _ => 0) 5), .int .u64 ((fun _ => 0) 6)] from rfl)
      refine t_nil ?_
      refine ⟨.inr ⟨_, hS.pick (by repeat first | exact .here _ _ | assumption | apply Pick.there)⟩, ?_⟩
      refine p_one 10 rfl (by kernel_rfl) ?_
      refine t_store (v := (.agg _)) Try.sizeOf55 hS (by repeat first | exact .here _ _ | assumption | apply Pick.there) rfl rfl rfl rfl rfl rfl (fun w hS => ?_)
      replace hS := hS.recast (congrArg (blkA g3 55) (rset_full (vs := (apE (⟨1, 0, 0, 0, 0⟩ : StV) [(bas 1 none 0 none 0)] 1 (fun _ => 0) (cP y2) 1).cells) rfl))
      replace hS := hS.recast (show _ = blkA g3 55 [.int .i64 (apE (⟨1, 0, 0, 0, 0⟩ : StV) [(bas 1 none 0 none 0)] 1 (fun _ => 0) (cP y2) 1).kind, .int .i64 (apE (⟨1, 0, 0, 0, 0⟩ : StV) [(bas 1 none 0 none 0)] 1 (fun _ => 0) (cP y2) 1).account, .int .u64 (apE (⟨1, 0, 0, 0, 0⟩ : StV) [(bas 1 none 0 none 0)] 1 (fun _ => 0) (cP y2) 1).id, .int .u64 (apE (⟨1, 0, 0, 0, 0⟩ : StV) [(bas 1 none 0 none 0)] 1 (fun _ => 0) (cP y2) 1).other, .int .i64 (apE (⟨1, 0, 0, 0, 0⟩ : StV) [(bas 1 none 0 none 0)] 1 (fun _ => 0) (cP y2) 1).side, .int .i64 (apE (⟨1, 0, 0, 0, 0⟩ : StV) [(bas 1 none 0 none 0)] 1 (fun _ => 0) (cP y2) 1).price, .int .i64 (apE (⟨1, 0, 0, 0, 0⟩ : StV) [(bas 1 none 0 none 0)] 1 (fun _ => 0) (cP y2) 1).qty, .int .i64 (apE (⟨1, 0, 0, 0, 0⟩ : StV) [(bas 1 none 0 none 0)] 1 (fun _ => 0) (cP y2) 1).fee, .int .i64 (apE (⟨1, 0, 0, 0, 0⟩ : StV) [(bas 1 none 0 none 0)] 1 (fun _ => 0) (cP y2) 1).fee2, .int .i64 (apE (⟨1, 0, 0, 0, 0⟩ : StV) [(bas 1 none 0 none 0)] 1 (fun _ => 0) (cP y2) 1).code, .int .i64 (apE (⟨1, 0, 0, 0, 0⟩ : StV) [(bas 1 none 0 none 0)] 1 (fun _ => 0) (cP y2) 1).version, .int .u64 (apE (⟨1, 0, 0, 0, 0⟩ : StV) [(bas 1 none 0 none 0)] 1 (fun _ => 0) (cP y2) 1).index] from rfl)
      refine t_nil ?_
      refine ⟨.inr ⟨_, hS.pick (by repeat first | exact .here _ _ | assumption | apply Pick.there)⟩, ?_⟩
      refine p_q hap hsel 11 rfl rfl ⟨_, hS.pick (by repeat first | exact .here _ _ | assumption | apply Pick.there)⟩ (fun w hI => q_as (.int _ _) rfl) ?_
      refine p_end (by kernel_rfl) ?_
      refine c_seq ?_
      refine c_region ?_
      refine t_q (q_cast (v' := .agg (bdc (⟨1, 0, 0, 0, 0⟩ : StV) (some ⟨g, 0, none⟩) 1 (fun _ => 0)).toArray) (q_load_blk Try.isAgg34 Try.sizeOf34 rfl (hS.blk (by repeat first | exact .here _ _ | assumption | apply Pick.there)) rfl) (by rfl)) ?_
      refine t_q (q_cast (v' := .agg (cA).cells.toArray) (q_build (qs := [(0, 1), (1, 1), (2, 1), (3, 1), (4, 1), (5, 1), (6, 1), (7, 1), (8, 1), (9, 1), (10, 1), (11, 1), (12, 1), (13, 9)]) [(.int _ _), (.int _ _), (.int _ _), (.int _ _), (.int _ _), (.int _ _), (.int _ _), (.int _ _), (.int _ _), (.int _ _), (.int _ _), (.int _ _), (.int _ _), (.int _ _), (.slice _ _ _), (.int _ _), (.int _ _), (.slice _ _ _), (.int _ _), (.int _ _), (.int _ _), (.int _ _)] Try.zeroValue49 Try.runUnderlying49 ⟨rfl, Try.sizeOf3, rfl, Try.sizeOf26, rfl, Try.sizeOf26, rfl, Try.sizeOf3, rfl, Try.sizeOf26, rfl, Try.sizeOf3, rfl, Try.sizeOf3, rfl, Try.sizeOf3, rfl, Try.sizeOf2, rfl, Try.sizeOf2, rfl, Try.sizeOf3, rfl, Try.sizeOf3, rfl, Try.sizeOf26, rfl, Try.sizeOf47, trivial⟩ rfl rfl) (by rfl)) ?_
      refine t_call Try.call20 (apply_calls (s := (⟨1, 0, 0, 0, 0⟩ : StV)) (M := [(bas 1 none 0 none 0), (bas 2 none 0 none 0)]) (n := 1) (a := (fun _ => 0)) (c := cA) (i := 2) ((hS.pick (A := rdsA _) (by repeat first | exact .here _ _ | assumption | apply Pick.there)).pick (A := regA W g _ _) (by repeat first | exact .here _ _ | assumption | apply Pick.there)) (by decide) sb0 RuBy.z (show (0 : Int) ≤ 0 ∧ (0 : Int) < 18446744073709551616 by decide) (by decide)) rfl ?_
      rintro e w ⟨ps3, rfl, hs_ps3, hS⟩
      refine ⟨_, rfl, ?_⟩
      obtain ⟨e1, e2, e3, e4⟩ := lv2
      rw [e1, e2, e3]
      rw [e4] at hS
      refine t_q (q_mv (.tuple _) rfl) ?_
      refine t_q (q_extract rfl rfl) ?_
      refine t_q (q_extract rfl rfl) ?_
      refine t_q (q_extract rfl rfl) ?_
      refine t_alloc Try.zeroValue55 rfl hS (fun g5 w hS => ?_)
      refine t_store (v := (.agg _)) Try.sizeOf34 hS (by repeat first | exact .here _ _ | assumption | apply Pick.there) rfl rfl rfl rfl rfl rfl (fun w hS => ?_)
      replace hS := hS.recast (congrArg (blkA g1 34) (rset_full (vs := bdc (⟨1, 0, 0, 0, 0⟩ : StV) (some ⟨g, 0, none⟩) 1 (addT (fun _ => 0) 0 2)) rfl))
      replace hS := hS.recast (show _ = blkA g1 34 [.int .i64 (⟨1, 0, 0, 0, 0⟩ : StV).active, .int .i64 (⟨1, 0, 0, 0, 0⟩ : StV).previous, .int .i64 (⟨1, 0, 0, 0, 0⟩ : StV).pending, .int .u64 (⟨1, 0, 0, 0, 0⟩ : StV).at_, .int .i64 (⟨1, 0, 0, 0, 0⟩ : StV).shadow, .pointer (some ⟨g, 0, none⟩), .int .i64 1, .int .u64 ((addT (fun _ => 0) 0 2) 0), .int .u64 ((addT (fun _ => 0) 0 2) 1), .int .u64 ((addT (fun _ => 0) 0 2) 2), .int .u64 ((addT (fun _ => 0) 0 2) 3), .int .u64 ((addT (fun _ => 0) 0 2) 4), .int .u64 ((addT (fun _ => 0) 0 2) 5), .int .u64 ((addT (fun _ => 0) 0 2) 6)] from rfl)
      refine t_store (v := (.agg _)) Try.sizeOf55 hS (by repeat first | exact .here _ _ | assumption | apply Pick.there) rfl rfl rfl rfl rfl rfl (fun w hS => ?_)
      replace hS := hS.recast (congrArg (blkA g5 55) (rset_full (vs := (apE (⟨1, 0, 0, 0, 0⟩ : StV) [(bas 1 none 0 none 0), (bas 2 none 0 none 0)] 1 (fun _ => 0) cA 2).cells) rfl))
      replace hS := hS.recast (show _ = blkA g5 55 [.int .i64 (apE (⟨1, 0, 0, 0, 0⟩ : StV) [(bas 1 none 0 none 0), (bas 2 none 0 none 0)] 1 (fun _ => 0) cA 2).kind, .int .i64 (apE (⟨1, 0, 0, 0, 0⟩ : StV) [(bas 1 none 0 none 0), (bas 2 none 0 none 0)] 1 (fun _ => 0) cA 2).account, .int .u64 (apE (⟨1, 0, 0, 0, 0⟩ : StV) [(bas 1 none 0 none 0), (bas 2 none 0 none 0)] 1 (fun _ => 0) cA 2).id, .int .u64 (apE (⟨1, 0, 0, 0, 0⟩ : StV) [(bas 1 none 0 none 0), (bas 2 none 0 none 0)] 1 (fun _ => 0) cA 2).other, .int .i64 (apE (⟨1, 0, 0, 0, 0⟩ : StV) [(bas 1 none 0 none 0), (bas 2 none 0 none 0)] 1 (fun _ => 0) cA 2).side, .int .i64 (apE (⟨1, 0, 0, 0, 0⟩ : StV) [(bas 1 none 0 none 0), (bas 2 none 0 none 0)] 1 (fun _ => 0) cA 2).price, .int .i64 (apE (⟨1, 0, 0, 0, 0⟩ : StV) [(bas 1 none 0 none 0), (bas 2 none 0 none 0)] 1 (fun _ => 0) cA 2).qty, .int .i64 (apE (⟨1, 0, 0, 0, 0⟩ : StV) [(bas 1 none 0 none 0), (bas 2 none 0 none 0)] 1 (fun _ => 0) cA 2).fee, .int .i64 (apE (⟨1, 0, 0, 0, 0⟩ : StV) [(bas 1 none 0 none 0), (bas 2 none 0 none 0)] 1 (fun _ => 0) cA 2).fee2, .int .i64 (apE (⟨1, 0, 0, 0, 0⟩ : StV) [(bas 1 none 0 none 0), (bas 2 none 0 none 0)] 1 (fun _ => 0) cA 2).code, .int .i64 (apE (⟨1, 0, 0, 0, 0⟩ : StV) [(bas 1 none 0 none 0), (bas 2 none 0 none 0)] 1 (fun _ => 0) cA 2).version, .int .u64 (apE (⟨1, 0, 0, 0, 0⟩ : StV) [(bas 1 none 0 none 0), (bas 2 none 0 none 0)] 1 (fun _ => 0) cA 2).index] from rfl)
      refine t_q (q_as (.int _ _) rfl) ?_
      refine t_nil ?_
      refine c_seq ?_
      refine c_region ?_
      refine t_q (q_cast (v' := .agg (bdc (⟨1, 0, 0, 0, 0⟩ : StV) (some ⟨g, 0, none⟩) 1 (addT (fun _ => 0) 0 2)).toArray) (q_load_blk Try.isAgg34 Try.sizeOf34 rfl (hS.blk (by repeat first | exact .here _ _ | assumption | apply Pick.there)) rfl) (by rfl)) ?_
      refine t_q (q_cast (v' := .agg (cX).cells.toArray) (q_build (qs := [(0, 1), (1, 1), (2, 1), (3, 1), (4, 1), (5, 1), (6, 1), (7, 1), (8, 1), (9, 1), (10, 1), (11, 1), (12, 1), (13, 9)]) [(.int _ _), (.int _ _), (.int _ _), (.int _ _), (.int _ _), (.int _ _), (.int _ _), (.int _ _), (.int _ _), (.int _ _), (.int _ _), (.int _ _), (.int _ _), (.int _ _), (.slice _ _ _), (.int _ _), (.int _ _), (.slice _ _ _), (.int _ _), (.int _ _), (.int _ _), (.int _ _)] Try.zeroValue49 Try.runUnderlying49 ⟨rfl, Try.sizeOf3, rfl, Try.sizeOf26, rfl, Try.sizeOf26, rfl, Try.sizeOf3, rfl, Try.sizeOf26, rfl, Try.sizeOf3, rfl, Try.sizeOf3, rfl, Try.sizeOf3, rfl, Try.sizeOf2, rfl, Try.sizeOf2, rfl, Try.sizeOf3, rfl, Try.sizeOf3, rfl, Try.sizeOf26, rfl, Try.sizeOf47, trivial⟩ rfl rfl) (by rfl)) ?_
      refine t_call Try.call20 (apply_calls (s := (⟨1, 0, 0, 0, 0⟩ : StV)) (M := [(bas 1 none 0 none 0), (bas 2 none 0 none 0)]) (n := 1) (a := (addT (fun _ => 0) 0 2)) (c := cX) (i := 5) ((hS.pick (A := rdsA _) (by repeat first | exact .here _ _ | assumption | apply Pick.there)).pick (A := regA W g _ _) (by repeat first | exact .here _ _ | assumption | apply Pick.there)) (by decide) (addT_b sb0 0 2) RuBy.z (show (0 : Int) ≤ 9 ∧ (9 : Int) < 18446744073709551616 by decide) (by decide)) rfl ?_
      rintro e w ⟨ps4, rfl, hs_ps4, hS⟩
      refine ⟨_, rfl, ?_⟩
      obtain ⟨e1, e2, e3, e4, ek⟩ := lv3
      rw [e1, e2, e3]
      rw [e4] at hS
      refine t_q (q_mv (.tuple _) rfl) ?_
      refine t_q (q_extract rfl rfl) ?_
      refine t_q (q_extract rfl rfl) ?_
      refine t_q (q_extract rfl rfl) ?_
      refine t_alloc Try.zeroValue55 rfl hS (fun g7 w hS => ?_)
      refine t_store (v := (.agg _)) Try.sizeOf34 hS (by repeat first | exact .here _ _ | assumption | apply Pick.there) rfl rfl rfl rfl rfl rfl (fun w hS => ?_)
      replace hS := hS.recast (congrArg (blkA g1 34) (rset_full (vs := bdc (⟨1, 0, 2, 9, 0⟩ : StV) (some ⟨g, 0, none⟩) 1 (addT (fun _ => 0) 0 2)) rfl))
      replace hS := hS.recast (show _ = blkA g1 34 [.int .i64 (⟨1, 0, 2, 9, 0⟩ : StV).active, .int .i64 (⟨1, 0, 2, 9, 0⟩ : StV).previous, .int .i64 (⟨1, 0, 2, 9, 0⟩ : StV).pending, .int .u64 (⟨1, 0, 2, 9, 0⟩ : StV).at_, .int .i64 (⟨1, 0, 2, 9, 0⟩ : StV).shadow, .pointer (some ⟨g, 0, none⟩), .int .i64 1, .int .u64 ((addT (fun _ => 0) 0 2) 0), .int .u64 ((addT (fun _ => 0) 0 2) 1), .int .u64 ((addT (fun _ => 0) 0 2) 2), .int .u64 ((addT (fun _ => 0) 0 2) 3), .int .u64 ((addT (fun _ => 0) 0 2) 4), .int .u64 ((addT (fun _ => 0) 0 2) 5), .int .u64 ((addT (fun _ => 0) 0 2) 6)] from rfl)
      refine t_store (v := (.agg _)) Try.sizeOf55 hS (by repeat first | exact .here _ _ | assumption | apply Pick.there) rfl rfl rfl rfl rfl rfl (fun w hS => ?_)
      replace hS := hS.recast (congrArg (blkA g7 55) (rset_full (vs := (apE (⟨1, 0, 0, 0, 0⟩ : StV) [(bas 1 none 0 none 0), (bas 2 none 0 none 0)] 1 (addT (fun _ => 0) 0 2) cX 5).cells) rfl))
      replace hS := hS.recast (show _ = blkA g7 55 [.int .i64 (apE (⟨1, 0, 0, 0, 0⟩ : StV) [(bas 1 none 0 none 0), (bas 2 none 0 none 0)] 1 (addT (fun _ => 0) 0 2) cX 5).kind, .int .i64 (apE (⟨1, 0, 0, 0, 0⟩ : StV) [(bas 1 none 0 none 0), (bas 2 none 0 none 0)] 1 (addT (fun _ => 0) 0 2) cX 5).account, .int .u64 (apE (⟨1, 0, 0, 0, 0⟩ : StV) [(bas 1 none 0 none 0), (bas 2 none 0 none 0)] 1 (addT (fun _ => 0) 0 2) cX 5).id, .int .u64 (apE (⟨1, 0, 0, 0, 0⟩ : StV) [(bas 1 none 0 none 0), (bas 2 none 0 none 0)] 1 (addT (fun _ => 0) 0 2) cX 5).other, .int .i64 (apE (⟨1, 0, 0, 0, 0⟩ : StV) [(bas 1 none 0 none 0), (bas 2 none 0 none 0)] 1 (addT (fun _ => 0) 0 2) cX 5).side, .int .i64 (apE (⟨1, 0, 0, 0, 0⟩ : StV) [(bas 1 none 0 none 0), (bas 2 none 0 none 0)] 1 (addT (fun _ => 0) 0 2) cX 5).price, .int .i64 (apE (⟨1, 0, 0, 0, 0⟩ : StV) [(bas 1 none 0 none 0), (bas 2 none 0 none 0)] 1 (addT (fun _ => 0) 0 2) cX 5).qty, .int .i64 (apE (⟨1, 0, 0, 0, 0⟩ : StV) [(bas 1 none 0 none 0), (bas 2 none 0 none 0)] 1 (addT (fun _ => 0) 0 2) cX 5).fee, .int .i64 (apE (⟨1, 0, 0, 0, 0⟩ : StV) [(bas 1 none 0 none 0), (bas 2 none 0 none 0)] 1 (addT (fun _ => 0) 0 2) cX 5).fee2, .int .i64 (apE (⟨1, 0, 0, 0, 0⟩ : StV) [(bas 1 none 0 none 0), (bas 2 none 0 none 0)] 1 (addT (fun _ => 0) 0 2) cX 5).code, .int .i64 (apE (⟨1, 0, 0, 0, 0⟩ : StV) [(bas 1 none 0 none 0), (bas 2 none 0 none 0)] 1 (addT (fun _ => 0) 0 2) cX 5).version, .int .u64 (apE (⟨1, 0, 0, 0, 0⟩ : StV) [(bas 1 none 0 none 0), (bas 2 none 0 none 0)] 1 (addT (fun _ => 0) 0 2) cX 5).index] from rfl)
      refine t_q (q_as (.int _ _) rfl) ?_
      refine t_nil ?_
      refine c_seq ?_
      refine c_region ?_
      refine t_q (q_mv (.int _ _) rfl) ?_
      refine t_q (q_cast (v' := .bool true) (q_eql rfl rfl) (by rfl)) ?_
      refine t_q (q_mv (.bool _) rfl) ?_
      refine t_yes rfl rfl rfl ?_
      refine t_q (q_mv (.int _ _) rfl) ?_
      refine t_yes rfl rfl rfl ?_
      refine t_q (q_cast (v' := .bool true) (q_eql rfl rfl) (by rfl)) ?_
      refine t_q (q_pick_t rfl rfl) ?_
      refine t_q (q_mv (.bool _) rfl) ?_
      refine t_yes rfl rfl rfl ?_
      refine t_q (q_mv (.int _ _) rfl) ?_
      refine t_yes rfl rfl rfl ?_
      refine t_q (q_cast (v' := .bool true) (q_eql rfl rfl) (by rfl)) ?_
      refine t_q (q_pick_t rfl rfl) ?_
      refine t_q (q_mv (.bool _) rfl) ?_
      refine t_yes rfl rfl rfl ?_
      refine t_q (q_fieldAddr 0 Try.runUnderlying55 rfl Try.sizeOf3 (by decide) rfl rfl) ?_
      refine t_yes rfl rfl rfl ?_
      refine t_q (q_load1 Try.isAgg3 rfl (hS.cell (by repeat first | exact .here _ _ | assumption | apply Pick.there) rfl)) ?_
      refine t_yes rfl rfl rfl ?_
      refine t_q (q_cast (v' := .bool true) (q_eql rfl rfl) (congrArg Value.bool (decide_eq_true ek))) ?_
      refine t_q (q_pick_t rfl rfl) ?_
      refine t_q (q_mv (.bool _) rfl) ?_
      refine t_yes rfl rfl rfl ?_
      refine t_q (q_fieldAddr 0 Try.runUnderlying34 rfl Try.sizeOf28 (by decide) rfl rfl) ?_
      refine t_yes rfl rfl rfl ?_
      refine t_q (q_cast (v' := .agg (⟨1, 0, 2, 9, 0⟩ : StV).cells.toArray) (q_load_sub Try.isAgg28 Try.sizeOf28 rfl (hS.blk (by repeat first | exact .here _ _ | assumption | apply Pick.there)) (by show 0 + 0 + 5 ≤ 14; decide)) (by rfl)) ?_
      refine t_yes rfl rfl rfl ?_
      refine t_call Try.call27 (due_calls (x := (⟨1, 0, 2, 9, 0⟩ : StV)) (i := 8)) rfl ?_
      rintro e w ⟨rfl, hT⟩
      refine ⟨_, rfl, ?_⟩
      replace hS := hS.after hT
      refine t_yes rfl rfl rfl ?_
      refine t_q (q_cast (v' := .bool true) (q_eql rfl rfl) (by rfl)) ?_
      refine t_q (q_pick_t rfl rfl) ?_
      refine t_q (q_mv (.bool _) rfl) ?_
      refine t_yes rfl rfl rfl ?_
      refine t_q (q_fieldAddr 0 Try.runUnderlying34 rfl Try.sizeOf28 (by decide) rfl rfl) ?_
      refine t_yes rfl rfl rfl ?_
      refine t_q (q_cast (v' := .agg (⟨1, 0, 2, 9, 0⟩ : StV).cells.toArray) (q_load_sub Try.isAgg28 Try.sizeOf28 rfl (hS.blk (by repeat first | exact .here _ _ | assumption | apply Pick.there)) (by show 0 + 0 + 5 ≤ 14; decide)) (by rfl)) ?_
      refine t_yes rfl rfl rfl ?_
      refine t_call Try.call27 (due_calls (x := (⟨1, 0, 2, 9, 0⟩ : StV)) (i := 9)) rfl ?_
      rintro e w ⟨rfl, hT⟩
      refine ⟨_, rfl, ?_⟩
      replace hS := hS.after hT
      refine t_yes rfl rfl rfl ?_
      refine t_q (q_cast (v' := .bool true) (q_eql rfl rfl) (by rfl)) ?_
      refine t_q (q_pick_t rfl rfl) ?_
      refine t_q (q_as (.bool _) rfl) ?_
      refine t_nil ?_
      refine c_ret ?_
      refine r_one rfl rfl ?_
      exact ⟨rfl, hS.nil⟩
    ·
      refine t_alloc Try.zeroValue55 rfl hS (fun g3 w hS => ?_)
      refine t_nil ?_
      refine ⟨.inr ⟨_, hS.pick (by repeat first | exact .here _ _ | assumption | apply Pick.there)⟩, ?_⟩
      refine p_one 3 rfl (by kernel_rfl) ?_
      refine t_call Try.call20 (apply_calls (s := (⟨1, 0, 0, 0, 0⟩ : StV)) (M := [(bas 1 none 0 none 0)]) (n := 1) (a := (fun _ => 0)) (c := cP y2) (i := 1) ((hS.pick (A := rdsA _) (by repeat first | exact .here _ _ | assumption | apply Pick.there)).pick (A := regA W g _ _) (by repeat first | exact .here _ _ | assumption | apply Pick.there)) (by decide) sb0 (hb2.mono fun p hp => List.mem_append_left _ hp) (show (0 : Int) ≤ 0 ∧ (0 : Int) < 18446744073709551616 by decide) (by decide)) rfl ?_
      rintro e w ⟨ps2, rfl, hs_ps2, hS⟩
      refine ⟨_, rfl, ?_⟩
      obtain ⟨e1, e2, e3, e4⟩ := lv1 hy2
      rw [e1, e2, e3]
      rw [e4] at hS
      refine t_nil ?_
      refine ⟨.inr ⟨_, hS.pick (by repeat first | exact .here _ _ | assumption | apply Pick.there)⟩, ?_⟩
      refine p_q hap hsel 4 rfl rfl ⟨_, hS.pick (by repeat first | exact .here _ _ | assumption | apply Pick.there)⟩ (fun w hI => q_mv (.tuple _) rfl) ?_
      refine p_q hap hsel 5 rfl rfl ⟨_, hS.pick (by repeat first | exact .here _ _ | assumption | apply Pick.there)⟩ (fun w hI => q_extract rfl rfl) ?_
      refine p_q hap hsel 6 rfl rfl ⟨_, hS.pick (by repeat first | exact .here _ _ | assumption | apply Pick.there)⟩ (fun w hI => q_extract rfl rfl) ?_
      refine p_q hap hsel 7 rfl rfl ⟨_, hS.pick (by repeat first | exact .here _ _ | assumption | apply Pick.there)⟩ (fun w hI => q_extract rfl rfl) ?_
      refine p_one 9 rfl (by kernel_rfl) ?_
      refine t_store (v := (.agg _)) Try.sizeOf34 hS (by repeat first | exact .here _ _ | assumption | apply Pick.there) rfl rfl rfl rfl rfl rfl (fun w hS => ?_)
      replace hS := hS.recast (congrArg (blkA g1 34) (rset_full (vs := bdc (⟨1, 0, 0, 0, 0⟩ : StV) (some ⟨g, 0, none⟩) 1 (fun _ => 0)) rfl))
      replace hS := hS.recast (show _ = blkA g1 34 [.int .i64 (⟨1, 0, 0, 0, 0⟩ : StV).active, .int .i64 (⟨1, 0, 0, 0, 0⟩ : StV).previous, .int .i64 (⟨1, 0, 0, 0, 0⟩ : StV).pending, .int .u64 (⟨1, 0, 0, 0, 0⟩ : StV).at_, .int .i64 (⟨1, 0, 0, 0, 0⟩ : StV).shadow, .pointer (some ⟨g, 0, none⟩), .int .i64 1, .int .u64 ((fun _ => 0) 0), .int .u64 ((fun _ => 0) 1), .int .u64 ((fun _ => 0) 2), .int .u64 ((fun _ => 0) 3), .int .u64 ((fun _ => 0) 4), .int .u64 ((fun _ => 0) 5), .int .u64 ((fun _ => 0) 6)] from rfl)
      refine t_nil ?_
      refine ⟨.inr ⟨_, hS.pick (by repeat first | exact .here _ _ | assumption | apply Pick.there)⟩, ?_⟩
      refine p_one 10 rfl (by kernel_rfl) ?_
      refine t_store (v := (.agg _)) Try.sizeOf55 hS (by repeat first | exact .here _ _ | assumption | apply Pick.there) rfl rfl rfl rfl rfl rfl (fun w hS => ?_)
      replace hS := hS.recast (congrArg (blkA g3 55) (rset_full (vs := (apE (⟨1, 0, 0, 0, 0⟩ : StV) [(bas 1 none 0 none 0)] 1 (fun _ => 0) (cP y2) 1).cells) rfl))
      replace hS := hS.recast (show _ = blkA g3 55 [.int .i64 (apE (⟨1, 0, 0, 0, 0⟩ : StV) [(bas 1 none 0 none 0)] 1 (fun _ => 0) (cP y2) 1).kind, .int .i64 (apE (⟨1, 0, 0, 0, 0⟩ : StV) [(bas 1 none 0 none 0)] 1 (fun _ => 0) (cP y2) 1).account, .int .u64 (apE (⟨1, 0, 0, 0, 0⟩ : StV) [(bas 1 none 0 none 0)] 1 (fun _ => 0) (cP y2) 1).id, .int .u64 (apE (⟨1, 0, 0, 0, 0⟩ : StV) [(bas 1 none 0 none 0)] 1 (fun _ => 0) (cP y2) 1).other, .int .i64 (apE (⟨1, 0, 0, 0, 0⟩ : StV) [(bas 1 none 0 none 0)] 1 (fun _ => 0) (cP y2) 1).side, .int .i64 (apE (⟨1, 0, 0, 0, 0⟩ : StV) [(bas 1 none 0 none 0)] 1 (fun _ => 0) (cP y2) 1).price, .int .i64 (apE (⟨1, 0, 0, 0, 0⟩ : StV) [(bas 1 none 0 none 0)] 1 (fun _ => 0) (cP y2) 1).qty, .int .i64 (apE (⟨1, 0, 0, 0, 0⟩ : StV) [(bas 1 none 0 none 0)] 1 (fun _ => 0) (cP y2) 1).fee, .int .i64 (apE (⟨1, 0, 0, 0, 0⟩ : StV) [(bas 1 none 0 none 0)] 1 (fun _ => 0) (cP y2) 1).fee2, .int .i64 (apE (⟨1, 0, 0, 0, 0⟩ : StV) [(bas 1 none 0 none 0)] 1 (fun _ => 0) (cP y2) 1).code, .int .i64 (apE (⟨1, 0, 0, 0, 0⟩ : StV) [(bas 1 none 0 none 0)] 1 (fun _ => 0) (cP y2) 1).version, .int .u64 (apE (⟨1, 0, 0, 0, 0⟩ : StV) [(bas 1 none 0 none 0)] 1 (fun _ => 0) (cP y2) 1).index] from rfl)
      refine t_nil ?_
      refine ⟨.inr ⟨_, hS.pick (by repeat first | exact .here _ _ | assumption | apply Pick.there)⟩, ?_⟩
      refine p_q hap hsel 11 rfl rfl ⟨_, hS.pick (by repeat first | exact .here _ _ | assumption | apply Pick.there)⟩ (fun w hI => q_as (.int _ _) rfl) ?_
      refine p_end (by kernel_rfl) ?_
      refine c_seq ?_
      refine c_region ?_
      refine t_q (q_cast (v' := .agg (bdc (⟨1, 0, 0, 0, 0⟩ : StV) (some ⟨g, 0, none⟩) 1 (fun _ => 0)).toArray) (q_load_blk Try.isAgg34 Try.sizeOf34 rfl (hS.blk (by repeat first | exact .here _ _ | assumption | apply Pick.there)) rfl) (by rfl)) ?_
      refine t_q (q_cast (v' := .agg (cA).cells.toArray) (q_build (qs := [(0, 1), (1, 1), (2, 1), (3, 1), (4, 1), (5, 1), (6, 1), (7, 1), (8, 1), (9, 1), (10, 1), (11, 1), (12, 1), (13, 9)]) [(.int _ _), (.int _ _), (.int _ _), (.int _ _), (.int _ _), (.int _ _), (.int _ _), (.int _ _), (.int _ _), (.int _ _), (.int _ _), (.int _ _), (.int _ _), (.int _ _), (.slice _ _ _), (.int _ _), (.int _ _), (.slice _ _ _), (.int _ _), (.int _ _), (.int _ _), (.int _ _)] Try.zeroValue49 Try.runUnderlying49 ⟨rfl, Try.sizeOf3, rfl, Try.sizeOf26, rfl, Try.sizeOf26, rfl, Try.sizeOf3, rfl, Try.sizeOf26, rfl, Try.sizeOf3, rfl, Try.sizeOf3, rfl, Try.sizeOf3, rfl, Try.sizeOf2, rfl, Try.sizeOf2, rfl, Try.sizeOf3, rfl, Try.sizeOf3, rfl, Try.sizeOf26, rfl, Try.sizeOf47, trivial⟩ rfl rfl) (by rfl)) ?_
      refine t_call Try.call20 (apply_calls (s := (⟨1, 0, 0, 0, 0⟩ : StV)) (M := [(bas 1 none 0 none 0), (bas 2 none 0 none 0)]) (n := 1) (a := (fun _ => 0)) (c := cA) (i := 2) ((hS.pick (A := rdsA _) (by repeat first | exact .here _ _ | assumption | apply Pick.there)).pick (A := regA W g _ _) (by repeat first | exact .here _ _ | assumption | apply Pick.there)) (by decide) sb0 RuBy.z (show (0 : Int) ≤ 0 ∧ (0 : Int) < 18446744073709551616 by decide) (by decide)) rfl ?_
      rintro e w ⟨ps3, rfl, hs_ps3, hS⟩
      refine ⟨_, rfl, ?_⟩
      obtain ⟨e1, e2, e3, e4⟩ := lv2
      rw [e1, e2, e3]
      rw [e4] at hS
      refine t_q (q_mv (.tuple _) rfl) ?_
      refine t_q (q_extract rfl rfl) ?_
      refine t_q (q_extract rfl rfl) ?_
      refine t_q (q_extract rfl rfl) ?_
      refine t_alloc Try.zeroValue55 rfl hS (fun g5 w hS => ?_)
      refine t_store (v := (.agg _)) Try.sizeOf34 hS (by repeat first | exact .here _ _ | assumption | apply Pick.there) rfl rfl rfl rfl rfl rfl (fun w hS => ?_)
      replace hS := hS.recast (congrArg (blkA g1 34) (rset_full (vs := bdc (⟨1, 0, 0, 0, 0⟩ : StV) (some ⟨g, 0, none⟩) 1 (addT (fun _ => 0) 0 2)) rfl))
      replace hS := hS.recast (show _ = blkA g1 34 [.int .i64 (⟨1, 0, 0, 0, 0⟩ : StV).active, .int .i64 (⟨1, 0, 0, 0, 0⟩ : StV).previous, .int .i64 (⟨1, 0, 0, 0, 0⟩ : StV).pending, .int .u64 (⟨1, 0, 0, 0, 0⟩ : StV).at_, .int .i64 (⟨1, 0, 0, 0, 0⟩ : StV).shadow, .pointer (some ⟨g, 0, none⟩), .int .i64 1, .int .u64 ((addT (fun _ => 0) 0 2) 0), .int .u64 ((addT (fun _ => 0) 0 2) 1), .int .u64 ((addT (fun _ => 0) 0 2) 2), .int .u64 ((addT (fun _ => 0) 0 2) 3), .int .u64 ((addT (fun _ => 0) 0 2) 4), .int .u64 ((addT (fun _ => 0) 0 2) 5), .int .u64 ((addT (fun _ => 0) 0 2) 6)] from rfl)
      refine t_store (v := (.agg _)) Try.sizeOf55 hS (by repeat first | exact .here _ _ | assumption | apply Pick.there) rfl rfl rfl rfl rfl rfl (fun w hS => ?_)
      replace hS := hS.recast (congrArg (blkA g5 55) (rset_full (vs := (apE (⟨1, 0, 0, 0, 0⟩ : StV) [(bas 1 none 0 none 0), (bas 2 none 0 none 0)] 1 (fun _ => 0) cA 2).cells) rfl))
      replace hS := hS.recast (show _ = blkA g5 55 [.int .i64 (apE (⟨1, 0, 0, 0, 0⟩ : StV) [(bas 1 none 0 none 0), (bas 2 none 0 none 0)] 1 (fun _ => 0) cA 2).kind, .int .i64 (apE (⟨1, 0, 0, 0, 0⟩ : StV) [(bas 1 none 0 none 0), (bas 2 none 0 none 0)] 1 (fun _ => 0) cA 2).account, .int .u64 (apE (⟨1, 0, 0, 0, 0⟩ : StV) [(bas 1 none 0 none 0), (bas 2 none 0 none 0)] 1 (fun _ => 0) cA 2).id, .int .u64 (apE (⟨1, 0, 0, 0, 0⟩ : StV) [(bas 1 none 0 none 0), (bas 2 none 0 none 0)] 1 (fun _ => 0) cA 2).other, .int .i64 (apE (⟨1, 0, 0, 0, 0⟩ : StV) [(bas 1 none 0 none 0), (bas 2 none 0 none 0)] 1 (fun _ => 0) cA 2).side, .int .i64 (apE (⟨1, 0, 0, 0, 0⟩ : StV) [(bas 1 none 0 none 0), (bas 2 none 0 none 0)] 1 (fun _ => 0) cA 2).price, .int .i64 (apE (⟨1, 0, 0, 0, 0⟩ : StV) [(bas 1 none 0 none 0), (bas 2 none 0 none 0)] 1 (fun _ => 0) cA 2).qty, .int .i64 (apE (⟨1, 0, 0, 0, 0⟩ : StV) [(bas 1 none 0 none 0), (bas 2 none 0 none 0)] 1 (fun _ => 0) cA 2).fee, .int .i64 (apE (⟨1, 0, 0, 0, 0⟩ : StV) [(bas 1 none 0 none 0), (bas 2 none 0 none 0)] 1 (fun _ => 0) cA 2).fee2, .int .i64 (apE (⟨1, 0, 0, 0, 0⟩ : StV) [(bas 1 none 0 none 0), (bas 2 none 0 none 0)] 1 (fun _ => 0) cA 2).code, .int .i64 (apE (⟨1, 0, 0, 0, 0⟩ : StV) [(bas 1 none 0 none 0), (bas 2 none 0 none 0)] 1 (fun _ => 0) cA 2).version, .int .u64 (apE (⟨1, 0, 0, 0, 0⟩ : StV) [(bas 1 none 0 none 0), (bas 2 none 0 none 0)] 1 (fun _ => 0) cA 2).index] from rfl)
      refine t_q (q_as (.int _ _) rfl) ?_
      refine t_nil ?_
      refine c_seq ?_
      refine c_region ?_
      refine t_q (q_cast (v' := .agg (bdc (⟨1, 0, 0, 0, 0⟩ : StV) (some ⟨g, 0, none⟩) 1 (addT (fun _ => 0) 0 2)).toArray) (q_load_blk Try.isAgg34 Try.sizeOf34 rfl (hS.blk (by repeat first | exact .here _ _ | assumption | apply Pick.there)) rfl) (by rfl)) ?_
      refine t_q (q_cast (v' := .agg (cX).cells.toArray) (q_build (qs := [(0, 1), (1, 1), (2, 1), (3, 1), (4, 1), (5, 1), (6, 1), (7, 1), (8, 1), (9, 1), (10, 1), (11, 1), (12, 1), (13, 9)]) [(.int _ _), (.int _ _), (.int _ _), (.int _ _), (.int _ _), (.int _ _), (.int _ _), (.int _ _), (.int _ _), (.int _ _), (.int _ _), (.int _ _), (.int _ _), (.int _ _), (.slice _ _ _), (.int _ _), (.int _ _), (.slice _ _ _), (.int _ _), (.int _ _), (.int _ _), (.int _ _)] Try.zeroValue49 Try.runUnderlying49 ⟨rfl, Try.sizeOf3, rfl, Try.sizeOf26, rfl, Try.sizeOf26, rfl, Try.sizeOf3, rfl, Try.sizeOf26, rfl, Try.sizeOf3, rfl, Try.sizeOf3, rfl, Try.sizeOf3, rfl, Try.sizeOf2, rfl, Try.sizeOf2, rfl, Try.sizeOf3, rfl, Try.sizeOf3, rfl, Try.sizeOf26, rfl, Try.sizeOf47, trivial⟩ rfl rfl) (by rfl)) ?_
      refine t_call Try.call20 (apply_calls (s := (⟨1, 0, 0, 0, 0⟩ : StV)) (M := [(bas 1 none 0 none 0), (bas 2 none 0 none 0)]) (n := 1) (a := (addT (fun _ => 0) 0 2)) (c := cX) (i := 5) ((hS.pick (A := rdsA _) (by repeat first | exact .here _ _ | assumption | apply Pick.there)).pick (A := regA W g _ _) (by repeat first | exact .here _ _ | assumption | apply Pick.there)) (by decide) (addT_b sb0 0 2) RuBy.z (show (0 : Int) ≤ 9 ∧ (9 : Int) < 18446744073709551616 by decide) (by decide)) rfl ?_
      rintro e w ⟨ps4, rfl, hs_ps4, hS⟩
      refine ⟨_, rfl, ?_⟩
      obtain ⟨e1, e2, e3, e4, ek⟩ := lv3
      rw [e1, e2, e3]
      rw [e4] at hS
      refine t_q (q_mv (.tuple _) rfl) ?_
      refine t_q (q_extract rfl rfl) ?_
      refine t_q (q_extract rfl rfl) ?_
      refine t_q (q_extract rfl rfl) ?_
      refine t_alloc Try.zeroValue55 rfl hS (fun g7 w hS => ?_)
      refine t_store (v := (.agg _)) Try.sizeOf34 hS (by repeat first | exact .here _ _ | assumption | apply Pick.there) rfl rfl rfl rfl rfl rfl (fun w hS => ?_)
      replace hS := hS.recast (congrArg (blkA g1 34) (rset_full (vs := bdc (⟨1, 0, 2, 9, 0⟩ : StV) (some ⟨g, 0, none⟩) 1 (addT (fun _ => 0) 0 2)) rfl))
      replace hS := hS.recast (show _ = blkA g1 34 [.int .i64 (⟨1, 0, 2, 9, 0⟩ : StV).active, .int .i64 (⟨1, 0, 2, 9, 0⟩ : StV).previous, .int .i64 (⟨1, 0, 2, 9, 0⟩ : StV).pending, .int .u64 (⟨1, 0, 2, 9, 0⟩ : StV).at_, .int .i64 (⟨1, 0, 2, 9, 0⟩ : StV).shadow, .pointer (some ⟨g, 0, none⟩), .int .i64 1, .int .u64 ((addT (fun _ => 0) 0 2) 0), .int .u64 ((addT (fun _ => 0) 0 2) 1), .int .u64 ((addT (fun _ => 0) 0 2) 2), .int .u64 ((addT (fun _ => 0) 0 2) 3), .int .u64 ((addT (fun _ => 0) 0 2) 4), .int .u64 ((addT (fun _ => 0) 0 2) 5), .int .u64 ((addT (fun _ => 0) 0 2) 6)] from rfl)
      refine t_store (v := (.agg _)) Try.sizeOf55 hS (by repeat first | exact .here _ _ | assumption | apply Pick.there) rfl rfl rfl rfl rfl rfl (fun w hS => ?_)
      replace hS := hS.recast (congrArg (blkA g7 55) (rset_full (vs := (apE (⟨1, 0, 0, 0, 0⟩ : StV) [(bas 1 none 0 none 0), (bas 2 none 0 none 0)] 1 (addT (fun _ => 0) 0 2) cX 5).cells) rfl))
      replace hS := hS.recast (show _ = blkA g7 55 [.int .i64 (apE (⟨1, 0, 0, 0, 0⟩ : StV) [(bas 1 none 0 none 0), (bas 2 none 0 none 0)] 1 (addT (fun _ => 0) 0 2) cX 5).kind, .int .i64 (apE (⟨1, 0, 0, 0, 0⟩ : StV) [(bas 1 none 0 none 0), (bas 2 none 0 none 0)] 1 (addT (fun _ => 0) 0 2) cX 5).account, .int .u64 (apE (⟨1, 0, 0, 0, 0⟩ : StV) [(bas 1 none 0 none 0), (bas 2 none 0 none 0)] 1 (addT (fun _ => 0) 0 2) cX 5).id, .int .u64 (apE (⟨1, 0, 0, 0, 0⟩ : StV) [(bas 1 none 0 none 0), (bas 2 none 0 none 0)] 1 (addT (fun _ => 0) 0 2) cX 5).other, .int .i64 (apE (⟨1, 0, 0, 0, 0⟩ : StV) [(bas 1 none 0 none 0), (bas 2 none 0 none 0)] 1 (addT (fun _ => 0) 0 2) cX 5).side, .int .i64 (apE (⟨1, 0, 0, 0, 0⟩ : StV) [(bas 1 none 0 none 0), (bas 2 none 0 none 0)] 1 (addT (fun _ => 0) 0 2) cX 5).price, .int .i64 (apE (⟨1, 0, 0, 0, 0⟩ : StV) [(bas 1 none 0 none 0), (bas 2 none 0 none 0)] 1 (addT (fun _ => 0) 0 2) cX 5).qty, .int .i64 (apE (⟨1, 0, 0, 0, 0⟩ : StV) [(bas 1 none 0 none 0), (bas 2 none 0 none 0)] 1 (addT (fun _ => 0) 0 2) cX 5).fee, .int .i64 (apE (⟨1, 0, 0, 0, 0⟩ : StV) [(bas 1 none 0 none 0), (bas 2 none 0 none 0)] 1 (addT (fun _ => 0) 0 2) cX 5).fee2, .int .i64 (apE (⟨1, 0, 0, 0, 0⟩ : StV) [(bas 1 none 0 none 0), (bas 2 none 0 none 0)] 1 (addT (fun _ => 0) 0 2) cX 5).code, .int .i64 (apE (⟨1, 0, 0, 0, 0⟩ : StV) [(bas 1 none 0 none 0), (bas 2 none 0 none 0)] 1 (addT (fun _ => 0) 0 2) cX 5).version, .int .u64 (apE (⟨1, 0, 0, 0, 0⟩ : StV) [(bas 1 none 0 none 0), (bas 2 none 0 none 0)] 1 (addT (fun _ => 0) 0 2) cX 5).index] from rfl)
      refine t_q (q_as (.int _ _) rfl) ?_
      refine t_nil ?_
      refine c_seq ?_
      refine c_region ?_
      refine t_q (q_mv (.int _ _) rfl) ?_
      refine t_q (q_cast (v' := .bool true) (q_eql rfl rfl) (by rfl)) ?_
      refine t_q (q_mv (.bool _) rfl) ?_
      refine t_yes rfl rfl rfl ?_
      refine t_q (q_mv (.int _ _) rfl) ?_
      refine t_yes rfl rfl rfl ?_
      refine t_q (q_cast (v' := .bool true) (q_eql rfl rfl) (by rfl)) ?_
      refine t_q (q_pick_t rfl rfl) ?_
      refine t_q (q_mv (.bool _) rfl) ?_
      refine t_yes rfl rfl rfl ?_
      refine t_q (q_mv (.int _ _) rfl) ?_
      refine t_yes rfl rfl rfl ?_
      refine t_q (q_cast (v' := .bool true) (q_eql rfl rfl) (by rfl)) ?_
      refine t_q (q_pick_t rfl rfl) ?_
      refine t_q (q_mv (.bool _) rfl) ?_
      refine t_yes rfl rfl rfl ?_
      refine t_q (q_fieldAddr 0 Try.runUnderlying55 rfl Try.sizeOf3 (by decide) rfl rfl) ?_
      refine t_yes rfl rfl rfl ?_
      refine t_q (q_load1 Try.isAgg3 rfl (hS.cell (by repeat first | exact .here _ _ | assumption | apply Pick.there) rfl)) ?_
      refine t_yes rfl rfl rfl ?_
      refine t_q (q_cast (v' := .bool true) (q_eql rfl rfl) (congrArg Value.bool (decide_eq_true ek))) ?_
      refine t_q (q_pick_t rfl rfl) ?_
      refine t_q (q_mv (.bool _) rfl) ?_
      refine t_yes rfl rfl rfl ?_
      refine t_q (q_fieldAddr 0 Try.runUnderlying34 rfl Try.sizeOf28 (by decide) rfl rfl) ?_
      refine t_yes rfl rfl rfl ?_
      refine t_q (q_cast (v' := .agg (⟨1, 0, 2, 9, 0⟩ : StV).cells.toArray) (q_load_sub Try.isAgg28 Try.sizeOf28 rfl (hS.blk (by repeat first | exact .here _ _ | assumption | apply Pick.there)) (by show 0 + 0 + 5 ≤ 14; decide)) (by rfl)) ?_
      refine t_yes rfl rfl rfl ?_
      refine t_call Try.call27 (due_calls (x := (⟨1, 0, 2, 9, 0⟩ : StV)) (i := 8)) rfl ?_
      rintro e w ⟨rfl, hT⟩
      refine ⟨_, rfl, ?_⟩
      replace hS := hS.after hT
      refine t_yes rfl rfl rfl ?_
      refine t_q (q_cast (v' := .bool true) (q_eql rfl rfl) (by rfl)) ?_
      refine t_q (q_pick_t rfl rfl) ?_
      refine t_q (q_mv (.bool _) rfl) ?_
      refine t_yes rfl rfl rfl ?_
      refine t_q (q_fieldAddr 0 Try.runUnderlying34 rfl Try.sizeOf28 (by decide) rfl rfl) ?_
      refine t_yes rfl rfl rfl ?_
      refine t_q (q_cast (v' := .agg (⟨1, 0, 2, 9, 0⟩ : StV).cells.toArray) (q_load_sub Try.isAgg28 Try.sizeOf28 rfl (hS.blk (by repeat first | exact .here _ _ | assumption | apply Pick.there)) (by show 0 + 0 + 5 ≤ 14; decide)) (by rfl)) ?_
      refine t_yes rfl rfl rfl ?_
      refine t_call Try.call27 (due_calls (x := (⟨1, 0, 2, 9, 0⟩ : StV)) (i := 9)) rfl ?_
      rintro e w ⟨rfl, hT⟩
      refine ⟨_, rfl, ?_⟩
      replace hS := hS.after hT
      refine t_yes rfl rfl rfl ?_
      refine t_q (q_cast (v' := .bool true) (q_eql rfl rfl) (by rfl)) ?_
      refine t_q (q_pick_t rfl rfl) ?_
      refine t_q (q_as (.bool _) rfl) ?_
      refine t_nil ?_
      refine c_ret ?_
      refine r_one rfl rfl ?_
      exact ⟨rfl, hS.nil⟩
  ·
    refine t_alloc Try.zeroValue55 rfl hS (fun g3 w hS => ?_)
    refine t_nil ?_
    refine ⟨.inr ⟨_, hS.pick (by repeat first | exact .here _ _ | assumption | apply Pick.there)⟩, ?_⟩
    refine p_one 1 rfl (by kernel_rfl) ?_
    refine t_call Try.call22 (vof_calls (v := 2) hS (by decide)) rfl ?_
    rintro e w ⟨y2, rfl, hy2, hb2, hS⟩
    refine ⟨_, rfl, ?_⟩
    replace hS := rds_join ((hS.pick (A := rdsA ps) (by repeat first | exact .here _ _ | assumption | apply Pick.there)).pick (A := rdsA (ruP y2)) (by repeat first | exact .here _ _ | assumption | apply Pick.there))
    replace hS := St.reg_mono (hS.pick (A := regA W g _ ps) (by repeat first | exact .here _ _ | assumption | apply Pick.there)) (ps' := ruP y2 ++ ps) (fun p hp => List.mem_append_right _ hp)
    refine t_nil ?_
    refine ⟨.inr ⟨_, hS.pick (by repeat first | exact .here _ _ | assumption | apply Pick.there)⟩, ?_⟩
    refine p_q hap hsel 2 rfl rfl ⟨_, hS.pick (by repeat first | exact .here _ _ | assumption | apply Pick.there)⟩ (fun w hI => (q_cast (v' := .agg (cP y2).cells.toArray) (q_build (qs := [(0, 1), (1, 1), (2, 1), (3, 1), (4, 1), (5, 1), (6, 1), (7, 1), (8, 1), (9, 1), (10, 1), (11, 1), (12, 1), (13, 9)]) [.int .i64 9, .int .u64 0, .int .u64 0, .int .i64 0, .int .u64 0, .int .i64 0, .int .i64 0, .int .i64 0, .int .i64 0, .int .i64 0, .int .i64 0, .int .i64 0, .int .u64 0, .int .i64 y2.version, .slice y2.ticks.A y2.ticks.l.length y2.ticks.c, .int .i64 y2.lot, .int .i64 y2.band, .slice y2.fees.A y2.fees.l.length y2.fees.c, .int .i64 y2.round, .int .i64 y2.priority, .int .i64 y2.self, .int .i64 y2.layout] Try.zeroValue49 Try.runUnderlying49 ⟨rfl, Try.sizeOf3, rfl, Try.sizeOf26, rfl, Try.sizeOf26, rfl, Try.sizeOf3, rfl, Try.sizeOf26, rfl, Try.sizeOf3, rfl, Try.sizeOf3, rfl, Try.sizeOf3, rfl, Try.sizeOf2, rfl, Try.sizeOf2, rfl, Try.sizeOf3, rfl, Try.sizeOf3, rfl, Try.sizeOf26, rfl, Try.sizeOf47, trivial⟩ rfl rfl) (by rfl))) ?_
    refine p_one 3 rfl (by kernel_rfl) ?_
    refine t_call Try.call20 (apply_calls (s := (⟨1, 0, 0, 0, 0⟩ : StV)) (M := [(bas 1 none 0 none 0)]) (n := 1) (a := (fun _ => 0)) (c := cP y2) (i := 1) ((hS.pick (A := rdsA _) (by repeat first | exact .here _ _ | assumption | apply Pick.there)).pick (A := regA W g _ _) (by repeat first | exact .here _ _ | assumption | apply Pick.there)) (by decide) sb0 (hb2.mono fun p hp => List.mem_append_left _ hp) (show (0 : Int) ≤ 0 ∧ (0 : Int) < 18446744073709551616 by decide) (by decide)) rfl ?_
    rintro e w ⟨ps2, rfl, hs_ps2, hS⟩
    refine ⟨_, rfl, ?_⟩
    obtain ⟨e1, e2, e3, e4⟩ := lv1 hy2
    rw [e1, e2, e3]
    rw [e4] at hS
    refine t_nil ?_
    refine ⟨.inr ⟨_, hS.pick (by repeat first | exact .here _ _ | assumption | apply Pick.there)⟩, ?_⟩
    refine p_q hap hsel 4 rfl rfl ⟨_, hS.pick (by repeat first | exact .here _ _ | assumption | apply Pick.there)⟩ (fun w hI => q_mv (.tuple _) rfl) ?_
    refine p_q hap hsel 5 rfl rfl ⟨_, hS.pick (by repeat first | exact .here _ _ | assumption | apply Pick.there)⟩ (fun w hI => q_extract rfl rfl) ?_
    refine p_q hap hsel 6 rfl rfl ⟨_, hS.pick (by repeat first | exact .here _ _ | assumption | apply Pick.there)⟩ (fun w hI => q_extract rfl rfl) ?_
    refine p_q hap hsel 7 rfl rfl ⟨_, hS.pick (by repeat first | exact .here _ _ | assumption | apply Pick.there)⟩ (fun w hI => q_extract rfl rfl) ?_
    refine p_one 9 rfl (by kernel_rfl) ?_
    refine t_store (v := (.agg _)) Try.sizeOf34 hS (by repeat first | exact .here _ _ | assumption | apply Pick.there) rfl rfl rfl rfl rfl rfl (fun w hS => ?_)
    replace hS := hS.recast (congrArg (blkA g1 34) (rset_full (vs := bdc (⟨1, 0, 0, 0, 0⟩ : StV) (some ⟨g, 0, none⟩) 1 (fun _ => 0)) rfl))
    replace hS := hS.recast (show _ = blkA g1 34 [.int .i64 (⟨1, 0, 0, 0, 0⟩ : StV).active, .int .i64 (⟨1, 0, 0, 0, 0⟩ : StV).previous, .int .i64 (⟨1, 0, 0, 0, 0⟩ : StV).pending, .int .u64 (⟨1, 0, 0, 0, 0⟩ : StV).at_, .int .i64 (⟨1, 0, 0, 0, 0⟩ : StV).shadow, .pointer (some ⟨g, 0, none⟩), .int .i64 1, .int .u64 ((fun _ => 0) 0), .int .u64 ((fun _ => 0) 1), .int .u64 ((fun _ => 0) 2), .int .u64 ((fun _ => 0) 3), .int .u64 ((fun _ => 0) 4), .int .u64 ((fun _ => 0) 5), .int .u64 ((fun _ => 0) 6)] from rfl)
    refine t_nil ?_
    refine ⟨.inr ⟨_, hS.pick (by repeat first | exact .here _ _ | assumption | apply Pick.there)⟩, ?_⟩
    refine p_one 10 rfl (by kernel_rfl) ?_
    refine t_store (v := (.agg _)) Try.sizeOf55 hS (by repeat first | exact .here _ _ | assumption | apply Pick.there) rfl rfl rfl rfl rfl rfl (fun w hS => ?_)
    replace hS := hS.recast (congrArg (blkA g3 55) (rset_full (vs := (apE (⟨1, 0, 0, 0, 0⟩ : StV) [(bas 1 none 0 none 0)] 1 (fun _ => 0) (cP y2) 1).cells) rfl))
    replace hS := hS.recast (show _ = blkA g3 55 [.int .i64 (apE (⟨1, 0, 0, 0, 0⟩ : StV) [(bas 1 none 0 none 0)] 1 (fun _ => 0) (cP y2) 1).kind, .int .i64 (apE (⟨1, 0, 0, 0, 0⟩ : StV) [(bas 1 none 0 none 0)] 1 (fun _ => 0) (cP y2) 1).account, .int .u64 (apE (⟨1, 0, 0, 0, 0⟩ : StV) [(bas 1 none 0 none 0)] 1 (fun _ => 0) (cP y2) 1).id, .int .u64 (apE (⟨1, 0, 0, 0, 0⟩ : StV) [(bas 1 none 0 none 0)] 1 (fun _ => 0) (cP y2) 1).other, .int .i64 (apE (⟨1, 0, 0, 0, 0⟩ : StV) [(bas 1 none 0 none 0)] 1 (fun _ => 0) (cP y2) 1).side, .int .i64 (apE (⟨1, 0, 0, 0, 0⟩ : StV) [(bas 1 none 0 none 0)] 1 (fun _ => 0) (cP y2) 1).price, .int .i64 (apE (⟨1, 0, 0, 0, 0⟩ : StV) [(bas 1 none 0 none 0)] 1 (fun _ => 0) (cP y2) 1).qty, .int .i64 (apE (⟨1, 0, 0, 0, 0⟩ : StV) [(bas 1 none 0 none 0)] 1 (fun _ => 0) (cP y2) 1).fee, .int .i64 (apE (⟨1, 0, 0, 0, 0⟩ : StV) [(bas 1 none 0 none 0)] 1 (fun _ => 0) (cP y2) 1).fee2, .int .i64 (apE (⟨1, 0, 0, 0, 0⟩ : StV) [(bas 1 none 0 none 0)] 1 (fun _ => 0) (cP y2) 1).code, .int .i64 (apE (⟨1, 0, 0, 0, 0⟩ : StV) [(bas 1 none 0 none 0)] 1 (fun _ => 0) (cP y2) 1).version, .int .u64 (apE (⟨1, 0, 0, 0, 0⟩ : StV) [(bas 1 none 0 none 0)] 1 (fun _ => 0) (cP y2) 1).index] from rfl)
    refine t_nil ?_
    refine ⟨.inr ⟨_, hS.pick (by repeat first | exact .here _ _ | assumption | apply Pick.there)⟩, ?_⟩
    refine p_q hap hsel 11 rfl rfl ⟨_, hS.pick (by repeat first | exact .here _ _ | assumption | apply Pick.there)⟩ (fun w hI => q_as (.int _ _) rfl) ?_
    refine p_end (by kernel_rfl) ?_
    refine c_seq ?_
    refine c_region ?_
    refine t_q (q_cast (v' := .agg (bdc (⟨1, 0, 0, 0, 0⟩ : StV) (some ⟨g, 0, none⟩) 1 (fun _ => 0)).toArray) (q_load_blk Try.isAgg34 Try.sizeOf34 rfl (hS.blk (by repeat first | exact .here _ _ | assumption | apply Pick.there)) rfl) (by rfl)) ?_
    refine t_q (q_cast (v' := .agg (cA).cells.toArray) (q_build (qs := [(0, 1), (1, 1), (2, 1), (3, 1), (4, 1), (5, 1), (6, 1), (7, 1), (8, 1), (9, 1), (10, 1), (11, 1), (12, 1), (13, 9)]) [(.int _ _), (.int _ _), (.int _ _), (.int _ _), (.int _ _), (.int _ _), (.int _ _), (.int _ _), (.int _ _), (.int _ _), (.int _ _), (.int _ _), (.int _ _), (.int _ _), (.slice _ _ _), (.int _ _), (.int _ _), (.slice _ _ _), (.int _ _), (.int _ _), (.int _ _), (.int _ _)] Try.zeroValue49 Try.runUnderlying49 ⟨rfl, Try.sizeOf3, rfl, Try.sizeOf26, rfl, Try.sizeOf26, rfl, Try.sizeOf3, rfl, Try.sizeOf26, rfl, Try.sizeOf3, rfl, Try.sizeOf3, rfl, Try.sizeOf3, rfl, Try.sizeOf2, rfl, Try.sizeOf2, rfl, Try.sizeOf3, rfl, Try.sizeOf3, rfl, Try.sizeOf26, rfl, Try.sizeOf47, trivial⟩ rfl rfl) (by rfl)) ?_
    refine t_call Try.call20 (apply_calls (s := (⟨1, 0, 0, 0, 0⟩ : StV)) (M := [(bas 1 none 0 none 0), (bas 2 none 0 none 0)]) (n := 1) (a := (fun _ => 0)) (c := cA) (i := 2) ((hS.pick (A := rdsA _) (by repeat first | exact .here _ _ | assumption | apply Pick.there)).pick (A := regA W g _ _) (by repeat first | exact .here _ _ | assumption | apply Pick.there)) (by decide) sb0 RuBy.z (show (0 : Int) ≤ 0 ∧ (0 : Int) < 18446744073709551616 by decide) (by decide)) rfl ?_
    rintro e w ⟨ps3, rfl, hs_ps3, hS⟩
    refine ⟨_, rfl, ?_⟩
    obtain ⟨e1, e2, e3, e4⟩ := lv2
    rw [e1, e2, e3]
    rw [e4] at hS
    refine t_q (q_mv (.tuple _) rfl) ?_
    refine t_q (q_extract rfl rfl) ?_
    refine t_q (q_extract rfl rfl) ?_
    refine t_q (q_extract rfl rfl) ?_
    refine t_alloc Try.zeroValue55 rfl hS (fun g5 w hS => ?_)
    refine t_store (v := (.agg _)) Try.sizeOf34 hS (by repeat first | exact .here _ _ | assumption | apply Pick.there) rfl rfl rfl rfl rfl rfl (fun w hS => ?_)
    replace hS := hS.recast (congrArg (blkA g1 34) (rset_full (vs := bdc (⟨1, 0, 0, 0, 0⟩ : StV) (some ⟨g, 0, none⟩) 1 (addT (fun _ => 0) 0 2)) rfl))
    replace hS := hS.recast (show _ = blkA g1 34 [.int .i64 (⟨1, 0, 0, 0, 0⟩ : StV).active, .int .i64 (⟨1, 0, 0, 0, 0⟩ : StV).previous, .int .i64 (⟨1, 0, 0, 0, 0⟩ : StV).pending, .int .u64 (⟨1, 0, 0, 0, 0⟩ : StV).at_, .int .i64 (⟨1, 0, 0, 0, 0⟩ : StV).shadow, .pointer (some ⟨g, 0, none⟩), .int .i64 1, .int .u64 ((addT (fun _ => 0) 0 2) 0), .int .u64 ((addT (fun _ => 0) 0 2) 1), .int .u64 ((addT (fun _ => 0) 0 2) 2), .int .u64 ((addT (fun _ => 0) 0 2) 3), .int .u64 ((addT (fun _ => 0) 0 2) 4), .int .u64 ((addT (fun _ => 0) 0 2) 5), .int .u64 ((addT (fun _ => 0) 0 2) 6)] from rfl)
    refine t_store (v := (.agg _)) Try.sizeOf55 hS (by repeat first | exact .here _ _ | assumption | apply Pick.there) rfl rfl rfl rfl rfl rfl (fun w hS => ?_)
    replace hS := hS.recast (congrArg (blkA g5 55) (rset_full (vs := (apE (⟨1, 0, 0, 0, 0⟩ : StV) [(bas 1 none 0 none 0), (bas 2 none 0 none 0)] 1 (fun _ => 0) cA 2).cells) rfl))
    replace hS := hS.recast (show _ = blkA g5 55 [.int .i64 (apE (⟨1, 0, 0, 0, 0⟩ : StV) [(bas 1 none 0 none 0), (bas 2 none 0 none 0)] 1 (fun _ => 0) cA 2).kind, .int .i64 (apE (⟨1, 0, 0, 0, 0⟩ : StV) [(bas 1 none 0 none 0), (bas 2 none 0 none 0)] 1 (fun _ => 0) cA 2).account, .int .u64 (apE (⟨1, 0, 0, 0, 0⟩ : StV) [(bas 1 none 0 none 0), (bas 2 none 0 none 0)] 1 (fun _ => 0) cA 2).id, .int .u64 (apE (⟨1, 0, 0, 0, 0⟩ : StV) [(bas 1 none 0 none 0), (bas 2 none 0 none 0)] 1 (fun _ => 0) cA 2).other, .int .i64 (apE (⟨1, 0, 0, 0, 0⟩ : StV) [(bas 1 none 0 none 0), (bas 2 none 0 none 0)] 1 (fun _ => 0) cA 2).side, .int .i64 (apE (⟨1, 0, 0, 0, 0⟩ : StV) [(bas 1 none 0 none 0), (bas 2 none 0 none 0)] 1 (fun _ => 0) cA 2).price, .int .i64 (apE (⟨1, 0, 0, 0, 0⟩ : StV) [(bas 1 none 0 none 0), (bas 2 none 0 none 0)] 1 (fun _ => 0) cA 2).qty, .int .i64 (apE (⟨1, 0, 0, 0, 0⟩ : StV) [(bas 1 none 0 none 0), (bas 2 none 0 none 0)] 1 (fun _ => 0) cA 2).fee, .int .i64 (apE (⟨1, 0, 0, 0, 0⟩ : StV) [(bas 1 none 0 none 0), (bas 2 none 0 none 0)] 1 (fun _ => 0) cA 2).fee2, .int .i64 (apE (⟨1, 0, 0, 0, 0⟩ : StV) [(bas 1 none 0 none 0), (bas 2 none 0 none 0)] 1 (fun _ => 0) cA 2).code, .int .i64 (apE (⟨1, 0, 0, 0, 0⟩ : StV) [(bas 1 none 0 none 0), (bas 2 none 0 none 0)] 1 (fun _ => 0) cA 2).version, .int .u64 (apE (⟨1, 0, 0, 0, 0⟩ : StV) [(bas 1 none 0 none 0), (bas 2 none 0 none 0)] 1 (fun _ => 0) cA 2).index] from rfl)
    refine t_q (q_as (.int _ _) rfl) ?_
    refine t_nil ?_
    refine c_seq ?_
    refine c_region ?_
    refine t_q (q_cast (v' := .agg (bdc (⟨1, 0, 0, 0, 0⟩ : StV) (some ⟨g, 0, none⟩) 1 (addT (fun _ => 0) 0 2)).toArray) (q_load_blk Try.isAgg34 Try.sizeOf34 rfl (hS.blk (by repeat first | exact .here _ _ | assumption | apply Pick.there)) rfl) (by rfl)) ?_
    refine t_q (q_cast (v' := .agg (cX).cells.toArray) (q_build (qs := [(0, 1), (1, 1), (2, 1), (3, 1), (4, 1), (5, 1), (6, 1), (7, 1), (8, 1), (9, 1), (10, 1), (11, 1), (12, 1), (13, 9)]) [(.int _ _), (.int _ _), (.int _ _), (.int _ _), (.int _ _), (.int _ _), (.int _ _), (.int _ _), (.int _ _), (.int _ _), (.int _ _), (.int _ _), (.int _ _), (.int _ _), (.slice _ _ _), (.int _ _), (.int _ _), (.slice _ _ _), (.int _ _), (.int _ _), (.int _ _), (.int _ _)] Try.zeroValue49 Try.runUnderlying49 ⟨rfl, Try.sizeOf3, rfl, Try.sizeOf26, rfl, Try.sizeOf26, rfl, Try.sizeOf3, rfl, Try.sizeOf26, rfl, Try.sizeOf3, rfl, Try.sizeOf3, rfl, Try.sizeOf3, rfl, Try.sizeOf2, rfl, Try.sizeOf2, rfl, Try.sizeOf3, rfl, Try.sizeOf3, rfl, Try.sizeOf26, rfl, Try.sizeOf47, trivial⟩ rfl rfl) (by rfl)) ?_
    refine t_call Try.call20 (apply_calls (s := (⟨1, 0, 0, 0, 0⟩ : StV)) (M := [(bas 1 none 0 none 0), (bas 2 none 0 none 0)]) (n := 1) (a := (addT (fun _ => 0) 0 2)) (c := cX) (i := 5) ((hS.pick (A := rdsA _) (by repeat first | exact .here _ _ | assumption | apply Pick.there)).pick (A := regA W g _ _) (by repeat first | exact .here _ _ | assumption | apply Pick.there)) (by decide) (addT_b sb0 0 2) RuBy.z (show (0 : Int) ≤ 9 ∧ (9 : Int) < 18446744073709551616 by decide) (by decide)) rfl ?_
    rintro e w ⟨ps4, rfl, hs_ps4, hS⟩
    refine ⟨_, rfl, ?_⟩
    obtain ⟨e1, e2, e3, e4, ek⟩ := lv3
    rw [e1, e2, e3]
    rw [e4] at hS
    refine t_q (q_mv (.tuple _) rfl) ?_
    refine t_q (q_extract rfl rfl) ?_
    refine t_q (q_extract rfl rfl) ?_
    refine t_q (q_extract rfl rfl) ?_
    refine t_alloc Try.zeroValue55 rfl hS (fun g7 w hS => ?_)
    refine t_store (v := (.agg _)) Try.sizeOf34 hS (by repeat first | exact .here _ _ | assumption | apply Pick.there) rfl rfl rfl rfl rfl rfl (fun w hS => ?_)
    replace hS := hS.recast (congrArg (blkA g1 34) (rset_full (vs := bdc (⟨1, 0, 2, 9, 0⟩ : StV) (some ⟨g, 0, none⟩) 1 (addT (fun _ => 0) 0 2)) rfl))
    replace hS := hS.recast (show _ = blkA g1 34 [.int .i64 (⟨1, 0, 2, 9, 0⟩ : StV).active, .int .i64 (⟨1, 0, 2, 9, 0⟩ : StV).previous, .int .i64 (⟨1, 0, 2, 9, 0⟩ : StV).pending, .int .u64 (⟨1, 0, 2, 9, 0⟩ : StV).at_, .int .i64 (⟨1, 0, 2, 9, 0⟩ : StV).shadow, .pointer (some ⟨g, 0, none⟩), .int .i64 1, .int .u64 ((addT (fun _ => 0) 0 2) 0), .int .u64 ((addT (fun _ => 0) 0 2) 1), .int .u64 ((addT (fun _ => 0) 0 2) 2), .int .u64 ((addT (fun _ => 0) 0 2) 3), .int .u64 ((addT (fun _ => 0) 0 2) 4), .int .u64 ((addT (fun _ => 0) 0 2) 5), .int .u64 ((addT (fun _ => 0) 0 2) 6)] from rfl)
    refine t_store (v := (.agg _)) Try.sizeOf55 hS (by repeat first | exact .here _ _ | assumption | apply Pick.there) rfl rfl rfl rfl rfl rfl (fun w hS => ?_)
    replace hS := hS.recast (congrArg (blkA g7 55) (rset_full (vs := (apE (⟨1, 0, 0, 0, 0⟩ : StV) [(bas 1 none 0 none 0), (bas 2 none 0 none 0)] 1 (addT (fun _ => 0) 0 2) cX 5).cells) rfl))
    replace hS := hS.recast (show _ = blkA g7 55 [.int .i64 (apE (⟨1, 0, 0, 0, 0⟩ : StV) [(bas 1 none 0 none 0), (bas 2 none 0 none 0)] 1 (addT (fun _ => 0) 0 2) cX 5).kind, .int .i64 (apE (⟨1, 0, 0, 0, 0⟩ : StV) [(bas 1 none 0 none 0), (bas 2 none 0 none 0)] 1 (addT (fun _ => 0) 0 2) cX 5).account, .int .u64 (apE (⟨1, 0, 0, 0, 0⟩ : StV) [(bas 1 none 0 none 0), (bas 2 none 0 none 0)] 1 (addT (fun _ => 0) 0 2) cX 5).id, .int .u64 (apE (⟨1, 0, 0, 0, 0⟩ : StV) [(bas 1 none 0 none 0), (bas 2 none 0 none 0)] 1 (addT (fun _ => 0) 0 2) cX 5).other, .int .i64 (apE (⟨1, 0, 0, 0, 0⟩ : StV) [(bas 1 none 0 none 0), (bas 2 none 0 none 0)] 1 (addT (fun _ => 0) 0 2) cX 5).side, .int .i64 (apE (⟨1, 0, 0, 0, 0⟩ : StV) [(bas 1 none 0 none 0), (bas 2 none 0 none 0)] 1 (addT (fun _ => 0) 0 2) cX 5).price, .int .i64 (apE (⟨1, 0, 0, 0, 0⟩ : StV) [(bas 1 none 0 none 0), (bas 2 none 0 none 0)] 1 (addT (fun _ => 0) 0 2) cX 5).qty, .int .i64 (apE (⟨1, 0, 0, 0, 0⟩ : StV) [(bas 1 none 0 none 0), (bas 2 none 0 none 0)] 1 (addT (fun _ => 0) 0 2) cX 5).fee, .int .i64 (apE (⟨1, 0, 0, 0, 0⟩ : StV) [(bas 1 none 0 none 0), (bas 2 none 0 none 0)] 1 (addT (fun _ => 0) 0 2) cX 5).fee2, .int .i64 (apE (⟨1, 0, 0, 0, 0⟩ : StV) [(bas 1 none 0 none 0), (bas 2 none 0 none 0)] 1 (addT (fun _ => 0) 0 2) cX 5).code, .int .i64 (apE (⟨1, 0, 0, 0, 0⟩ : StV) [(bas 1 none 0 none 0), (bas 2 none 0 none 0)] 1 (addT (fun _ => 0) 0 2) cX 5).version, .int .u64 (apE (⟨1, 0, 0, 0, 0⟩ : StV) [(bas 1 none 0 none 0), (bas 2 none 0 none 0)] 1 (addT (fun _ => 0) 0 2) cX 5).index] from rfl)
    refine t_q (q_as (.int _ _) rfl) ?_
    refine t_nil ?_
    refine c_seq ?_
    refine c_region ?_
    refine t_q (q_mv (.int _ _) rfl) ?_
    refine t_q (q_cast (v' := .bool true) (q_eql rfl rfl) (by rfl)) ?_
    refine t_q (q_mv (.bool _) rfl) ?_
    refine t_yes rfl rfl rfl ?_
    refine t_q (q_mv (.int _ _) rfl) ?_
    refine t_yes rfl rfl rfl ?_
    refine t_q (q_cast (v' := .bool true) (q_eql rfl rfl) (by rfl)) ?_
    refine t_q (q_pick_t rfl rfl) ?_
    refine t_q (q_mv (.bool _) rfl) ?_
    refine t_yes rfl rfl rfl ?_
    refine t_q (q_mv (.int _ _) rfl) ?_
    refine t_yes rfl rfl rfl ?_
    refine t_q (q_cast (v' := .bool true) (q_eql rfl rfl) (by rfl)) ?_
    refine t_q (q_pick_t rfl rfl) ?_
    refine t_q (q_mv (.bool _) rfl) ?_
    refine t_yes rfl rfl rfl ?_
    refine t_q (q_fieldAddr 0 Try.runUnderlying55 rfl Try.sizeOf3 (by decide) rfl rfl) ?_
    refine t_yes rfl rfl rfl ?_
    refine t_q (q_load1 Try.isAgg3 rfl (hS.cell (by repeat first | exact .here _ _ | assumption | apply Pick.there) rfl)) ?_
    refine t_yes rfl rfl rfl ?_
    refine t_q (q_cast (v' := .bool true) (q_eql rfl rfl) (congrArg Value.bool (decide_eq_true ek))) ?_
    refine t_q (q_pick_t rfl rfl) ?_
    refine t_q (q_mv (.bool _) rfl) ?_
    refine t_yes rfl rfl rfl ?_
    refine t_q (q_fieldAddr 0 Try.runUnderlying34 rfl Try.sizeOf28 (by decide) rfl rfl) ?_
    refine t_yes rfl rfl rfl ?_
    refine t_q (q_cast (v' := .agg (⟨1, 0, 2, 9, 0⟩ : StV).cells.toArray) (q_load_sub Try.isAgg28 Try.sizeOf28 rfl (hS.blk (by repeat first | exact .here _ _ | assumption | apply Pick.there)) (by show 0 + 0 + 5 ≤ 14; decide)) (by rfl)) ?_
    refine t_yes rfl rfl rfl ?_
    refine t_call Try.call27 (due_calls (x := (⟨1, 0, 2, 9, 0⟩ : StV)) (i := 8)) rfl ?_
    rintro e w ⟨rfl, hT⟩
    refine ⟨_, rfl, ?_⟩
    replace hS := hS.after hT
    refine t_yes rfl rfl rfl ?_
    refine t_q (q_cast (v' := .bool true) (q_eql rfl rfl) (by rfl)) ?_
    refine t_q (q_pick_t rfl rfl) ?_
    refine t_q (q_mv (.bool _) rfl) ?_
    refine t_yes rfl rfl rfl ?_
    refine t_q (q_fieldAddr 0 Try.runUnderlying34 rfl Try.sizeOf28 (by decide) rfl rfl) ?_
    refine t_yes rfl rfl rfl ?_
    refine t_q (q_cast (v' := .agg (⟨1, 0, 2, 9, 0⟩ : StV).cells.toArray) (q_load_sub Try.isAgg28 Try.sizeOf28 rfl (hS.blk (by repeat first | exact .here _ _ | assumption | apply Pick.there)) (by show 0 + 0 + 5 ≤ 14; decide)) (by rfl)) ?_
    refine t_yes rfl rfl rfl ?_
    refine t_call Try.call27 (due_calls (x := (⟨1, 0, 2, 9, 0⟩ : StV)) (i := 9)) rfl ?_
    rintro e w ⟨rfl, hT⟩
    refine ⟨_, rfl, ?_⟩
    replace hS := hS.after hT
    refine t_yes rfl rfl rfl ?_
    refine t_q (q_cast (v' := .bool true) (q_eql rfl rfl) (by rfl)) ?_
    refine t_q (q_pick_t rfl rfl) ?_
    refine t_q (q_as (.bool _) rfl) ?_
    refine t_nil ?_
    refine c_ret ?_
    refine r_one rfl rfl ?_
    exact ⟨rfl, hS.nil⟩
end Go.Proofs.Ytmgobaojioaioaa
