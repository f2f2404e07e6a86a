/- Whether a board is sound: the walk. -/
import Derived.Test.YtmgobaojioaioaaYg
import Derived.Test.YtmgobaojioaioaaYj
import Derived.Test.YtmgobaojioaioaaYk
import Derived.Test.YtmgobaojioaioaaWq
namespace Go.Proofs.Ytmgobaojioaioaa
open Go Go.RowKit Go.Lib
variable {W : World}
theorem qgput3_calls {w : World} {R : List Asn} {q : Nat} {A : Option Addr} {c : Nat} {Y : List RuV} {ps : List RdP} {x : RuV} (hS : St W w (blkA q 141 [.slice A Y.length c] :: rowA 47 9 A Y.length c (Y.flatMap RuV.cells) :: rdsA ps :: R)) (hs : Srt (Y.map nf)) (hY16 : Y.length ≤ 16) (hb : RuBy W ps x) : Calls Try.prog 23 #[.pointer (some ⟨q, 0, none⟩), .agg x.cells.toArray] w fun e w' => e = .returned (.int .i64 (gputE (Y.map nf) x)) ∧ ∃ (A' : Option Addr) (c' : Nat) (Y' : List RuV), Y'.map nf = gputM (Y.map nf) x ∧ St W w' (blkA q 141 [.slice A' Y'.length c'] :: rowA 47 9 A' Y'.length c' (Y'.flatMap RuV.cells) :: rdsA ps :: R) := by
  refine (qgput_calls hS hs hY16 hb).mono fun e w' h => ?_
  obtain ⟨rfl, ⟨h0, A', c', hS⟩ | ⟨h0, hS⟩⟩ := h
  · exact ⟨rfl, A', c', _, by rw [rgI_map]; unfold gputM; rw [if_pos h0], hS⟩
  · exact ⟨rfl, A, c, Y, by unfold gputM; rw [if_neg h0], hS⟩
theorem gputM_nf {M : List RuV} {x y : RuV} (h : nf x = nf y) : gputM M x = gputM M y := show gputM M (nf x) = gputM M (nf y) from by rw [h]
theorem greg_one {y : RuV} (h : nf y = (bas 1 none 0 none 0)) : GReg ([y].map nf) := by
  have hg : goodR y = true := by rw [← nf_good, h, bas_goodP]; decide
  have h1 := GReg.nil.put y
  rw [(gput_nil y).2, hg, if_pos rfl] at h1
  exact h1
attribute [local irreducible] blkA rowA rdsA mapA regA
set_option maxHeartbeats 4000000 in
set_option maxRecDepth 100000 in
theorem VersionSound_calls {x : StV} (hx : x.In) {A0 : Option Addr} {c0 : Nat} {vs : List Int} (hR : RdI W .i64 A0 vs) (hvm : vs.length ≤ 9223372036854775807) (hvr : ∀ j, j < vs.length → -9223372036854775808 ≤ vs.getD j 0 ∧ vs.getD j 0 ≤ 9223372036854775807) {c : CmdV} : Calls Try.prog 4 #[.agg x.cells.toArray, .slice A0 vs.length c0, .agg c.cells.toArray] W fun e w' => e = .returned (.bool true) ∧ St W w' [] := by
  have hS := St.init W
  refine calls_of_wpE (args := [_, _, _]) Try.func4 rfl rfl rfl ?_
  refine c_seq ?_
  refine c_region ?_
  refine t_box (v := (.agg _)) rfl rfl hS (fun g3 w hS => ?_)
  replace hS := hS.recast (show _ = blkA g3 28 [.int .i64 x.active, .int .i64 x.previous, .int .i64 x.pending, .int .u64 x.at_, .int .i64 x.shadow] from rfl)
  refine t_box (v := (.agg _)) rfl rfl hS (fun g5 w hS => ?_)
  replace hS := hS.recast (show _ = blkA g5 49 [.int .i64 c.kind, .int .u64 c.client, .int .u64 c.req, .int .i64 c.account, .int .u64 c.id, .int .i64 c.side, .int .i64 c.typ, .int .i64 c.asset, .int .i64 c.price, .int .i64 c.qty, .int .i64 c.version, .int .i64 c.replica, .int .u64 c.at_, .int .i64 c.rules.version, .slice c.rules.ticks.A c.rules.ticks.l.length c.rules.ticks.c, .int .i64 c.rules.lot, .int .i64 c.rules.band, .slice c.rules.fees.A c.rules.fees.l.length c.rules.fees.c, .int .i64 c.rules.round, .int .i64 c.rules.priority, .int .i64 c.rules.self, .int .i64 c.rules.layout] from rfl)
  refine t_q (q_assign) ?_
  refine t_nil ?_
  refine c_seq ?_
  refine c_seq ?_
  refine c_region ?_
  refine t_q (q_mv (.slice _ _ _) rfl) ?_
  refine t_q (q_len_slice Try.runUnderlying59 rfl) ?_
  refine t_q (q_gtr rfl rfl) ?_
  refine t_q (q_mv (.bool _) rfl) ?_
  refine t_case 17 rfl ?_ ?_
  · intro hg2
    have hg2d := of_decide_eq_true hg2
    refine t_no rfl rfl (by rw [hg2]; decide) ?_
    refine t_no rfl rfl (by rw [hg2]; decide) ?_
    refine t_no rfl rfl (by rw [hg2]; decide) ?_
    refine t_no rfl rfl (by rw [hg2]; decide) ?_
    refine t_q (q_pick_t rfl hg2) ?_
    refine t_nil ?_
    refine c_cond_t rfl rfl ?_
    refine c_seq ?_
    refine c_region ?_
    refine t_call Try.call16 (vlives_calls) rfl ?_
    rintro e w ⟨rfl, hT⟩
    refine ⟨_, rfl, ?_⟩
    replace hS := hS.after hT
    refine t_q (q_as (.bool _) rfl) ?_
    refine t_nil ?_
    refine c_ret ?_
    refine r_one rfl rfl ?_
    exact ⟨rfl, hS.nil⟩
  · intro hg2
    have hg2d := of_decide_eq_false hg2
    refine t_yes rfl rfl hg2 ?_
    refine t_q (q_cast (v' := .agg c.cells.toArray) (q_load_blk Try.isAgg49 Try.sizeOf49 rfl (hS.blk (by repeat first | exact .here _ _ | assumption | apply Pick.there)) rfl) (by rfl)) ?_
    refine t_yes rfl rfl hg2 ?_
    refine t_buildSlice Try.runUnderlying22 Try.sizeOf49 Try.zeroValue49 rfl rfl (by intro v hv; simp at hv; try (first | (subst hv; rfl) | (rcases hv with rfl | rfl <;> rfl))) (by decide) (by decide) hS (fun g19 w hS => ?_)
    replace hS := hS.recast (show _ = rowA 49 22 (some ⟨g19, 0, none⟩) 1 1 (([c] : List CmdV).flatMap CmdV.cells) from rfl)
    refine t_yes rfl rfl hg2 ?_
    refine t_call Try.call15 (vlight_calls (l := [c]) (hS.rowRdL (l := [c]) (by repeat first | exact .here _ _ | assumption | apply Pick.there) rfl (fun _ => rfl)) (show (1 : Nat) ≤ 9223372036854775807 by decide)) rfl ?_
    rintro e w ⟨rfl, hT⟩
    refine ⟨_, rfl, ?_⟩
    replace hS := hS.after hT
    refine t_yes rfl rfl hg2 ?_
    refine t_q (q_not rfl) ?_
    refine t_q (q_pick_f rfl hg2) ?_
    refine t_nil ?_
    refine c_cond rfl ?_ ?_
    · intro hc5
      refine c_seq ?_
      refine c_region ?_
      refine t_call Try.call16 (vlives_calls) rfl ?_
      rintro e w ⟨rfl, hT⟩
      refine ⟨_, rfl, ?_⟩
      replace hS := hS.after hT
      refine t_q (q_as (.bool _) rfl) ?_
      refine t_nil ?_
      refine c_ret ?_
      refine r_one rfl rfl ?_
      exact ⟨rfl, hS.nil⟩
    · intro hc5
      refine c_skip ?_
      refine c_seq ?_
      refine c_region ?_
      refine t_call Try.call17 (begin_calls (n := 2) hS (by decide)) rfl ?_
      rintro e w ⟨g, q, Aq, cq, ps0, y0, rfl, hy0, hb0, hS⟩
      refine ⟨_, rfl, ?_⟩
      rw [show [(bas 1 none 0 none 0)] = [y0].map nf from by rw [List.map_cons, hy0]; rfl] at hS
      refine t_q (q_mv (.tuple _) rfl) ?_
      refine t_q (q_extract rfl rfl) ?_
      refine t_q (q_extract rfl rfl) ?_
      refine t_alloc Try.zeroValue34 rfl hS (fun g7 w hS => ?_)
      refine t_alloc Try.zeroValue41 rfl hS (fun g8 w hS => ?_)
      refine t_store (v := (.agg _)) Try.sizeOf34 hS (by repeat first | exact .here _ _ | assumption | apply Pick.there) rfl rfl rfl rfl rfl rfl (fun w hS => ?_)
      replace hS := hS.recast (congrArg (blkA g7 34) (rset_full (vs := bdc (⟨1, 0, 0, 0, 0⟩ : StV) (some ⟨g, 0, none⟩) 2 (fun _ => 0)) rfl))
      replace hS := hS.recast (show blkA g7 34 _ = blkA g7 34 [.int .i64 (⟨1, 0, 0, 0, 0⟩ : StV).active, .int .i64 (⟨1, 0, 0, 0, 0⟩ : StV).previous, .int .i64 (⟨1, 0, 0, 0, 0⟩ : StV).pending, .int .u64 (⟨1, 0, 0, 0, 0⟩ : StV).at_, .int .i64 (⟨1, 0, 0, 0, 0⟩ : StV).shadow, .pointer (some ⟨g, 0, none⟩), .int .i64 2, .int .u64 ((fun _ => 0) 0), .int .u64 ((fun _ => 0) 1), .int .u64 ((fun _ => 0) 2), .int .u64 ((fun _ => 0) 3), .int .u64 ((fun _ => 0) 4), .int .u64 ((fun _ => 0) 5), .int .u64 ((fun _ => 0) 6)] from rfl)
      refine t_store (v := (.agg _)) Try.sizeOf41 hS (by repeat first | exact .here _ _ | assumption | apply Pick.there) rfl rfl rfl rfl rfl rfl (fun w hS => ?_)
      replace hS := hS.recast (congrArg (blkA g8 41) (rset_full (vs := [.int .i64 (⟨1, 0, 0, 0, 0⟩ : StV).active, .int .i64 (⟨1, 0, 0, 0, 0⟩ : StV).previous, .int .i64 (⟨1, 0, 0, 0, 0⟩ : StV).pending, .int .u64 (⟨1, 0, 0, 0, 0⟩ : StV).at_, .int .i64 (⟨1, 0, 0, 0, 0⟩ : StV).shadow, .pointer (some ⟨q, 0, none⟩), .int .i64 2, .slice none 0 0]) rfl))
      replace hS := hS.recast (show blkA g8 41 _ = blkA g8 41 [.int .i64 (⟨1, 0, 0, 0, 0⟩ : StV).active, .int .i64 (⟨1, 0, 0, 0, 0⟩ : StV).previous, .int .i64 (⟨1, 0, 0, 0, 0⟩ : StV).pending, .int .u64 (⟨1, 0, 0, 0, 0⟩ : StV).at_, .int .i64 (⟨1, 0, 0, 0, 0⟩ : StV).shadow, .pointer (some ⟨q, 0, none⟩), .int .i64 2, .slice none 0 0] from rfl)
      refine t_nil ?_
      refine c_seq ?_
      refine c_seq ?_
      refine c_region ?_
      refine t_q (q_mv (.slice _ _ _) rfl) ?_
      refine t_q (q_len_slice Try.runUnderlying59 rfl) ?_
      refine t_q (q_move) ?_
      refine t_nil ?_
      refine c_block ?_
      refine c_loop [10, 30, 31, 32, 33, 34, 35, 36, 37, 38, 39, 40, 41, 42, 43, 44] (fun k σ w => ∃ (j : Nat) (ps : List RdP) (A : Option Addr) (c1 : Nat) (Y : List RuV), σ 30 = .int .i64 (j : Int) ∧ j ≤ vs.length ∧ vs.length - j ≤ k ∧ GReg (Y.map nf) ∧ St W w [blkA g7 34 [.int .i64 (⟨1, 0, 0, 0, 0⟩ : StV).active, .int .i64 (⟨1, 0, 0, 0, 0⟩ : StV).previous, .int .i64 (⟨1, 0, 0, 0, 0⟩ : StV).pending, .int .u64 (⟨1, 0, 0, 0, 0⟩ : StV).at_, .int .i64 (⟨1, 0, 0, 0, 0⟩ : StV).shadow, .pointer (some ⟨g, 0, none⟩), .int .i64 2, .int .u64 ((fun _ => 0) 0), .int .u64 ((fun _ => 0) 1), .int .u64 ((fun _ => 0) 2), .int .u64 ((fun _ => 0) 3), .int .u64 ((fun _ => 0) 4), .int .u64 ((fun _ => 0) 5), .int .u64 ((fun _ => 0) 6)], blkA g8 41 [.int .i64 (⟨1, 0, 0, 0, 0⟩ : StV).active, .int .i64 (⟨1, 0, 0, 0, 0⟩ : StV).previous, .int .i64 (⟨1, 0, 0, 0, 0⟩ : StV).pending, .int .u64 (⟨1, 0, 0, 0, 0⟩ : StV).at_, .int .i64 (⟨1, 0, 0, 0, 0⟩ : StV).shadow, .pointer (some ⟨q, 0, none⟩), .int .i64 2, .slice none 0 0], regA W g (Y.map nf) ps, blkA q 141 [.slice A Y.length c1], rowA 47 9 A Y.length c1 (Y.flatMap RuV.cells), rdsA ps, blkA g3 28 [.int .i64 x.active, .int .i64 x.previous, .int .i64 x.pending, .int .u64 x.at_, .int .i64 x.shadow], blkA g5 49 [.int .i64 c.kind, .int .u64 c.client, .int .u64 c.req, .int .i64 c.account, .int .u64 c.id, .int .i64 c.side, .int .i64 c.typ, .int .i64 c.asset, .int .i64 c.price, .int .i64 c.qty, .int .i64 c.version, .int .i64 c.replica, .int .u64 c.at_, .int .i64 c.rules.version, .slice c.rules.ticks.A c.rules.ticks.l.length c.rules.ticks.c, .int .i64 c.rules.lot, .int .i64 c.rules.band, .slice c.rules.fees.A c.rules.fees.l.length c.rules.fees.c, .int .i64 c.rules.round, .int .i64 c.rules.priority, .int .i64 c.rules.self, .int .i64 c.rules.layout]]) (vs.length) rfl (⟨0, ps0, Aq, cq, [y0], rfl, by omega, by omega, greg_one hy0, ((((((((((hS.pick (A := blkA g5 49 [.int .i64 c.kind, .int .u64 c.client, .int .u64 c.req, .int .i64 c.account, .int .u64 c.id, .int .i64 c.side, .int .i64 c.typ, .int .i64 c.asset, .int .i64 c.price, .int .i64 c.qty, .int .i64 c.version, .int .i64 c.replica, .int .u64 c.at_, .int .i64 c.rules.version, .slice c.rules.ticks.A c.rules.ticks.l.length c.rules.ticks.c, .int .i64 c.rules.lot, .int .i64 c.rules.band, .slice c.rules.fees.A c.rules.fees.l.length c.rules.fees.c, .int .i64 c.rules.round, .int .i64 c.rules.priority, .int .i64 c.rules.self, .int .i64 c.rules.layout]) (by repeat first | exact .here _ _ | assumption | apply Pick.there)).pick (A := blkA g3 28 [.int .i64 x.active, .int .i64 x.previous, .int .i64 x.pending, .int .u64 x.at_, .int .i64 x.shadow]) (by repeat first | exact .here _ _ | assumption | apply Pick.there)).pick (A := rdsA ps0) (by repeat first | exact .here _ _ | assumption | apply Pick.there)).pick (A := rowA 47 9 Aq [y0].length cq ([y0].flatMap RuV.cells)) (by repeat first | exact .here _ _ | assumption | apply Pick.there)).pick (A := blkA q 141 [.slice Aq [y0].length cq]) (by repeat first | exact .here _ _ | assumption | apply Pick.there)).pick (A := regA W g ([y0].map nf) ps0) (by repeat first | exact .here _ _ | assumption | apply Pick.there)).pick (A := blkA g8 41 [.int .i64 (⟨1, 0, 0, 0, 0⟩ : StV).active, .int .i64 (⟨1, 0, 0, 0, 0⟩ : StV).previous, .int .i64 (⟨1, 0, 0, 0, 0⟩ : StV).pending, .int .u64 (⟨1, 0, 0, 0, 0⟩ : StV).at_, .int .i64 (⟨1, 0, 0, 0, 0⟩ : StV).shadow, .pointer (some ⟨q, 0, none⟩), .int .i64 2, .slice none 0 0]) (by repeat first | exact .here _ _ | assumption | apply Pick.there)).pick (A := blkA g7 34 [.int .i64 (⟨1, 0, 0, 0, 0⟩ : StV).active, .int .i64 (⟨1, 0, 0, 0, 0⟩ : StV).previous, .int .i64 (⟨1, 0, 0, 0, 0⟩ : StV).pending, .int .u64 (⟨1, 0, 0, 0, 0⟩ : StV).at_, .int .i64 (⟨1, 0, 0, 0, 0⟩ : StV).shadow, .pointer (some ⟨g, 0, none⟩), .int .i64 2, .int .u64 ((fun _ => 0) 0), .int .u64 ((fun _ => 0) 1), .int .u64 ((fun _ => 0) 2), .int .u64 ((fun _ => 0) 3), .int .u64 ((fun _ => 0) 4), .int .u64 ((fun _ => 0) 5), .int .u64 ((fun _ => 0) 6)]) (by repeat first | exact .here _ _ | assumption | apply Pick.there))).front [_, _, _, _, _, _, _, _])⟩) ?_
      skip
      rintro k σ w ⟨j, ps, A, c1, Y, h30, hj, hk, hG, hS⟩
      refine c_know 30 h30 ?_
      clear h30
      have hY16 : Y.length ≤ 16 := by have := hG.len; rwa [List.length_map] at this
      refine c_seq ?_
      refine c_region ?_
      refine t_q (q_lss rfl rfl) ?_
      refine t_nil ?_
      refine c_seq ?_
      refine c_cond rfl ?_ ?_
      · intro hc11
        have hc11d := of_decide_eq_true hc11
        refine c_skip ?_
        refine c_seq ?_
        refine c_block ?_
        refine c_seq ?_
        refine c_region ?_
        first | refine t_index_nat Try.runUnderlying59 Try.sizeOf3 (hR.st hS) rfl rfl (by omega) (fun ad12 hl12 hx12 => ?_) | refine t_index Try.runUnderlying59 Try.sizeOf3 (hR.st hS) rfl rfl (by omega) (fun ad12 hl12 hx12 => ?_)
        refine t_q (q_cast (v' := .int .i64 (vs.getD j 0)) (q_load1 Try.isAgg3 rfl (hx12 0 _ rfl)) (by rfl)) ?_
        refine t_q (q_as (.int _ _) rfl) ?_
        refine t_nil ?_
        refine c_seq ?_
        refine c_draw ?_
        refine d_keep (blkA g7 34 [.int .i64 (⟨1, 0, 0, 0, 0⟩ : StV).active, .int .i64 (⟨1, 0, 0, 0, 0⟩ : StV).previous, .int .i64 (⟨1, 0, 0, 0, 0⟩ : StV).pending, .int .u64 (⟨1, 0, 0, 0, 0⟩ : StV).at_, .int .i64 (⟨1, 0, 0, 0, 0⟩ : StV).shadow, .pointer (some ⟨g, 0, none⟩), .int .i64 2, .int .u64 ((fun _ => 0) 0), .int .u64 ((fun _ => 0) 1), .int .u64 ((fun _ => 0) 2), .int .u64 ((fun _ => 0) 3), .int .u64 ((fun _ => 0) 4), .int .u64 ((fun _ => 0) 5), .int .u64 ((fun _ => 0) 6)]) 5 [0, 1, 2, 3, 4] [0, 1, 2, 3, 4] hS rfl (by kernel_rfl) (by kernel_rfl) (by kernel_rfl) (by kernel_rfl) (fun hap hsel w hS => ?_)
        refine p_q hap hsel 0 rfl rfl ⟨_, hS.pick (by repeat first | exact .here _ _ | assumption | apply Pick.there)⟩ (fun w hI => q_fieldAddr 5 Try.runUnderlying34 rfl Try.sizeOf29 (by decide) rfl rfl) ?_
        refine p_q hap hsel 1 rfl rfl ⟨_, hS.pick (by repeat first | exact .here _ _ | assumption | apply Pick.there)⟩ (fun w hI => q_load1 Try.isAgg29 rfl (hI.choose_spec.cell (by repeat first | exact .here _ _ | assumption | apply Pick.there) rfl)) ?_
        refine p_q hap hsel 2 rfl rfl ⟨_, hS.pick (by repeat first | exact .here _ _ | assumption | apply Pick.there)⟩ (fun w hI => q_mv (.int _ _) rfl) ?_
        refine p_one 3 rfl (by kernel_rfl) ?_
        refine t_call Try.call22 (vof_calls (v := vs.getD j 0) hS (hvr j (by omega))) rfl ?_
        rintro e w ⟨y1, rfl, hn_y1, hb_y1, hS⟩
        refine ⟨_, rfl, ?_⟩
        replace hS := rds_join ((hS.pick (A := rdsA ps) (by repeat first | exact .here _ _ | assumption | apply Pick.there)).pick (A := rdsA (ruP y1)) (by repeat first | exact .here _ _ | assumption | apply Pick.there))
        replace hS := St.reg_mono (hS.pick (A := regA W g _ ps) (by repeat first | exact .here _ _ | assumption | apply Pick.there)) (ps' := ruP y1 ++ ps) (fun p hp => List.mem_append_right _ hp)
        refine t_nil ?_
        refine ⟨.inr ⟨_, hS.pick (by repeat first | exact .here _ _ | assumption | apply Pick.there)⟩, ?_⟩
        refine p_one 4 rfl (by kernel_rfl) ?_
        refine t_call Try.call21 (rgput_calls (x := y1) ((hS.pick (A := rdsA _) (by repeat first | exact .here _ _ | assumption | apply Pick.there)).pick (A := regA W g _ _) (by repeat first | exact .here _ _ | assumption | apply Pick.there)) (hb_y1.mono fun p hp => List.mem_append_left _ hp)) rfl ?_
        rintro e w ⟨ps1, rfl, hs1, hS⟩
        refine ⟨_, rfl, ?_⟩
        refine t_nil ?_
        refine ⟨.inl (by kernel_rfl), ?_⟩
        refine p_end (by kernel_rfl) ?_
        refine c_draw ?_
        refine d_keep (blkA g8 41 [.int .i64 (⟨1, 0, 0, 0, 0⟩ : StV).active, .int .i64 (⟨1, 0, 0, 0, 0⟩ : StV).previous, .int .i64 (⟨1, 0, 0, 0, 0⟩ : StV).pending, .int .u64 (⟨1, 0, 0, 0, 0⟩ : StV).at_, .int .i64 (⟨1, 0, 0, 0, 0⟩ : StV).shadow, .pointer (some ⟨q, 0, none⟩), .int .i64 2, .slice none 0 0]) 5 [0, 1, 2, 3, 4] [0, 1, 2, 3, 4] hS rfl (by kernel_rfl) (by kernel_rfl) (by kernel_rfl) (by kernel_rfl) (fun hap hsel w hS => ?_)
        refine p_q hap hsel 0 rfl rfl ⟨_, hS.pick (by repeat first | exact .here _ _ | assumption | apply Pick.there)⟩ (fun w hI => q_fieldAddr 5 Try.runUnderlying41 rfl Try.sizeOf36 (by decide) rfl rfl) ?_
        refine p_q hap hsel 1 rfl rfl ⟨_, hS.pick (by repeat first | exact .here _ _ | assumption | apply Pick.there)⟩ (fun w hI => q_load1 Try.isAgg36 rfl (hI.choose_spec.cell (by repeat first | exact .here _ _ | assumption | apply Pick.there) rfl)) ?_
        refine p_q hap hsel 2 rfl rfl ⟨_, hS.pick (by repeat first | exact .here _ _ | assumption | apply Pick.there)⟩ (fun w hI => q_mv (.int _ _) rfl) ?_
        refine p_one 3 rfl (by kernel_rfl) ?_
        refine t_call Try.call22 (vof_calls (v := vs.getD j 0) hS (hvr j (by omega))) rfl ?_
        rintro e w ⟨y2, rfl, hn_y2, hb_y2, hS⟩
        refine ⟨_, rfl, ?_⟩
        replace hS := rds_join ((hS.pick (A := rdsA ps1) (by repeat first | exact .here _ _ | assumption | apply Pick.there)).pick (A := rdsA (ruP y2)) (by repeat first | exact .here _ _ | assumption | apply Pick.there))
        replace hS := St.reg_mono (hS.pick (A := regA W g _ ps1) (by repeat first | exact .here _ _ | assumption | apply Pick.there)) (ps' := ruP y2 ++ ps1) (fun p hp => List.mem_append_right _ hp)
        refine t_nil ?_
        refine ⟨.inr ⟨_, hS.pick (by repeat first | exact .here _ _ | assumption | apply Pick.there)⟩, ?_⟩
        refine p_one 4 rfl (by kernel_rfl) ?_
        refine t_call Try.call23 (qgput3_calls (ps := ruP y2 ++ ps1) (x := y2) (((hS.pick (A := rdsA _) (by repeat first | exact .here _ _ | assumption | apply Pick.there)).pick (A := rowA 47 9 A Y.length c1 (Y.flatMap RuV.cells)) (by repeat first | exact .here _ _ | assumption | apply Pick.there)).pick (A := blkA q 141 [.slice A Y.length c1]) (by repeat first | exact .here _ _ | assumption | apply Pick.there)) hG.srt hY16 (hb_y2.mono fun p hp => List.mem_append_left _ hp)) rfl ?_
        rintro e w ⟨rfl, A', c', Y', hY', hS⟩
        refine ⟨_, rfl, ?_⟩
        refine t_nil ?_
        refine ⟨.inl (by kernel_rfl), ?_⟩
        refine p_end (by kernel_rfl) ?_
        refine c_region ?_
        refine t_q (q_add_i64 rfl rfl (by omega)) ?_
        refine t_q (q_mv (.int _ _) rfl) ?_
        refine t_nil ?_
        have hYY : Y'.map nf = gputM (Y.map nf) y1 := by rw [hY']; exact gputM_nf (by rw [hn_y1, hn_y2])
        rw [← hYY] at hS
        exact ⟨k - 1, by omega, j + 1, ruP y2 ++ ps1, A', c', Y', rfl, by omega, by omega, (by rw [hYY]; exact hG.put _), (((((((((hS.pick (A := blkA g5 49 [.int .i64 c.kind, .int .u64 c.client, .int .u64 c.req, .int .i64 c.account, .int .u64 c.id, .int .i64 c.side, .int .i64 c.typ, .int .i64 c.asset, .int .i64 c.price, .int .i64 c.qty, .int .i64 c.version, .int .i64 c.replica, .int .u64 c.at_, .int .i64 c.rules.version, .slice c.rules.ticks.A c.rules.ticks.l.length c.rules.ticks.c, .int .i64 c.rules.lot, .int .i64 c.rules.band, .slice c.rules.fees.A c.rules.fees.l.length c.rules.fees.c, .int .i64 c.rules.round, .int .i64 c.rules.priority, .int .i64 c.rules.self, .int .i64 c.rules.layout]) (by repeat first | exact .here _ _ | assumption | apply Pick.there)).pick (A := blkA g3 28 [.int .i64 x.active, .int .i64 x.previous, .int .i64 x.pending, .int .u64 x.at_, .int .i64 x.shadow]) (by repeat first | exact .here _ _ | assumption | apply Pick.there)).pick (A := rdsA _) (by repeat first | exact .here _ _ | assumption | apply Pick.there)).pick (A := rowA 47 9 A' Y'.length c' (Y'.flatMap RuV.cells)) (by repeat first | exact .here _ _ | assumption | apply Pick.there)).pick (A := blkA q 141 [.slice A' Y'.length c']) (by repeat first | exact .here _ _ | assumption | apply Pick.there)).pick (A := regA W g (Y'.map nf) _) (by repeat first | exact .here _ _ | assumption | apply Pick.there)).pick (A := blkA g8 41 [.int .i64 (⟨1, 0, 0, 0, 0⟩ : StV).active, .int .i64 (⟨1, 0, 0, 0, 0⟩ : StV).previous, .int .i64 (⟨1, 0, 0, 0, 0⟩ : StV).pending, .int .u64 (⟨1, 0, 0, 0, 0⟩ : StV).at_, .int .i64 (⟨1, 0, 0, 0, 0⟩ : StV).shadow, .pointer (some ⟨q, 0, none⟩), .int .i64 2, .slice none 0 0]) (by repeat first | exact .here _ _ | assumption | apply Pick.there)).pick (A := blkA g7 34 [.int .i64 (⟨1, 0, 0, 0, 0⟩ : StV).active, .int .i64 (⟨1, 0, 0, 0, 0⟩ : StV).previous, .int .i64 (⟨1, 0, 0, 0, 0⟩ : StV).pending, .int .u64 (⟨1, 0, 0, 0, 0⟩ : StV).at_, .int .i64 (⟨1, 0, 0, 0, 0⟩ : StV).shadow, .pointer (some ⟨g, 0, none⟩), .int .i64 2, .int .u64 ((fun _ => 0) 0), .int .u64 ((fun _ => 0) 1), .int .u64 ((fun _ => 0) 2), .int .u64 ((fun _ => 0) 3), .int .u64 ((fun _ => 0) 4), .int .u64 ((fun _ => 0) 5), .int .u64 ((fun _ => 0) 6)]) (by repeat first | exact .here _ _ | assumption | apply Pick.there))).front [_, _, _, _, _, _, _, _]⟩
      · intro hc11
        have hc11d := of_decide_eq_false hc11
        refine c_exit ?_
        refine ite_t rfl ?_
        refine c_seq ?_
        refine c_draw ?_
        refine d_keep (blkA g3 28 [.int .i64 x.active, .int .i64 x.previous, .int .i64 x.pending, .int .u64 x.at_, .int .i64 x.shadow]) 6 [0, 1, 2, 3, 4, 5] [0, 2, 3, 1, 4, 5] hS rfl (by kernel_rfl) (by kernel_rfl) (by kernel_rfl) (by kernel_rfl) (fun hap hsel w hS => ?_)
        refine p_q hap hsel 0 rfl rfl ⟨_, hS.pick (by repeat first | exact .here _ _ | assumption | apply Pick.there)⟩ (fun w hI => (q_cast (v' := .agg x.cells.toArray) (q_load_blk Try.isAgg28 Try.sizeOf28 rfl (hI.choose_spec.blk (by repeat first | exact .here _ _ | assumption | apply Pick.there)) rfl) (by rfl))) ?_
        refine p_q hap hsel 1 rfl rfl ⟨_, hS.pick (by repeat first | exact .here _ _ | assumption | apply Pick.there)⟩ (fun w hI => (q_cast (v' := .agg x.cells.toArray) (q_load_blk Try.isAgg28 Try.sizeOf28 rfl (hI.choose_spec.blk (by repeat first | exact .here _ _ | assumption | apply Pick.there)) rfl) (by rfl))) ?_
        refine p_q hap hsel 2 rfl rfl ⟨_, hS.pick (by repeat first | exact .here _ _ | assumption | apply Pick.there)⟩ (fun w hI => q_fieldAddr 0 Try.runUnderlying34 rfl Try.sizeOf28 (by decide) rfl rfl) ?_
        refine p_one 3 rfl (by kernel_rfl) ?_
        refine t_store (v := (.agg _)) Try.sizeOf28 hS (by repeat first | exact .here _ _ | assumption | apply Pick.there) rfl rfl rfl rfl rfl rfl (fun w hS => ?_)
        replace hS := hS.recast (show blkA g7 34 _ = blkA g7 34 [.int .i64 x.active, .int .i64 x.previous, .int .i64 x.pending, .int .u64 x.at_, .int .i64 x.shadow, .pointer (some ⟨g, 0, none⟩), .int .i64 2, .int .u64 ((fun _ => 0) 0), .int .u64 ((fun _ => 0) 1), .int .u64 ((fun _ => 0) 2), .int .u64 ((fun _ => 0) 3), .int .u64 ((fun _ => 0) 4), .int .u64 ((fun _ => 0) 5), .int .u64 ((fun _ => 0) 6)] from rfl)
        refine t_nil ?_
        refine ⟨.inr ⟨_, hS.pick (by repeat first | exact .here _ _ | assumption | apply Pick.there)⟩, ?_⟩
        refine p_q hap hsel 4 rfl rfl ⟨_, hS.pick (by repeat first | exact .here _ _ | assumption | apply Pick.there)⟩ (fun w hI => q_fieldAddr 0 Try.runUnderlying41 rfl Try.sizeOf35 (by decide) rfl rfl) ?_
        refine p_one 5 rfl (by kernel_rfl) ?_
        refine t_store (v := (.agg _)) Try.sizeOf35 hS (by repeat first | exact .here _ _ | assumption | apply Pick.there) rfl rfl rfl rfl rfl rfl (fun w hS => ?_)
        replace hS := hS.recast (show blkA g8 41 _ = blkA g8 41 [.int .i64 x.active, .int .i64 x.previous, .int .i64 x.pending, .int .u64 x.at_, .int .i64 x.shadow, .pointer (some ⟨q, 0, none⟩), .int .i64 2, .slice none 0 0] from rfl)
        refine t_nil ?_
        refine ⟨.inl (by kernel_rfl), ?_⟩
        refine p_end (by kernel_rfl) ?_
        refine c_seq ?_
        refine c_seq ?_
        refine c_draw ?_
        refine d_keep2 (blkA g7 34 [.int .i64 x.active, .int .i64 x.previous, .int .i64 x.pending, .int .u64 x.at_, .int .i64 x.shadow, .pointer (some ⟨g, 0, none⟩), .int .i64 2, .int .u64 ((fun _ => 0) 0), .int .u64 ((fun _ => 0) 1), .int .u64 ((fun _ => 0) 2), .int .u64 ((fun _ => 0) 3), .int .u64 ((fun _ => 0) 4), .int .u64 ((fun _ => 0) 5), .int .u64 ((fun _ => 0) 6)]) (blkA g8 41 [.int .i64 x.active, .int .i64 x.previous, .int .i64 x.pending, .int .u64 x.at_, .int .i64 x.shadow, .pointer (some ⟨q, 0, none⟩), .int .i64 2, .slice none 0 0]) 5 [0, 1, 2, 3, 4] [0, 1, 2, 3, 4] hS rfl (by kernel_rfl) (by kernel_rfl) (by kernel_rfl) (by kernel_rfl) (fun hap hsel w hS => ?_)
        refine p_q hap hsel 0 rfl rfl ⟨_, ((hS.pick (A := blkA g8 41 [.int .i64 x.active, .int .i64 x.previous, .int .i64 x.pending, .int .u64 x.at_, .int .i64 x.shadow, .pointer (some ⟨q, 0, none⟩), .int .i64 2, .slice none 0 0]) (by repeat first | exact .here _ _ | assumption | apply Pick.there)).pick (A := blkA g7 34 [.int .i64 x.active, .int .i64 x.previous, .int .i64 x.pending, .int .u64 x.at_, .int .i64 x.shadow, .pointer (some ⟨g, 0, none⟩), .int .i64 2, .int .u64 ((fun _ => 0) 0), .int .u64 ((fun _ => 0) 1), .int .u64 ((fun _ => 0) 2), .int .u64 ((fun _ => 0) 3), .int .u64 ((fun _ => 0) 4), .int .u64 ((fun _ => 0) 5), .int .u64 ((fun _ => 0) 6)]) (by repeat first | exact .here _ _ | assumption | apply Pick.there))⟩ (fun w hI => (q_cast (v' := .agg (bdc x (some ⟨g, 0, none⟩) 2 (fun _ => 0)).toArray) (q_load_blk Try.isAgg34 Try.sizeOf34 rfl (hI.choose_spec.blk (by repeat first | exact .here _ _ | assumption | apply Pick.there)) rfl) (by rfl))) ?_
        refine p_q hap hsel 2 rfl rfl ⟨_, ((hS.pick (A := blkA g8 41 [.int .i64 x.active, .int .i64 x.previous, .int .i64 x.pending, .int .u64 x.at_, .int .i64 x.shadow, .pointer (some ⟨q, 0, none⟩), .int .i64 2, .slice none 0 0]) (by repeat first | exact .here _ _ | assumption | apply Pick.there)).pick (A := blkA g7 34 [.int .i64 x.active, .int .i64 x.previous, .int .i64 x.pending, .int .u64 x.at_, .int .i64 x.shadow, .pointer (some ⟨g, 0, none⟩), .int .i64 2, .int .u64 ((fun _ => 0) 0), .int .u64 ((fun _ => 0) 1), .int .u64 ((fun _ => 0) 2), .int .u64 ((fun _ => 0) 3), .int .u64 ((fun _ => 0) 4), .int .u64 ((fun _ => 0) 5), .int .u64 ((fun _ => 0) 6)]) (by repeat first | exact .here _ _ | assumption | apply Pick.there))⟩ (fun w hI => (q_cast (v' := .agg (([.int .i64 x.active, .int .i64 x.previous, .int .i64 x.pending, .int .u64 x.at_, .int .i64 x.shadow, .pointer (some ⟨q, 0, none⟩), .int .i64 2, .slice none 0 0] : List Value)).toArray) (q_load_blk Try.isAgg41 Try.sizeOf41 rfl (hI.choose_spec.blk (by repeat first | exact .here _ _ | assumption | apply Pick.there)) rfl) (by rfl))) ?_
        refine p_one 1 rfl (by kernel_rfl) ?_
        refine t_call Try.call24 (sound_calls (s := x) (n := 2) (a := (fun _ => 0)) ((hS.pick (A := rdsA _) (by repeat first | exact .here _ _ | assumption | apply Pick.there)).pick (A := regA W g _ _) (by repeat first | exact .here _ _ | assumption | apply Pick.there))) rfl ?_
        rintro e w ⟨rfl, hS⟩
        refine ⟨_, rfl, ?_⟩
        refine t_nil ?_
        refine ⟨.inr ⟨_, ((hS.pick (A := blkA g8 41 [.int .i64 x.active, .int .i64 x.previous, .int .i64 x.pending, .int .u64 x.at_, .int .i64 x.shadow, .pointer (some ⟨q, 0, none⟩), .int .i64 2, .slice none 0 0]) (by repeat first | exact .here _ _ | assumption | apply Pick.there)).pick (A := blkA g7 34 [.int .i64 x.active, .int .i64 x.previous, .int .i64 x.pending, .int .u64 x.at_, .int .i64 x.shadow, .pointer (some ⟨g, 0, none⟩), .int .i64 2, .int .u64 ((fun _ => 0) 0), .int .u64 ((fun _ => 0) 1), .int .u64 ((fun _ => 0) 2), .int .u64 ((fun _ => 0) 3), .int .u64 ((fun _ => 0) 4), .int .u64 ((fun _ => 0) 5), .int .u64 ((fun _ => 0) 6)]) (by repeat first | exact .here _ _ | assumption | apply Pick.there))⟩, ?_⟩
        refine p_one 3 rfl (by kernel_rfl) ?_
        refine t_call Try.call25 (qsound_calls (s := x) (n := 2) ((hS.pick (A := rowA 47 9 A Y.length c1 (Y.flatMap RuV.cells)) (by repeat first | exact .here _ _ | assumption | apply Pick.there)).pick (A := blkA q 141 [.slice A Y.length c1]) (by repeat first | exact .here _ _ | assumption | apply Pick.there)) hG.srt hY16) rfl ?_
        rintro e w ⟨rfl, hS⟩
        refine ⟨_, rfl, ?_⟩
        refine t_nil ?_
        refine ⟨.inr ⟨_, ((hS.pick (A := blkA g8 41 [.int .i64 x.active, .int .i64 x.previous, .int .i64 x.pending, .int .u64 x.at_, .int .i64 x.shadow, .pointer (some ⟨q, 0, none⟩), .int .i64 2, .slice none 0 0]) (by repeat first | exact .here _ _ | assumption | apply Pick.there)).pick (A := blkA g7 34 [.int .i64 x.active, .int .i64 x.previous, .int .i64 x.pending, .int .u64 x.at_, .int .i64 x.shadow, .pointer (some ⟨g, 0, none⟩), .int .i64 2, .int .u64 ((fun _ => 0) 0), .int .u64 ((fun _ => 0) 1), .int .u64 ((fun _ => 0) 2), .int .u64 ((fun _ => 0) 3), .int .u64 ((fun _ => 0) 4), .int .u64 ((fun _ => 0) 5), .int .u64 ((fun _ => 0) 6)]) (by repeat first | exact .here _ _ | assumption | apply Pick.there))⟩, ?_⟩
        refine p_q hap hsel 4 rfl rfl ⟨_, ((hS.pick (A := blkA g8 41 [.int .i64 x.active, .int .i64 x.previous, .int .i64 x.pending, .int .u64 x.at_, .int .i64 x.shadow, .pointer (some ⟨q, 0, none⟩), .int .i64 2, .slice none 0 0]) (by repeat first | exact .here _ _ | assumption | apply Pick.there)).pick (A := blkA g7 34 [.int .i64 x.active, .int .i64 x.previous, .int .i64 x.pending, .int .u64 x.at_, .int .i64 x.shadow, .pointer (some ⟨g, 0, none⟩), .int .i64 2, .int .u64 ((fun _ => 0) 0), .int .u64 ((fun _ => 0) 1), .int .u64 ((fun _ => 0) 2), .int .u64 ((fun _ => 0) 3), .int .u64 ((fun _ => 0) 4), .int .u64 ((fun _ => 0) 5), .int .u64 ((fun _ => 0) 6)]) (by repeat first | exact .here _ _ | assumption | apply Pick.there))⟩ (fun w hI => (q_cast (v' := .bool false) (q_neq_bool Try.runUnderlying4 rfl rfl) (by simp))) ?_
        refine p_end (by kernel_rfl) ?_
        refine c_cond_f rfl rfl ?_
        refine c_skip ?_
        refine c_seq ?_
        refine c_region ?_
        refine t_q (q_fieldAddr 5 Try.runUnderlying34 rfl Try.sizeOf29 (by decide) rfl rfl) ?_
        refine t_store (v := (.pointer _)) Try.sizeOf29 hS (by repeat first | exact .here _ _ | assumption | apply Pick.there) rfl rfl rfl rfl rfl rfl (fun w hS => ?_)
        replace hS := hS.recast (show blkA g7 34 _ = blkA g7 34 [.int .i64 x.active, .int .i64 x.previous, .int .i64 x.pending, .int .u64 x.at_, .int .i64 x.shadow, .pointer none, .int .i64 2, .int .u64 ((fun _ => 0) 0), .int .u64 ((fun _ => 0) 1), .int .u64 ((fun _ => 0) 2), .int .u64 ((fun _ => 0) 3), .int .u64 ((fun _ => 0) 4), .int .u64 ((fun _ => 0) 5), .int .u64 ((fun _ => 0) 6)] from rfl)
        refine t_nil ?_
        refine c_seq ?_
        refine c_region ?_
        refine t_q (q_cast (v' := .agg (bdc x none 2 (fun _ => 0)).toArray) (q_load_blk Try.isAgg34 Try.sizeOf34 rfl (hS.blk (by repeat first | exact .here _ _ | assumption | apply Pick.there)) rfl) (by rfl)) ?_
        refine t_q (q_cast (v' := .agg c.cells.toArray) (q_load_blk Try.isAgg49 Try.sizeOf49 rfl (hS.blk (by repeat first | exact .here _ _ | assumption | apply Pick.there)) rfl) (by rfl)) ?_
        refine t_call Try.call20 (apply_nil (s := x) (n := 2) (a := (fun _ => 0)) (c := c) (i := 1)) rfl ?_
        rintro e w ⟨rfl, hT⟩
        refine ⟨_, rfl, ?_⟩
        replace hS := hS.after hT
        refine t_q (q_mv (.tuple _) rfl) ?_
        refine t_q (q_extract rfl rfl) ?_
        refine t_q (q_extract rfl rfl) ?_
        refine t_q (q_extract rfl rfl) ?_
        refine t_alloc Try.zeroValue34 rfl hS (fun g11 w hS => ?_)
        refine t_alloc Try.zeroValue55 rfl hS (fun g12 w hS => ?_)
        refine t_store (v := (.agg _)) Try.sizeOf34 hS (by repeat first | exact .here _ _ | assumption | apply Pick.there) rfl rfl rfl rfl rfl rfl (fun w hS => ?_)
        replace hS := hS.recast (congrArg (blkA g11 34) (rset_full (vs := bdc x none 2 (fun _ => 0)) rfl))
        replace hS := hS.recast (show blkA g11 34 _ = blkA g11 34 [.int .i64 x.active, .int .i64 x.previous, .int .i64 x.pending, .int .u64 x.at_, .int .i64 x.shadow, .pointer none, .int .i64 2, .int .u64 ((fun _ => 0) 0), .int .u64 ((fun _ => 0) 1), .int .u64 ((fun _ => 0) 2), .int .u64 ((fun _ => 0) 3), .int .u64 ((fun _ => 0) 4), .int .u64 ((fun _ => 0) 5), .int .u64 ((fun _ => 0) 6)] from rfl)
        refine t_store (v := (.agg _)) Try.sizeOf55 hS (by repeat first | exact .here _ _ | assumption | apply Pick.there) rfl rfl rfl rfl rfl rfl (fun w hS => ?_)
        replace hS := hS.recast (congrArg (blkA g12 55) (rset_full (vs := evZ.cells) rfl))
        replace hS := hS.recast (show _ = blkA g12 55 [.int .i64 evZ.kind, .int .i64 evZ.account, .int .u64 evZ.id, .int .u64 evZ.other, .int .i64 evZ.side, .int .i64 evZ.price, .int .i64 evZ.qty, .int .i64 evZ.fee, .int .i64 evZ.fee2, .int .i64 evZ.code, .int .i64 evZ.version, .int .u64 evZ.index] from rfl)
        refine t_q (q_as (.int _ _) rfl) ?_
        refine t_nil ?_
        refine c_seq ?_
        refine c_region ?_
        refine t_q (q_mv (.int _ _) rfl) ?_
        refine t_q (q_cast (v' := .bool true) (q_eql rfl rfl) (by rfl)) ?_
        refine t_q (q_mv (.bool _) rfl) ?_
        refine t_yes rfl rfl rfl ?_
        refine t_q (q_cast (v' := .agg evZ.cells.toArray) (q_load_blk Try.isAgg55 Try.sizeOf55 rfl (hS.blk (by repeat first | exact .here _ _ | assumption | apply Pick.there)) rfl) (by rfl)) ?_
        refine t_yes rfl rfl rfl ?_
        refine t_q (q_cast (v' := .agg evZ.cells.toArray) (q_build (qs := [(0, 1), (1, 1), (2, 1), (3, 1), (4, 1), (5, 1), (6, 1), (7, 1), (8, 1), (9, 1), (10, 1), (11, 1)]) [(.int _ _), (.int _ _), (.int _ _), (.int _ _), (.int _ _), (.int _ _), (.int _ _), (.int _ _), (.int _ _), (.int _ _), (.int _ _), (.int _ _)] Try.zeroValue55 Try.runUnderlying55 ⟨rfl, Try.sizeOf3, rfl, Try.sizeOf3, rfl, Try.sizeOf26, rfl, Try.sizeOf26, rfl, Try.sizeOf3, rfl, Try.sizeOf2, rfl, Try.sizeOf2, rfl, Try.sizeOf2, rfl, Try.sizeOf2, rfl, Try.sizeOf53, rfl, Try.sizeOf3, rfl, Try.sizeOf26, trivial⟩ rfl rfl) (by rfl)) ?_
        refine t_yes rfl rfl rfl ?_
        refine t_q (q_cast (v' := .bool true) (q_eql_ee (e := evZ) (q := evZ) rfl rfl evZ_rg evZ_rg) (by simp)) ?_
        refine t_q (q_pick_t rfl rfl) ?_
        refine t_q (q_mv (.bool _) rfl) ?_
        refine t_yes rfl rfl rfl ?_
        refine t_q (q_cast (v' := .agg (bdc x none 2 (fun _ => 0)).toArray) (q_load_blk Try.isAgg34 Try.sizeOf34 rfl (hS.blk (by repeat first | exact .here _ _ | assumption | apply Pick.there)) rfl) (by rfl)) ?_
        refine t_yes rfl rfl rfl ?_
        refine t_q (q_cast (v' := .agg (bdc x none 2 (fun _ => 0)).toArray) (q_load_blk Try.isAgg34 Try.sizeOf34 rfl (hS.blk (by repeat first | exact .here _ _ | assumption | apply Pick.there)) rfl) (by rfl)) ?_
        refine t_yes rfl rfl rfl ?_
        refine t_q (q_cast (v' := .bool true) (q_eql_bd0 (e := x) (n := 2) (a := (fun _ => 0)) rfl rfl hx.rg (by decide) sb0) (by rfl)) ?_
        refine t_q (q_pick_t rfl rfl) ?_
        refine t_q (q_mv (.bool _) rfl) ?_
        refine t_yes rfl rfl rfl ?_
        refine t_q (q_cast (v' := .agg (bdc x none 2 (fun _ => 0)).toArray) (q_load_blk Try.isAgg34 Try.sizeOf34 rfl (hS.blk (by repeat first | exact .here _ _ | assumption | apply Pick.there)) rfl) (by rfl)) ?_
        refine t_yes rfl rfl rfl ?_
        refine t_call Try.call24 (sound_nil (s := x) (n := 2) (a := (fun _ => 0))) rfl ?_
        rintro e w ⟨rfl, hT⟩
        refine ⟨_, rfl, ?_⟩
        replace hS := hS.after hT
        refine t_yes rfl rfl rfl ?_
        refine t_q (q_cast (v' := .bool true) (q_not rfl) (by rfl)) ?_
        refine t_q (q_pick_t rfl rfl) ?_
        refine t_q (q_mv (.bool _) rfl) ?_
        refine t_yes rfl rfl rfl ?_
        refine t_call Try.call16 (vlives_calls) rfl ?_
        rintro e w ⟨rfl, hT⟩
        refine ⟨_, rfl, ?_⟩
        replace hS := hS.after hT
        refine t_q (q_pick_t rfl rfl) ?_
        refine t_q (q_as (.bool _) rfl) ?_
        refine t_nil ?_
        refine c_ret ?_
        refine r_one rfl rfl ?_
        exact ⟨rfl, hS.nil⟩
end Go.Proofs.Ytmgobaojioaioaa
