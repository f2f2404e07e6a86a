/- The document's command done. -/
import Derived.Test.YtmgobaojioaioaaYk
import Derived.Test.YtmgobaojioaioaaWq
import Derived.Test.YtmgobaojioaioaaAq
namespace Go.Proofs.Ytmgobaojioaioaa
open Go Go.RowKit Go.Lib
variable {W : World}
/-- a command's cells -/
abbrev cmC (c : CmdV) : List Value := [.int .i64 c.kind, .int .u64 c.client, .int .u64 c.req, .int .i64 c.account, .int .u64 c.id, .int .i64 c.side, .int .i64 c.typ, .int .i64 c.asset, .int .i64 c.price, .int .i64 c.qty, .int .i64 c.version, .int .i64 c.replica, .int .u64 c.at_, .int .i64 c.rules.version, .slice c.rules.ticks.A c.rules.ticks.l.length c.rules.ticks.c, .int .i64 c.rules.lot, .int .i64 c.rules.band, .slice c.rules.fees.A c.rules.fees.l.length c.rules.fees.c, .int .i64 c.rules.round, .int .i64 c.rules.priority, .int .i64 c.rules.self, .int .i64 c.rules.layout]
theorem ap_err {s : StV} {M : List RuV} {n : Int} {a : Nat → Int} {c : CmdV} {i : Int} (h : (apV s M n a c i).e ≠ 0) : apS s M n a c i = s ∧ apA s M n a c i = a ∧ apE s M n a c i = evZ ∧ (apV s M n a c i).M = M :=
  ⟨if_neg h, if_neg h, if_neg h, ap_M h⟩
theorem ap_ok {s : StV} {M : List RuV} {n : Int} {a : Nat → Int} {c : CmdV} {i : Int} (h : (apV s M n a c i).e = 0) : apS s M n a c i = (apV s M n a c i).s ∧ apA s M n a c i = (apV s M n a c i).a ∧ apE s M n a c i = (apV s M n a c i).ev :=
  ⟨if_pos h, if_pos h, if_pos h⟩
theorem ofF_add6 {n r v : Int} {L : AckL} (hr : 0 ≤ r) : tcs n (addT (ofF L) r v) = tcs n (ofF (L ++ [(r, v)])) := tcs_congr fun i _ => by
  unfold addT upd1 orT ofF
  split
  · rename_i h
    subst h
    rw [show ((r.toNat : Nat) : Int) = r from by omega, Int.toNat_natCast, ofN_add]
  · rename_i h
    rw [ofN_other L v (by omega)]
theorem AckOk.snoc6 {n r v : Int} {L : AckL} (h : AckOk n L) (h1 : (0 ≤ r ∧ r < n) ∧ (1 ≤ v ∧ v ≤ 32)) : AckOk n (L ++ [(r, v)]) := fun a ha => by
  rcases List.mem_append.1 ha with ha | ha
  · exact h a ha
  · rw [List.mem_singleton.1 ha]; exact h1
theorem qgput4_calls {w : World} {R : List Asn} {q : Nat} {A : Option Addr} {c1 : Nat} {Y : List RuV} {ps : List RdP} {x : RuV} (hS : St W w (blkA q 141 [.slice A Y.length c1] :: rowA 47 9 A Y.length c1 (Y.flatMap RuV.cells) :: rdsA ps :: R)) (hs : Srt (Y.map nf)) (hY16 : Y.length ≤ 16) (hb : RuBy W ps x) : Calls Try.prog 23 #[.pointer (some ⟨q, 0, none⟩), .agg x.cells.toArray] w fun e w' => e = .returned (.int .i64 (gputE (Y.map nf) x)) ∧ ∃ (A' : Option Addr) (c' : Nat) (Y' : List RuV), Y'.map nf = gputM (Y.map nf) x ∧ (∀ y ∈ Y', y = x ∨ y ∈ Y) ∧ (gputE (Y.map nf) x ≠ 0 → A = A' ∧ c1 = c' ∧ Y = Y') ∧ St W w' (blkA q 141 [.slice A' Y'.length c'] :: rowA 47 9 A' Y'.length c' (Y'.flatMap RuV.cells) :: rdsA ps :: R) := by
  refine (qgput_calls hS hs hY16 hb).mono fun e w' h => ?_
  obtain ⟨rfl, ⟨h0, A', c', hS⟩ | ⟨h0, hS⟩⟩ := h
  · refine ⟨rfl, A', c', _, ?_, fun y hy => ?_, fun h => absurd h0 h, hS⟩
    · rw [rgI_map]; unfold gputM; rw [if_pos h0]
    · rcases List.mem_cons.1 ((rgI_perm _ _).subset hy) with h | h
      · exact .inl h
      · exact .inr h
  · exact ⟨rfl, A, c1, Y, by unfold gputM; rw [if_neg h0], fun y hy => .inr hy, fun _ => ⟨rfl, rfl, rfl⟩, hS⟩
theorem add2_f {w : World} {R : List Asn} {A2 : Option Addr} {c2 : Nat} {K : AckL} {n r v : Int} (hS : St W w (rowA 199 2 A2 K.length c2 (K.flatMap ackC) :: R)) (hm : K.length ≤ 1000000) : Calls Try.prog 109 #[.agg #[.int .i64 n, .slice A2 K.length c2], .int .i64 r, .int .i64 v] w fun e w' => ∃ (q2 : Int) (A4 : Option Addr) (c4 : Nat) (K2 : AckL), e = .returned (.tuple #[.agg #[.int .i64 n, .slice A4 K2.length c4], .int .i64 q2]) ∧ (((0 ≤ r ∧ r < n) ∧ (1 ≤ v ∧ v ≤ 32)) ∧ q2 = 0 ∧ K2 = K ++ [(r, v)] ∨ ¬ ((0 ≤ r ∧ r < n) ∧ (1 ≤ v ∧ v ≤ 32)) ∧ q2 = 2 ∧ K = K2 ∧ A2 = A4 ∧ c2 = c4) ∧ St W w' (rowA 199 2 A4 K2.length c4 (K2.flatMap ackC) :: R) := by
  refine (add2_calls (W := w) (rowRdA hS (.here _ _) rfl) hm).mono fun e w' h => ?_
  rcases h with ⟨hin, A', m, c', rfl, hm', hT⟩ | ⟨hno, rfl, hT⟩
  · subst hm'
    have hS := hS.lift hT
    exact ⟨0, A', c', K ++ [(r, v)], rfl, .inl ⟨hin, rfl, rfl⟩, (hS.pick (A := rowA 199 2 A2 K.length c2 (K.flatMap ackC)) (.there (.here _ _))).drop⟩
  · exact ⟨2, A2, c2, K, rfl, .inr ⟨hno, rfl, rfl, rfl, rfl⟩, hS.after hT⟩
attribute [local irreducible] blkA rowA rdsA mapA regA
set_option maxHeartbeats 8000000 in
set_option maxRecDepth 100000 in
theorem qapply_calls {w : World} {R : List Asn} {q : Nat} {A : Option Addr} {c1 : Nat} {Y : List RuV} {A2 : Option Addr} {c2 : Nat} {K : AckL} {ps : List RdP} {s : StV} {n : Int} {c : CmdV} {i : Int} (hS : St W w (blkA q 141 [.slice A Y.length c1] :: rowA 47 9 A Y.length c1 (Y.flatMap RuV.cells) :: rowA 199 2 A2 K.length c2 (K.flatMap ackC) :: rdsA ps :: R)) (hs : Srt (Y.map nf)) (hY16 : Y.length ≤ 16) (hok : AckOk n K) (hKl : K.length ≤ 1000) (hn : 0 ≤ n ∧ n ≤ 7) (hb : RuBy W ps c.rules) (hat : 0 ≤ c.at_ ∧ c.at_ < 18446744073709551616) (hi : 0 ≤ i ∧ i < 18446744073709551616) : Calls Try.prog 68 #[.agg (([.int .i64 s.active, .int .i64 s.previous, .int .i64 s.pending, .int .u64 s.at_, .int .i64 s.shadow, .pointer (some ⟨q, 0, none⟩), .int .i64 n, .slice A2 K.length c2] : List Value)).toArray, .agg c.cells.toArray, .int .u64 i] w fun e w' =>
  ∃ (q' : Nat) (A' : Option Addr) (c' : Nat) (Y' : List RuV) (A3 : Option Addr) (c3 : Nat) (K' : AckL), e = .returned (.tuple #[.agg (([.int .i64 (apS s (Y.map nf) n (ofF K) c i).active, .int .i64 (apS s (Y.map nf) n (ofF K) c i).previous, .int .i64 (apS s (Y.map nf) n (ofF K) c i).pending, .int .u64 (apS s (Y.map nf) n (ofF K) c i).at_, .int .i64 (apS s (Y.map nf) n (ofF K) c i).shadow, .pointer (some ⟨q', 0, none⟩), .int .i64 n, .slice A3 K'.length c3] : List Value)).toArray, .agg (apE s (Y.map nf) n (ofF K) c i).cells.toArray, .int .i64 (apV s (Y.map nf) n (ofF K) c i).e]) ∧ AckOk n K' ∧ K'.length ≤ K.length + 1 ∧ tcs n (apA s (Y.map nf) n (ofF K) c i) = tcs n (ofF K') ∧ Y'.map nf = (apV s (Y.map nf) n (ofF K) c i).M ∧ (∀ y ∈ Y', y = c.rules ∨ y ∈ Y) ∧ St W w' (blkA q' 141 [.slice A' Y'.length c'] :: rowA 47 9 A' Y'.length c' (Y'.flatMap RuV.cells) :: rowA 199 2 A3 K'.length c3 (K'.flatMap ackC) :: rdsA ps :: R) := by
 refine calls_of_wpE (args := [_, _, _]) Try.func68 rfl rfl rfl ?_
 refine c_seq (c_region ?_)
 refine t_box (v := (.agg _)) rfl rfl hS (fun g3 w hS => ?_)
 replace hS := hS.recast (show _ = blkA g3 41 [.int .i64 s.active, .int .i64 s.previous, .int .i64 s.pending, .int .u64 s.at_, .int .i64 s.shadow, .pointer (some ⟨q, 0, none⟩), .int .i64 n, .slice A2 K.length c2] from rfl)
 refine t_box (v := (.agg _)) rfl rfl hS (fun g4 w hS => ?_)
 replace hS := hS.recast (show _ = blkA g4 49 (cmC c) from rfl)
 refine t_alloc Try.zeroValue41 rfl hS (fun g6 w hS => ?_)
 refine t_alloc Try.zeroValue55 rfl hS (fun g7 w hS => ?_)
 refine t_q (q_assign) ?_
 refine t_nil (c_seq (c_region ?_))
 refine t_q (q_fieldAddr 5 Try.runUnderlying41 rfl Try.sizeOf36 (by decide) rfl rfl) ?_
 refine t_q (q_load1 Try.isAgg36 rfl (hS.cell (by repeat constructor) rfl)) ?_
 refine t_q (q_fieldAddr 10 Try.runUnderlying49 rfl Try.sizeOf3 (by decide) rfl rfl) ?_
 refine t_q (q_load1 Try.isAgg3 rfl (hS.cell (by repeat constructor) rfl)) ?_
 refine t_call Try.call78 (qgat_calls ((hS.pick (A := rowA 47 9 A Y.length c1 (Y.flatMap RuV.cells)) (by repeat constructor)).pick (A := blkA q 141 [.slice A Y.length c1]) (by repeat constructor)) hY16) rfl ?_
 rintro e w ⟨i0, rfl, hat0, hS⟩
 refine ⟨_, rfl, ?_⟩
 have hkn := at_known hs hat0
 refine t_q (q_geq rfl rfl) ?_
 refine t_q (q_as (.bool _) rfl) ?_
 refine t_nil (c_seq (c_region ?_))
 refine t_q (q_fieldAddr 0 Try.runUnderlying41 rfl Try.sizeOf35 (by decide) rfl rfl) ?_
 refine t_q (q_cast (v' := .agg s.cells.toArray) (q_load_sub Try.isAgg35 Try.sizeOf35 rfl (hS.blk (by repeat constructor)) (by show 0 + 0 + 5 ≤ 8; decide)) (by rfl)) ?_
 refine t_alloc Try.zeroValue35 rfl hS (fun g10 w hS => ?_)
 refine t_store (v := (.agg _)) Try.sizeOf35 hS (by repeat constructor) rfl rfl rfl rfl rfl rfl (fun w hS => ?_)
 replace hS := hS.recast (congrArg (blkA g10 35) (rset_full (vs := s.cells) rfl))
 replace hS := hS.recast (show _ = blkA g10 35 [.int .i64 s.active, .int .i64 s.previous, .int .i64 s.pending, .int .u64 s.at_, .int .i64 s.shadow] from rfl)
 refine t_nil (c_seq (c_seq (c_region ?_)))
 refine t_q (q_fieldAddr 0 Try.runUnderlying49 rfl Try.sizeOf3 (by decide) rfl rfl) ?_
 refine t_q (q_load1 Try.isAgg3 rfl (hS.cell (by repeat constructor) rfl)) ?_
 refine t_nil (c_block (c_seq (c_region ?_)))
 refine t_q (q_eql rfl rfl) ?_
 refine t_q (q_as (.bool _) rfl) ?_
 refine t_nil ?_
 refine c_cond rfl ?_ ?_
 ·
  intro hc4
  have hc4d := of_decide_eq_true hc4
  have hk := hc4d
  refine c_seq (c_region ?_)
  refine t_q (q_fieldAddr 5 Try.runUnderlying41 rfl Try.sizeOf36 (by decide) rfl rfl) ?_
  refine t_q (q_load1 Try.isAgg36 rfl (hS.cell (by repeat constructor) rfl)) ?_
  refine t_q (q_nilCheck rfl) ?_
  refine t_q (q_fieldAddr 0 Try.runUnderlying141 rfl Try.sizeOf139 (by decide) rfl rfl) ?_
  refine t_q (q_load1 Try.isAgg139 rfl (hS.cell (by repeat constructor) rfl)) ?_
  refine t_q (q_build (qs := [(0, 1)]) [(.slice _ _ _)] Try.zeroValue141 Try.runUnderlying141 ⟨rfl, Try.sizeOf139, trivial⟩ rfl rfl) ?_
  refine t_box (v := (.agg _)) rfl rfl hS (fun g33 w hS => ?_)
  replace hS := hS.recast (show _ = blkA g33 141 [.slice A Y.length c1] from rfl)
  refine t_q (q_as (.pointer _) rfl) ?_
  refine t_nil (c_seq (c_seq (c_region ?_)))
  refine t_q (q_mv (.pointer _) rfl) ?_
  refine t_q (q_fieldAddr 13 Try.runUnderlying49 rfl Try.sizeOf47 (by decide) rfl rfl) ?_
  refine t_q (q_cast (v' := .agg c.rules.cells.toArray) (q_load_sub Try.isAgg47 Try.sizeOf47 rfl (hS.blk (by repeat constructor)) (by show 0 + 13 + 9 ≤ 22; decide)) (by rfl)) ?_
  refine t_call Try.call23 (qgput4_calls (q := g33) (x := c.rules) (((hS.pick (A := rdsA ps) (by repeat constructor)).pick (A := rowA 47 9 A Y.length c1 (Y.flatMap RuV.cells)) (by repeat constructor)).pick (A := blkA g33 141 [.slice A Y.length c1]) (by repeat constructor)) hs hY16 hb) rfl ?_
  rintro e w ⟨rfl, A', c', Y', hY', hsub', herr, hS⟩
  refine ⟨_, rfl, ?_⟩
  refine t_q (q_as (.int _ _) rfl) ?_
  refine t_nil (c_seq (c_region ?_))
  refine t_q (q_mv (.int _ _) rfl) ?_
  refine t_q (q_neq rfl rfl) ?_
  refine t_nil ?_
  refine c_cond rfl ?_ ?_
  ·
   intro hc7
   have hc7d := of_decide_eq_true hc7
   have hne := hc7d
   have he : (apV s (Y.map nf) n (ofF K) c i).e = gputE (Y.map nf) c.rules := by rw [ap_9 hk]
   have h0 : (apV s (Y.map nf) n (ofF K) c i).e ≠ 0 := by rw [he]; exact hne
   obtain ⟨rfl, rfl, rfl⟩ := herr hne
   refine c_seq (c_region ?_)
   refine t_q (q_cast (v' := .agg (([.int .i64 s.active, .int .i64 s.previous, .int .i64 s.pending, .int .u64 s.at_, .int .i64 s.shadow, .pointer (some ⟨q, 0, none⟩), .int .i64 n, .slice A2 K.length c2] : List Value)).toArray) (q_load_blk Try.isAgg41 Try.sizeOf41 rfl (hS.blk (by repeat constructor)) rfl) (by rfl)) ?_
   refine t_q (q_build (qs := [(0, 1), (1, 1), (2, 1), (3, 1), (4, 1), (5, 1), (6, 1), (7, 1), (8, 1), (9, 1), (10, 1), (11, 1)]) [(.int _ _), (.int _ _), (.int _ _), (.int _ _), (.int _ _), (.int _ _), (.int _ _), (.int _ _), (.int _ _), (.int _ _), (.int _ _), (.int _ _)] Try.zeroValue55 Try.runUnderlying55 ⟨rfl, Try.sizeOf3, rfl, Try.sizeOf3, rfl, Try.sizeOf26, rfl, Try.sizeOf26, rfl, Try.sizeOf3, rfl, Try.sizeOf2, rfl, Try.sizeOf2, rfl, Try.sizeOf2, rfl, Try.sizeOf2, rfl, Try.sizeOf53, rfl, Try.sizeOf3, rfl, Try.sizeOf26, trivial⟩ rfl rfl) ?_
   refine t_q (q_mv (.int _ _) rfl) ?_
   refine t_store (v := (.agg _)) Try.sizeOf41 hS (by repeat constructor) rfl rfl rfl rfl rfl rfl (fun w hS => ?_)
   replace hS := hS.recast (congrArg (blkA g6 41) (rset_full (vs := [.int .i64 s.active, .int .i64 s.previous, .int .i64 s.pending, .int .u64 s.at_, .int .i64 s.shadow, .pointer (some ⟨q, 0, none⟩), .int .i64 n, .slice A2 K.length c2]) rfl))
   refine t_store (v := (.agg _)) Try.sizeOf55 hS (by repeat constructor) rfl rfl rfl rfl rfl rfl (fun w hS => ?_)
   replace hS := hS.recast (congrArg (blkA g7 55) (rset_full (vs := evZ.cells) rfl))
   refine t_q (q_as (.int _ _) rfl) ?_
   refine t_nil (c_ret ?_)
   refine r_three rfl (res1_cellN Try.isAgg41 Try.sizeOf41 rfl (hS.blk (by repeat constructor)) rfl) (res1_cellN Try.isAgg55 Try.sizeOf55 rfl (hS.blk (by repeat constructor)) rfl) rfl ?_
   first
     | (have hX := hne
        obtain ⟨e1, e2, e3, e4⟩ := ap_err h0
        exact ⟨q, A, c1, Y, A2, c2, K, (by first | (rw [e1, e3, he]; done) | (rw [e1, e3, he]; rfl)), hok, by omega, by rw [e2], e4.symm, (fun y hy => .inr hy), ((((((((((hS.pick (A := blkA g3 41 _) (by repeat constructor)).drop.pick (A := blkA g4 49 (cmC c)) (by repeat constructor)).drop.pick (A := blkA g6 41 _) (by repeat constructor)).drop.pick (A := blkA g7 55 _) (by repeat constructor)).drop.pick (A := blkA g10 35 _) (by repeat constructor)).drop.pick (A := blkA g33 141 [.slice A Y.length c1]) (by repeat constructor)).drop.pick (A := rdsA ps) (by repeat constructor)).pick (A := rowA 199 2 A2 K.length c2 (K.flatMap ackC)) (by repeat constructor)).pick (A := rowA 47 9 A Y.length c1 (Y.flatMap RuV.cells)) (by repeat constructor)).pick (A := blkA q 141 [.slice A Y.length c1]) (by repeat constructor))⟩)
     | (have hX := hno
        obtain ⟨e1, e2, e3, e4⟩ := ap_err h0
        exact ⟨q, A, c1, Y, A2, c2, K, (by first | (rw [e1, e3, he]; done) | (rw [e1, e3, he]; rfl)), hok, by omega, by rw [e2], e4.symm, (fun y hy => .inr hy), ((((((((((hS.pick (A := blkA g3 41 _) (by repeat constructor)).drop.pick (A := blkA g4 49 (cmC c)) (by repeat constructor)).drop.pick (A := blkA g6 41 _) (by repeat constructor)).drop.pick (A := blkA g7 55 _) (by repeat constructor)).drop.pick (A := blkA g10 35 _) (by repeat constructor)).drop.pick (A := blkA g13 39 _) (by repeat constructor)).drop.pick (A := rdsA ps) (by repeat constructor)).pick (A := rowA 199 2 A2 K.length c2 (K.flatMap ackC)) (by repeat constructor)).pick (A := rowA 47 9 A Y.length c1 (Y.flatMap RuV.cells)) (by repeat constructor)).pick (A := blkA q 141 [.slice A Y.length c1]) (by repeat constructor))⟩)
     | (have hX := h0
        obtain ⟨e1, e2, e3, e4⟩ := ap_err h0
        exact ⟨q, A, c1, Y, A2, c2, K, (by first | (rw [e1, e3, he]; done) | (rw [e1, e3, he]; rfl)), hok, by omega, by rw [e2], e4.symm, (fun y hy => .inr hy), (((((((((hS.pick (A := blkA g3 41 _) (by repeat constructor)).drop.pick (A := blkA g4 49 (cmC c)) (by repeat constructor)).drop.pick (A := blkA g6 41 _) (by repeat constructor)).drop.pick (A := blkA g7 55 _) (by repeat constructor)).drop.pick (A := blkA g10 35 _) (by repeat constructor)).drop.pick (A := rdsA ps) (by repeat constructor)).pick (A := rowA 199 2 A2 K.length c2 (K.flatMap ackC)) (by repeat constructor)).pick (A := rowA 47 9 A Y.length c1 (Y.flatMap RuV.cells)) (by repeat constructor)).pick (A := blkA q 141 [.slice A Y.length c1]) (by repeat constructor))⟩)
     | (have hX := hg0
        obtain ⟨e1, e2, e3⟩ := ap_ok he
        exact ⟨g33, A', c', Y', A2, c2, K, (by first | (rw [e1, e3, he, hr]; done) | (rw [e1, e3, he, hr]; rfl)), hok, by omega, by rw [e2, hr], by rw [hr]; exact hY', hsub', ((((((((((hS.pick (A := blkA g3 41 _) (by repeat constructor)).drop.pick (A := blkA g4 49 (cmC c)) (by repeat constructor)).drop.pick (A := blkA g6 41 _) (by repeat constructor)).drop.pick (A := blkA g7 55 _) (by repeat constructor)).drop.pick (A := blkA g10 35 _) (by repeat constructor)).drop.pick (A := blkA q 141 [.slice A Y.length c1]) (by repeat constructor)).drop.pick (A := rdsA ps) (by repeat constructor)).pick (A := rowA 199 2 A2 K.length c2 (K.flatMap ackC)) (by repeat constructor)).pick (A := rowA 47 9 A' Y'.length c' (Y'.flatMap RuV.cells)) (by repeat constructor)).pick (A := blkA g33 141 [.slice A' Y'.length c']) (by repeat constructor))⟩)
     | (have hX := hin
        obtain ⟨e1, e2, e3⟩ := ap_ok he
        exact ⟨q, A, c1, Y, A4, c4, (K ++ [(c.replica, c.version)]), (by first | (rw [e1, e3, he, hr]; done) | (rw [e1, e3, he, hr]; rfl)), hok.snoc6 hin, by rw [List.length_append]; exact Nat.le_refl _, by rw [e2, hr]; exact (congrArg (tcs n) (if_pos hin)).trans (ofF_add6 hin.1.1), by rw [hr], (fun y hy => .inr hy), ((((((((((hS.pick (A := blkA g3 41 _) (by repeat constructor)).drop.pick (A := blkA g4 49 (cmC c)) (by repeat constructor)).drop.pick (A := blkA g6 41 _) (by repeat constructor)).drop.pick (A := blkA g7 55 _) (by repeat constructor)).drop.pick (A := blkA g10 35 _) (by repeat constructor)).drop.pick (A := blkA g13 39 _) (by repeat constructor)).drop.pick (A := rdsA ps) (by repeat constructor)).pick (A := rowA 199 2 A4 (K ++ [(c.replica, c.version)]).length c4 ((K ++ [(c.replica, c.version)]).flatMap ackC)) (by repeat constructor)).pick (A := rowA 47 9 A Y.length c1 (Y.flatMap RuV.cells)) (by repeat constructor)).pick (A := blkA q 141 [.slice A Y.length c1]) (by repeat constructor))⟩)
     | (have hX := he
        obtain ⟨e1, e2, e3⟩ := ap_ok he
        exact ⟨q, A, c1, Y, A2, c2, K, (by first | (rw [e1, e3, he, hr]; done) | (rw [e1, e3, he, hr]; rfl)), hok, by omega, by rw [e2, hr], by rw [hr], (fun y hy => .inr hy), (((((((((hS.pick (A := blkA g3 41 _) (by repeat constructor)).drop.pick (A := blkA g4 49 (cmC c)) (by repeat constructor)).drop.pick (A := blkA g6 41 _) (by repeat constructor)).drop.pick (A := blkA g7 55 _) (by repeat constructor)).drop.pick (A := blkA g10 35 _) (by repeat constructor)).drop.pick (A := rdsA ps) (by repeat constructor)).pick (A := rowA 199 2 A2 K.length c2 (K.flatMap ackC)) (by repeat constructor)).pick (A := rowA 47 9 A Y.length c1 (Y.flatMap RuV.cells)) (by repeat constructor)).pick (A := blkA q 141 [.slice A Y.length c1]) (by repeat constructor))⟩)
  ·
   intro hc7
   have hc7d := of_decide_eq_false hc7
   have hr := ap_9 (s := s) (M := (Y.map nf)) (n := n) (a := ofF K) (i := i) hk
   have hg0 : gputE (Y.map nf) c.rules = 0 := by omega
   have he : (apV s (Y.map nf) n (ofF K) c i).e = 0 := by rw [hr]; exact hg0
   refine c_skip (c_seq (c_region ?_))
   refine t_q (q_mv (.pointer _) rfl) ?_
   refine t_q (q_fieldAddr 5 Try.runUnderlying41 rfl Try.sizeOf36 (by decide) rfl rfl) ?_
   refine t_store (v := (.pointer _)) Try.sizeOf36 hS (by repeat constructor) rfl rfl rfl rfl rfl rfl (fun w hS => ?_)
   replace hS := hS.recast (show blkA g3 41 _ = blkA g3 41 [.int .i64 s.active, .int .i64 s.previous, .int .i64 s.pending, .int .u64 s.at_, .int .i64 s.shadow, .pointer (some ⟨g33, 0, none⟩), .int .i64 n, .slice A2 K.length c2] from rfl)
   refine t_nil (c_seq (c_draw ?_))
   refine d_keep2 (blkA g3 41 [.int .i64 s.active, .int .i64 s.previous, .int .i64 s.pending, .int .u64 s.at_, .int .i64 s.shadow, .pointer (some ⟨g33, 0, none⟩), .int .i64 n, .slice A2 K.length c2]) (blkA g4 49 (cmC c)) 8 [0, 1, 2, 3, 4, 5, 6, 7] [0, 5, 1, 2, 3, 4, 6, 7] hS rfl (by kernel_rfl) (by kernel_rfl) (by kernel_rfl) (by kernel_rfl) (fun hap hsel w hS => ?_)
   refine p_q hap hsel 0 rfl rfl ⟨_, ((hS.pick (A := blkA g4 49 (cmC c)) (by repeat constructor)).pick (A := blkA g3 41 [.int .i64 s.active, .int .i64 s.previous, .int .i64 s.pending, .int .u64 s.at_, .int .i64 s.shadow, .pointer (some ⟨g33, 0, none⟩), .int .i64 n, .slice A2 K.length c2]) (by repeat constructor))⟩ (fun w hI => (q_cast (v' := .agg (([.int .i64 s.active, .int .i64 s.previous, .int .i64 s.pending, .int .u64 s.at_, .int .i64 s.shadow, .pointer (some ⟨g33, 0, none⟩), .int .i64 n, .slice A2 K.length c2] : List Value)).toArray) (q_load_blk Try.isAgg41 Try.sizeOf41 rfl (hI.choose_spec.blk (by repeat constructor)) rfl) (by rfl))) ?_
   refine p_q hap hsel 1 rfl rfl ⟨_, ((hS.pick (A := blkA g4 49 (cmC c)) (by repeat constructor)).pick (A := blkA g3 41 [.int .i64 s.active, .int .i64 s.previous, .int .i64 s.pending, .int .u64 s.at_, .int .i64 s.shadow, .pointer (some ⟨g33, 0, none⟩), .int .i64 n, .slice A2 K.length c2]) (by repeat constructor))⟩ (fun w hI => q_fieldAddr 13 Try.runUnderlying49 rfl Try.sizeOf47 (by decide) rfl rfl) ?_
   refine p_q hap hsel 2 rfl rfl ⟨_, ((hS.pick (A := blkA g4 49 (cmC c)) (by repeat constructor)).pick (A := blkA g3 41 [.int .i64 s.active, .int .i64 s.previous, .int .i64 s.pending, .int .u64 s.at_, .int .i64 s.shadow, .pointer (some ⟨g33, 0, none⟩), .int .i64 n, .slice A2 K.length c2]) (by repeat constructor))⟩ (fun w hI => q_fieldAddr 0 Try.runUnderlying47 rfl Try.sizeOf3 (by decide) rfl rfl) ?_
   refine p_q hap hsel 3 rfl rfl ⟨_, ((hS.pick (A := blkA g4 49 (cmC c)) (by repeat constructor)).pick (A := blkA g3 41 [.int .i64 s.active, .int .i64 s.previous, .int .i64 s.pending, .int .u64 s.at_, .int .i64 s.shadow, .pointer (some ⟨g33, 0, none⟩), .int .i64 n, .slice A2 K.length c2]) (by repeat constructor))⟩ (fun w hI => q_load1 Try.isAgg3 rfl (hI.choose_spec.cell (by repeat constructor) rfl)) ?_
   refine p_q hap hsel 4 rfl rfl ⟨_, ((hS.pick (A := blkA g4 49 (cmC c)) (by repeat constructor)).pick (A := blkA g3 41 [.int .i64 s.active, .int .i64 s.previous, .int .i64 s.pending, .int .u64 s.at_, .int .i64 s.shadow, .pointer (some ⟨g33, 0, none⟩), .int .i64 n, .slice A2 K.length c2]) (by repeat constructor))⟩ (fun w hI => q_build (qs := [(0, 1), (1, 1), (2, 1), (3, 1), (4, 1), (5, 1), (6, 1), (7, 1), (8, 1), (9, 1), (10, 1), (11, 1)]) [(.int _ _), (.int _ _), (.int _ _), (.int _ _), (.int _ _), (.int _ _), (.int _ _), (.int _ _), (.int _ _), (.int _ _), (.int _ _), (.int _ _)] Try.zeroValue55 Try.runUnderlying55 ⟨rfl, Try.sizeOf3, rfl, Try.sizeOf3, rfl, Try.sizeOf26, rfl, Try.sizeOf26, rfl, Try.sizeOf3, rfl, Try.sizeOf2, rfl, Try.sizeOf2, rfl, Try.sizeOf2, rfl, Try.sizeOf2, rfl, Try.sizeOf53, rfl, Try.sizeOf3, rfl, Try.sizeOf26, trivial⟩ rfl rfl) ?_
   refine p_one 5 rfl (by kernel_rfl) ?_
   refine t_store (v := (.agg _)) Try.sizeOf41 hS (by repeat constructor) rfl rfl rfl rfl rfl rfl (fun w hS => ?_)
   replace hS := hS.recast (congrArg (blkA g6 41) (rset_full (vs := [.int .i64 s.active, .int .i64 s.previous, .int .i64 s.pending, .int .u64 s.at_, .int .i64 s.shadow, .pointer (some ⟨g33, 0, none⟩), .int .i64 n, .slice A2 K.length c2]) rfl))
   refine t_nil ?_
   refine ⟨.inr ⟨_, ((hS.pick (A := blkA g4 49 (cmC c)) (by repeat constructor)).pick (A := blkA g3 41 [.int .i64 s.active, .int .i64 s.previous, .int .i64 s.pending, .int .u64 s.at_, .int .i64 s.shadow, .pointer (some ⟨g33, 0, none⟩), .int .i64 n, .slice A2 K.length c2]) (by repeat constructor))⟩, ?_⟩
   refine p_one 6 rfl (by kernel_rfl) ?_
   refine t_store (v := (.agg _)) Try.sizeOf55 hS (by repeat constructor) rfl rfl rfl rfl rfl rfl (fun w hS => ?_)
   replace hS := hS.recast (congrArg (blkA g7 55) (rset_full (vs := [.int .i64 8, .int .i64 0, .int .u64 0, .int .u64 0, .int .i64 0, .int .i64 0, .int .i64 0, .int .i64 0, .int .i64 0, .int .i64 0, .int .i64 c.rules.version, .int .u64 0]) rfl))
   refine t_nil ?_
   refine ⟨.inr ⟨_, ((hS.pick (A := blkA g4 49 (cmC c)) (by repeat constructor)).pick (A := blkA g3 41 [.int .i64 s.active, .int .i64 s.previous, .int .i64 s.pending, .int .u64 s.at_, .int .i64 s.shadow, .pointer (some ⟨g33, 0, none⟩), .int .i64 n, .slice A2 K.length c2]) (by repeat constructor))⟩, ?_⟩
   refine p_q hap hsel 7 rfl rfl ⟨_, ((hS.pick (A := blkA g4 49 (cmC c)) (by repeat constructor)).pick (A := blkA g3 41 [.int .i64 s.active, .int .i64 s.previous, .int .i64 s.pending, .int .u64 s.at_, .int .i64 s.shadow, .pointer (some ⟨g33, 0, none⟩), .int .i64 n, .slice A2 K.length c2]) (by repeat constructor))⟩ (fun w hI => q_assign) ?_
   refine p_end (by kernel_rfl) ?_
   refine c_ret ?_
   refine r_three rfl (res1_cellN Try.isAgg41 Try.sizeOf41 rfl (hS.blk (by repeat constructor)) rfl) (res1_cellN Try.isAgg55 Try.sizeOf55 rfl (hS.blk (by repeat constructor)) rfl) rfl ?_
   first
     | (have hX := hne
        obtain ⟨e1, e2, e3, e4⟩ := ap_err h0
        exact ⟨q, A, c1, Y, A2, c2, K, (by first | (rw [e1, e3, he]; done) | (rw [e1, e3, he]; rfl)), hok, by omega, by rw [e2], e4.symm, (fun y hy => .inr hy), ((((((((((hS.pick (A := blkA g3 41 _) (by repeat constructor)).drop.pick (A := blkA g4 49 (cmC c)) (by repeat constructor)).drop.pick (A := blkA g6 41 _) (by repeat constructor)).drop.pick (A := blkA g7 55 _) (by repeat constructor)).drop.pick (A := blkA g10 35 _) (by repeat constructor)).drop.pick (A := blkA g33 141 [.slice A Y.length c1]) (by repeat constructor)).drop.pick (A := rdsA ps) (by repeat constructor)).pick (A := rowA 199 2 A2 K.length c2 (K.flatMap ackC)) (by repeat constructor)).pick (A := rowA 47 9 A Y.length c1 (Y.flatMap RuV.cells)) (by repeat constructor)).pick (A := blkA q 141 [.slice A Y.length c1]) (by repeat constructor))⟩)
     | (have hX := hno
        obtain ⟨e1, e2, e3, e4⟩ := ap_err h0
        exact ⟨q, A, c1, Y, A2, c2, K, (by first | (rw [e1, e3, he]; done) | (rw [e1, e3, he]; rfl)), hok, by omega, by rw [e2], e4.symm, (fun y hy => .inr hy), ((((((((((hS.pick (A := blkA g3 41 _) (by repeat constructor)).drop.pick (A := blkA g4 49 (cmC c)) (by repeat constructor)).drop.pick (A := blkA g6 41 _) (by repeat constructor)).drop.pick (A := blkA g7 55 _) (by repeat constructor)).drop.pick (A := blkA g10 35 _) (by repeat constructor)).drop.pick (A := blkA g13 39 _) (by repeat constructor)).drop.pick (A := rdsA ps) (by repeat constructor)).pick (A := rowA 199 2 A2 K.length c2 (K.flatMap ackC)) (by repeat constructor)).pick (A := rowA 47 9 A Y.length c1 (Y.flatMap RuV.cells)) (by repeat constructor)).pick (A := blkA q 141 [.slice A Y.length c1]) (by repeat constructor))⟩)
     | (have hX := h0
        obtain ⟨e1, e2, e3, e4⟩ := ap_err h0
        exact ⟨q, A, c1, Y, A2, c2, K, (by first | (rw [e1, e3, he]; done) | (rw [e1, e3, he]; rfl)), hok, by omega, by rw [e2], e4.symm, (fun y hy => .inr hy), (((((((((hS.pick (A := blkA g3 41 _) (by repeat constructor)).drop.pick (A := blkA g4 49 (cmC c)) (by repeat constructor)).drop.pick (A := blkA g6 41 _) (by repeat constructor)).drop.pick (A := blkA g7 55 _) (by repeat constructor)).drop.pick (A := blkA g10 35 _) (by repeat constructor)).drop.pick (A := rdsA ps) (by repeat constructor)).pick (A := rowA 199 2 A2 K.length c2 (K.flatMap ackC)) (by repeat constructor)).pick (A := rowA 47 9 A Y.length c1 (Y.flatMap RuV.cells)) (by repeat constructor)).pick (A := blkA q 141 [.slice A Y.length c1]) (by repeat constructor))⟩)
     | (have hX := hg0
        obtain ⟨e1, e2, e3⟩ := ap_ok he
        exact ⟨g33, A', c', Y', A2, c2, K, (by first | (rw [e1, e3, he, hr]; done) | (rw [e1, e3, he, hr]; rfl)), hok, by omega, by rw [e2, hr], by rw [hr]; exact hY', hsub', ((((((((((hS.pick (A := blkA g3 41 _) (by repeat constructor)).drop.pick (A := blkA g4 49 (cmC c)) (by repeat constructor)).drop.pick (A := blkA g6 41 _) (by repeat constructor)).drop.pick (A := blkA g7 55 _) (by repeat constructor)).drop.pick (A := blkA g10 35 _) (by repeat constructor)).drop.pick (A := blkA q 141 [.slice A Y.length c1]) (by repeat constructor)).drop.pick (A := rdsA ps) (by repeat constructor)).pick (A := rowA 199 2 A2 K.length c2 (K.flatMap ackC)) (by repeat constructor)).pick (A := rowA 47 9 A' Y'.length c' (Y'.flatMap RuV.cells)) (by repeat constructor)).pick (A := blkA g33 141 [.slice A' Y'.length c']) (by repeat constructor))⟩)
     | (have hX := hin
        obtain ⟨e1, e2, e3⟩ := ap_ok he
        exact ⟨q, A, c1, Y, A4, c4, (K ++ [(c.replica, c.version)]), (by first | (rw [e1, e3, he, hr]; done) | (rw [e1, e3, he, hr]; rfl)), hok.snoc6 hin, by rw [List.length_append]; exact Nat.le_refl _, by rw [e2, hr]; exact (congrArg (tcs n) (if_pos hin)).trans (ofF_add6 hin.1.1), by rw [hr], (fun y hy => .inr hy), ((((((((((hS.pick (A := blkA g3 41 _) (by repeat constructor)).drop.pick (A := blkA g4 49 (cmC c)) (by repeat constructor)).drop.pick (A := blkA g6 41 _) (by repeat constructor)).drop.pick (A := blkA g7 55 _) (by repeat constructor)).drop.pick (A := blkA g10 35 _) (by repeat constructor)).drop.pick (A := blkA g13 39 _) (by repeat constructor)).drop.pick (A := rdsA ps) (by repeat constructor)).pick (A := rowA 199 2 A4 (K ++ [(c.replica, c.version)]).length c4 ((K ++ [(c.replica, c.version)]).flatMap ackC)) (by repeat constructor)).pick (A := rowA 47 9 A Y.length c1 (Y.flatMap RuV.cells)) (by repeat constructor)).pick (A := blkA q 141 [.slice A Y.length c1]) (by repeat constructor))⟩)
     | (have hX := he
        obtain ⟨e1, e2, e3⟩ := ap_ok he
        exact ⟨q, A, c1, Y, A2, c2, K, (by first | (rw [e1, e3, he, hr]; done) | (rw [e1, e3, he, hr]; rfl)), hok, by omega, by rw [e2, hr], by rw [hr], (fun y hy => .inr hy), (((((((((hS.pick (A := blkA g3 41 _) (by repeat constructor)).drop.pick (A := blkA g4 49 (cmC c)) (by repeat constructor)).drop.pick (A := blkA g6 41 _) (by repeat constructor)).drop.pick (A := blkA g7 55 _) (by repeat constructor)).drop.pick (A := blkA g10 35 _) (by repeat constructor)).drop.pick (A := rdsA ps) (by repeat constructor)).pick (A := rowA 199 2 A2 K.length c2 (K.flatMap ackC)) (by repeat constructor)).pick (A := rowA 47 9 A Y.length c1 (Y.flatMap RuV.cells)) (by repeat constructor)).pick (A := blkA q 141 [.slice A Y.length c1]) (by repeat constructor))⟩)
 ·
  intro hc4
  have hc4d := of_decide_eq_false hc4
  refine c_seq (c_region ?_)
  refine t_q (q_eql rfl rfl) ?_
  refine t_q (q_as (.bool _) rfl) ?_
  refine t_nil ?_
  refine c_cond rfl ?_ ?_
  ·
   intro hc9
   have hc9d := of_decide_eq_true hc9
   have hk := hc9d
   refine c_seq (c_seq (c_region ?_))
   refine t_q (q_mv (.bool _) rfl) ?_
   refine t_q (q_not rfl) ?_
   refine t_nil ?_
   refine c_cond rfl ?_ ?_
   ·
    intro hc10
    have hc10d := of_decide_eq_false (not_back hc10)
    have hkc : vknownE (Y.map nf) c.version = 51 := by omega
    have he : (apV s (Y.map nf) n (ofF K) c i).e = 51 := by rw [ap_10b hk (by omega)]; exact hkc
    have h0 : (apV s (Y.map nf) n (ofF K) c i).e ≠ 0 := by rw [he]; decide
    refine c_seq (c_region ?_)
    refine t_q (q_cast (v' := .agg (([.int .i64 s.active, .int .i64 s.previous, .int .i64 s.pending, .int .u64 s.at_, .int .i64 s.shadow, .pointer (some ⟨q, 0, none⟩), .int .i64 n, .slice A2 K.length c2] : List Value)).toArray) (q_load_blk Try.isAgg41 Try.sizeOf41 rfl (hS.blk (by repeat constructor)) rfl) (by rfl)) ?_
    refine t_q (q_build (qs := [(0, 1), (1, 1), (2, 1), (3, 1), (4, 1), (5, 1), (6, 1), (7, 1), (8, 1), (9, 1), (10, 1), (11, 1)]) [(.int _ _), (.int _ _), (.int _ _), (.int _ _), (.int _ _), (.int _ _), (.int _ _), (.int _ _), (.int _ _), (.int _ _), (.int _ _), (.int _ _)] Try.zeroValue55 Try.runUnderlying55 ⟨rfl, Try.sizeOf3, rfl, Try.sizeOf3, rfl, Try.sizeOf26, rfl, Try.sizeOf26, rfl, Try.sizeOf3, rfl, Try.sizeOf2, rfl, Try.sizeOf2, rfl, Try.sizeOf2, rfl, Try.sizeOf2, rfl, Try.sizeOf53, rfl, Try.sizeOf3, rfl, Try.sizeOf26, trivial⟩ rfl rfl) ?_
    refine t_store (v := (.agg _)) Try.sizeOf41 hS (by repeat constructor) rfl rfl rfl rfl rfl rfl (fun w hS => ?_)
    replace hS := hS.recast (congrArg (blkA g6 41) (rset_full (vs := [.int .i64 s.active, .int .i64 s.previous, .int .i64 s.pending, .int .u64 s.at_, .int .i64 s.shadow, .pointer (some ⟨q, 0, none⟩), .int .i64 n, .slice A2 K.length c2]) rfl))
    refine t_store (v := (.agg _)) Try.sizeOf55 hS (by repeat constructor) rfl rfl rfl rfl rfl rfl (fun w hS => ?_)
    replace hS := hS.recast (congrArg (blkA g7 55) (rset_full (vs := evZ.cells) rfl))
    refine t_q (q_assign) ?_
    refine t_nil (c_ret ?_)
    refine r_three rfl (res1_cellN Try.isAgg41 Try.sizeOf41 rfl (hS.blk (by repeat constructor)) rfl) (res1_cellN Try.isAgg55 Try.sizeOf55 rfl (hS.blk (by repeat constructor)) rfl) rfl ?_
    first
      | (have hX := hne
         obtain ⟨e1, e2, e3, e4⟩ := ap_err h0
         exact ⟨q, A, c1, Y, A2, c2, K, (by first | (rw [e1, e3, he]; done) | (rw [e1, e3, he]; rfl)), hok, by omega, by rw [e2], e4.symm, (fun y hy => .inr hy), ((((((((((hS.pick (A := blkA g3 41 _) (by repeat constructor)).drop.pick (A := blkA g4 49 (cmC c)) (by repeat constructor)).drop.pick (A := blkA g6 41 _) (by repeat constructor)).drop.pick (A := blkA g7 55 _) (by repeat constructor)).drop.pick (A := blkA g10 35 _) (by repeat constructor)).drop.pick (A := blkA g33 141 [.slice A Y.length c1]) (by repeat constructor)).drop.pick (A := rdsA ps) (by repeat constructor)).pick (A := rowA 199 2 A2 K.length c2 (K.flatMap ackC)) (by repeat constructor)).pick (A := rowA 47 9 A Y.length c1 (Y.flatMap RuV.cells)) (by repeat constructor)).pick (A := blkA q 141 [.slice A Y.length c1]) (by repeat constructor))⟩)
      | (have hX := hno
         obtain ⟨e1, e2, e3, e4⟩ := ap_err h0
         exact ⟨q, A, c1, Y, A2, c2, K, (by first | (rw [e1, e3, he]; done) | (rw [e1, e3, he]; rfl)), hok, by omega, by rw [e2], e4.symm, (fun y hy => .inr hy), ((((((((((hS.pick (A := blkA g3 41 _) (by repeat constructor)).drop.pick (A := blkA g4 49 (cmC c)) (by repeat constructor)).drop.pick (A := blkA g6 41 _) (by repeat constructor)).drop.pick (A := blkA g7 55 _) (by repeat constructor)).drop.pick (A := blkA g10 35 _) (by repeat constructor)).drop.pick (A := blkA g13 39 _) (by repeat constructor)).drop.pick (A := rdsA ps) (by repeat constructor)).pick (A := rowA 199 2 A2 K.length c2 (K.flatMap ackC)) (by repeat constructor)).pick (A := rowA 47 9 A Y.length c1 (Y.flatMap RuV.cells)) (by repeat constructor)).pick (A := blkA q 141 [.slice A Y.length c1]) (by repeat constructor))⟩)
      | (have hX := h0
         obtain ⟨e1, e2, e3, e4⟩ := ap_err h0
         exact ⟨q, A, c1, Y, A2, c2, K, (by first | (rw [e1, e3, he]; done) | (rw [e1, e3, he]; rfl)), hok, by omega, by rw [e2], e4.symm, (fun y hy => .inr hy), (((((((((hS.pick (A := blkA g3 41 _) (by repeat constructor)).drop.pick (A := blkA g4 49 (cmC c)) (by repeat constructor)).drop.pick (A := blkA g6 41 _) (by repeat constructor)).drop.pick (A := blkA g7 55 _) (by repeat constructor)).drop.pick (A := blkA g10 35 _) (by repeat constructor)).drop.pick (A := rdsA ps) (by repeat constructor)).pick (A := rowA 199 2 A2 K.length c2 (K.flatMap ackC)) (by repeat constructor)).pick (A := rowA 47 9 A Y.length c1 (Y.flatMap RuV.cells)) (by repeat constructor)).pick (A := blkA q 141 [.slice A Y.length c1]) (by repeat constructor))⟩)
      | (have hX := hg0
         obtain ⟨e1, e2, e3⟩ := ap_ok he
         exact ⟨g33, A', c', Y', A2, c2, K, (by first | (rw [e1, e3, he, hr]; done) | (rw [e1, e3, he, hr]; rfl)), hok, by omega, by rw [e2, hr], by rw [hr]; exact hY', hsub', ((((((((((hS.pick (A := blkA g3 41 _) (by repeat constructor)).drop.pick (A := blkA g4 49 (cmC c)) (by repeat constructor)).drop.pick (A := blkA g6 41 _) (by repeat constructor)).drop.pick (A := blkA g7 55 _) (by repeat constructor)).drop.pick (A := blkA g10 35 _) (by repeat constructor)).drop.pick (A := blkA q 141 [.slice A Y.length c1]) (by repeat constructor)).drop.pick (A := rdsA ps) (by repeat constructor)).pick (A := rowA 199 2 A2 K.length c2 (K.flatMap ackC)) (by repeat constructor)).pick (A := rowA 47 9 A' Y'.length c' (Y'.flatMap RuV.cells)) (by repeat constructor)).pick (A := blkA g33 141 [.slice A' Y'.length c']) (by repeat constructor))⟩)
      | (have hX := hin
         obtain ⟨e1, e2, e3⟩ := ap_ok he
         exact ⟨q, A, c1, Y, A4, c4, (K ++ [(c.replica, c.version)]), (by first | (rw [e1, e3, he, hr]; done) | (rw [e1, e3, he, hr]; rfl)), hok.snoc6 hin, by rw [List.length_append]; exact Nat.le_refl _, by rw [e2, hr]; exact (congrArg (tcs n) (if_pos hin)).trans (ofF_add6 hin.1.1), by rw [hr], (fun y hy => .inr hy), ((((((((((hS.pick (A := blkA g3 41 _) (by repeat constructor)).drop.pick (A := blkA g4 49 (cmC c)) (by repeat constructor)).drop.pick (A := blkA g6 41 _) (by repeat constructor)).drop.pick (A := blkA g7 55 _) (by repeat constructor)).drop.pick (A := blkA g10 35 _) (by repeat constructor)).drop.pick (A := blkA g13 39 _) (by repeat constructor)).drop.pick (A := rdsA ps) (by repeat constructor)).pick (A := rowA 199 2 A4 (K ++ [(c.replica, c.version)]).length c4 ((K ++ [(c.replica, c.version)]).flatMap ackC)) (by repeat constructor)).pick (A := rowA 47 9 A Y.length c1 (Y.flatMap RuV.cells)) (by repeat constructor)).pick (A := blkA q 141 [.slice A Y.length c1]) (by repeat constructor))⟩)
      | (have hX := he
         obtain ⟨e1, e2, e3⟩ := ap_ok he
         exact ⟨q, A, c1, Y, A2, c2, K, (by first | (rw [e1, e3, he, hr]; done) | (rw [e1, e3, he, hr]; rfl)), hok, by omega, by rw [e2, hr], by rw [hr], (fun y hy => .inr hy), (((((((((hS.pick (A := blkA g3 41 _) (by repeat constructor)).drop.pick (A := blkA g4 49 (cmC c)) (by repeat constructor)).drop.pick (A := blkA g6 41 _) (by repeat constructor)).drop.pick (A := blkA g7 55 _) (by repeat constructor)).drop.pick (A := blkA g10 35 _) (by repeat constructor)).drop.pick (A := rdsA ps) (by repeat constructor)).pick (A := rowA 199 2 A2 K.length c2 (K.flatMap ackC)) (by repeat constructor)).pick (A := rowA 47 9 A Y.length c1 (Y.flatMap RuV.cells)) (by repeat constructor)).pick (A := blkA q 141 [.slice A Y.length c1]) (by repeat constructor))⟩)
   ·
    intro hc10
    have hc10d := of_decide_eq_true (not_back hc10)
    have hkc : vknownE (Y.map nf) c.version = 0 := by omega
    refine c_skip (c_seq (c_region ?_))
    refine t_q (q_fieldAddr 6 Try.runUnderlying41 rfl Try.sizeOf39 (by decide) rfl rfl) ?_
    refine t_q (q_cast (v' := .agg #[.int .i64 n, .slice A2 K.length c2]) (q_load_sub Try.isAgg39 Try.sizeOf39 rfl (hS.blk (by repeat constructor)) (by show 0 + 6 + 2 ≤ 8; decide)) (by rfl)) ?_
    refine t_q (q_fieldAddr 11 Try.runUnderlying49 rfl Try.sizeOf3 (by decide) rfl rfl) ?_
    refine t_q (q_load1 Try.isAgg3 rfl (hS.cell (by repeat constructor) rfl)) ?_
    refine t_q (q_fieldAddr 10 Try.runUnderlying49 rfl Try.sizeOf3 (by decide) rfl rfl) ?_
    refine t_q (q_load1 Try.isAgg3 rfl (hS.cell (by repeat constructor) rfl)) ?_
    refine t_call Try.call109 (add2_f (n := n) (r := c.replica) (v := c.version) (hS.pick (A := rowA 199 2 A2 K.length c2 (K.flatMap ackC)) (by repeat constructor)) (by omega)) rfl ?_
    rintro e w ⟨q2, A4, c4, K2, rfl, hq2, hS⟩
    refine ⟨_, rfl, ?_⟩
    refine t_q (q_mv (.tuple _) rfl) ?_
    refine t_q (q_extract rfl rfl) ?_
    refine t_q (q_extract rfl rfl) ?_
    refine t_alloc Try.zeroValue39 rfl hS (fun g13 w hS => ?_)
    refine t_store (v := (.agg _)) Try.sizeOf39 hS (by repeat constructor) rfl rfl rfl rfl rfl rfl (fun w hS => ?_)
    replace hS := hS.recast (show _ = blkA g13 39 [.int .i64 n, .slice A4 K2.length c4] from rfl)
    refine t_q (q_as (.int _ _) rfl) ?_
    refine t_nil (c_seq (c_seq (c_region ?_)))
    refine t_q (q_mv (.int _ _) rfl) ?_
    refine t_q (q_neq rfl rfl) ?_
    refine t_nil ?_
    refine c_cond rfl ?_ ?_
    ·
     intro hc15
     have hc15d := of_decide_eq_true hc15
     rcases hq2 with ⟨_, h, _⟩ | ⟨hno, rfl, rfl, rfl, rfl⟩
     · omega
     have he : (apV s (Y.map nf) n (ofF K) c i).e = 2 := by rw [ap_10a hk hkc]; exact if_neg hno
     have h0 : (apV s (Y.map nf) n (ofF K) c i).e ≠ 0 := by rw [he]; decide
     refine c_seq (c_region ?_)
     refine t_q (q_cast (v' := .agg (([.int .i64 s.active, .int .i64 s.previous, .int .i64 s.pending, .int .u64 s.at_, .int .i64 s.shadow, .pointer (some ⟨q, 0, none⟩), .int .i64 n, .slice A2 K.length c2] : List Value)).toArray) (q_load_blk Try.isAgg41 Try.sizeOf41 rfl (hS.blk (by repeat constructor)) rfl) (by rfl)) ?_
     refine t_q (q_build (qs := [(0, 1), (1, 1), (2, 1), (3, 1), (4, 1), (5, 1), (6, 1), (7, 1), (8, 1), (9, 1), (10, 1), (11, 1)]) [(.int _ _), (.int _ _), (.int _ _), (.int _ _), (.int _ _), (.int _ _), (.int _ _), (.int _ _), (.int _ _), (.int _ _), (.int _ _), (.int _ _)] Try.zeroValue55 Try.runUnderlying55 ⟨rfl, Try.sizeOf3, rfl, Try.sizeOf3, rfl, Try.sizeOf26, rfl, Try.sizeOf26, rfl, Try.sizeOf3, rfl, Try.sizeOf2, rfl, Try.sizeOf2, rfl, Try.sizeOf2, rfl, Try.sizeOf2, rfl, Try.sizeOf53, rfl, Try.sizeOf3, rfl, Try.sizeOf26, trivial⟩ rfl rfl) ?_
     refine t_q (q_mv (.int _ _) rfl) ?_
     refine t_store (v := (.agg _)) Try.sizeOf41 hS (by repeat constructor) rfl rfl rfl rfl rfl rfl (fun w hS => ?_)
     replace hS := hS.recast (congrArg (blkA g6 41) (rset_full (vs := [.int .i64 s.active, .int .i64 s.previous, .int .i64 s.pending, .int .u64 s.at_, .int .i64 s.shadow, .pointer (some ⟨q, 0, none⟩), .int .i64 n, .slice A2 K.length c2]) rfl))
     refine t_store (v := (.agg _)) Try.sizeOf55 hS (by repeat constructor) rfl rfl rfl rfl rfl rfl (fun w hS => ?_)
     replace hS := hS.recast (congrArg (blkA g7 55) (rset_full (vs := evZ.cells) rfl))
     refine t_q (q_as (.int _ _) rfl) ?_
     refine t_nil (c_ret ?_)
     refine r_three rfl (res1_cellN Try.isAgg41 Try.sizeOf41 rfl (hS.blk (by repeat constructor)) rfl) (res1_cellN Try.isAgg55 Try.sizeOf55 rfl (hS.blk (by repeat constructor)) rfl) rfl ?_
     first
       | (have hX := hne
          obtain ⟨e1, e2, e3, e4⟩ := ap_err h0
          exact ⟨q, A, c1, Y, A2, c2, K, (by first | (rw [e1, e3, he]; done) | (rw [e1, e3, he]; rfl)), hok, by omega, by rw [e2], e4.symm, (fun y hy => .inr hy), ((((((((((hS.pick (A := blkA g3 41 _) (by repeat constructor)).drop.pick (A := blkA g4 49 (cmC c)) (by repeat constructor)).drop.pick (A := blkA g6 41 _) (by repeat constructor)).drop.pick (A := blkA g7 55 _) (by repeat constructor)).drop.pick (A := blkA g10 35 _) (by repeat constructor)).drop.pick (A := blkA g33 141 [.slice A Y.length c1]) (by repeat constructor)).drop.pick (A := rdsA ps) (by repeat constructor)).pick (A := rowA 199 2 A2 K.length c2 (K.flatMap ackC)) (by repeat constructor)).pick (A := rowA 47 9 A Y.length c1 (Y.flatMap RuV.cells)) (by repeat constructor)).pick (A := blkA q 141 [.slice A Y.length c1]) (by repeat constructor))⟩)
       | (have hX := hno
          obtain ⟨e1, e2, e3, e4⟩ := ap_err h0
          exact ⟨q, A, c1, Y, A2, c2, K, (by first | (rw [e1, e3, he]; done) | (rw [e1, e3, he]; rfl)), hok, by omega, by rw [e2], e4.symm, (fun y hy => .inr hy), ((((((((((hS.pick (A := blkA g3 41 _) (by repeat constructor)).drop.pick (A := blkA g4 49 (cmC c)) (by repeat constructor)).drop.pick (A := blkA g6 41 _) (by repeat constructor)).drop.pick (A := blkA g7 55 _) (by repeat constructor)).drop.pick (A := blkA g10 35 _) (by repeat constructor)).drop.pick (A := blkA g13 39 _) (by repeat constructor)).drop.pick (A := rdsA ps) (by repeat constructor)).pick (A := rowA 199 2 A2 K.length c2 (K.flatMap ackC)) (by repeat constructor)).pick (A := rowA 47 9 A Y.length c1 (Y.flatMap RuV.cells)) (by repeat constructor)).pick (A := blkA q 141 [.slice A Y.length c1]) (by repeat constructor))⟩)
       | (have hX := h0
          obtain ⟨e1, e2, e3, e4⟩ := ap_err h0
          exact ⟨q, A, c1, Y, A2, c2, K, (by first | (rw [e1, e3, he]; done) | (rw [e1, e3, he]; rfl)), hok, by omega, by rw [e2], e4.symm, (fun y hy => .inr hy), (((((((((hS.pick (A := blkA g3 41 _) (by repeat constructor)).drop.pick (A := blkA g4 49 (cmC c)) (by repeat constructor)).drop.pick (A := blkA g6 41 _) (by repeat constructor)).drop.pick (A := blkA g7 55 _) (by repeat constructor)).drop.pick (A := blkA g10 35 _) (by repeat constructor)).drop.pick (A := rdsA ps) (by repeat constructor)).pick (A := rowA 199 2 A2 K.length c2 (K.flatMap ackC)) (by repeat constructor)).pick (A := rowA 47 9 A Y.length c1 (Y.flatMap RuV.cells)) (by repeat constructor)).pick (A := blkA q 141 [.slice A Y.length c1]) (by repeat constructor))⟩)
       | (have hX := hg0
          obtain ⟨e1, e2, e3⟩ := ap_ok he
          exact ⟨g33, A', c', Y', A2, c2, K, (by first | (rw [e1, e3, he, hr]; done) | (rw [e1, e3, he, hr]; rfl)), hok, by omega, by rw [e2, hr], by rw [hr]; exact hY', hsub', ((((((((((hS.pick (A := blkA g3 41 _) (by repeat constructor)).drop.pick (A := blkA g4 49 (cmC c)) (by repeat constructor)).drop.pick (A := blkA g6 41 _) (by repeat constructor)).drop.pick (A := blkA g7 55 _) (by repeat constructor)).drop.pick (A := blkA g10 35 _) (by repeat constructor)).drop.pick (A := blkA q 141 [.slice A Y.length c1]) (by repeat constructor)).drop.pick (A := rdsA ps) (by repeat constructor)).pick (A := rowA 199 2 A2 K.length c2 (K.flatMap ackC)) (by repeat constructor)).pick (A := rowA 47 9 A' Y'.length c' (Y'.flatMap RuV.cells)) (by repeat constructor)).pick (A := blkA g33 141 [.slice A' Y'.length c']) (by repeat constructor))⟩)
       | (have hX := hin
          obtain ⟨e1, e2, e3⟩ := ap_ok he
          exact ⟨q, A, c1, Y, A4, c4, (K ++ [(c.replica, c.version)]), (by first | (rw [e1, e3, he, hr]; done) | (rw [e1, e3, he, hr]; rfl)), hok.snoc6 hin, by rw [List.length_append]; exact Nat.le_refl _, by rw [e2, hr]; exact (congrArg (tcs n) (if_pos hin)).trans (ofF_add6 hin.1.1), by rw [hr], (fun y hy => .inr hy), ((((((((((hS.pick (A := blkA g3 41 _) (by repeat constructor)).drop.pick (A := blkA g4 49 (cmC c)) (by repeat constructor)).drop.pick (A := blkA g6 41 _) (by repeat constructor)).drop.pick (A := blkA g7 55 _) (by repeat constructor)).drop.pick (A := blkA g10 35 _) (by repeat constructor)).drop.pick (A := blkA g13 39 _) (by repeat constructor)).drop.pick (A := rdsA ps) (by repeat constructor)).pick (A := rowA 199 2 A4 (K ++ [(c.replica, c.version)]).length c4 ((K ++ [(c.replica, c.version)]).flatMap ackC)) (by repeat constructor)).pick (A := rowA 47 9 A Y.length c1 (Y.flatMap RuV.cells)) (by repeat constructor)).pick (A := blkA q 141 [.slice A Y.length c1]) (by repeat constructor))⟩)
       | (have hX := he
          obtain ⟨e1, e2, e3⟩ := ap_ok he
          exact ⟨q, A, c1, Y, A2, c2, K, (by first | (rw [e1, e3, he, hr]; done) | (rw [e1, e3, he, hr]; rfl)), hok, by omega, by rw [e2, hr], by rw [hr], (fun y hy => .inr hy), (((((((((hS.pick (A := blkA g3 41 _) (by repeat constructor)).drop.pick (A := blkA g4 49 (cmC c)) (by repeat constructor)).drop.pick (A := blkA g6 41 _) (by repeat constructor)).drop.pick (A := blkA g7 55 _) (by repeat constructor)).drop.pick (A := blkA g10 35 _) (by repeat constructor)).drop.pick (A := rdsA ps) (by repeat constructor)).pick (A := rowA 199 2 A2 K.length c2 (K.flatMap ackC)) (by repeat constructor)).pick (A := rowA 47 9 A Y.length c1 (Y.flatMap RuV.cells)) (by repeat constructor)).pick (A := blkA q 141 [.slice A Y.length c1]) (by repeat constructor))⟩)
    ·
     intro hc15
     have hc15d := of_decide_eq_false hc15
     rcases hq2 with ⟨hin, rfl, rfl⟩ | ⟨_, h, _⟩
     rotate_left
     · omega
     have hr := ap_10a (s := s) (M := (Y.map nf)) (n := n) (a := ofF K) (i := i) hk hkc
     have he : (apV s (Y.map nf) n (ofF K) c i).e = 0 := by rw [hr]; exact if_pos hin
     refine c_skip (c_seq (c_region ?_))
     refine t_q (q_cast (v' := .agg #[.int .i64 n, .slice A4 (K ++ [(c.replica, c.version)]).length c4]) (q_load_blk Try.isAgg39 Try.sizeOf39 rfl (hS.blk (by repeat constructor)) rfl) (by rfl)) ?_
     refine t_q (q_fieldAddr 6 Try.runUnderlying41 rfl Try.sizeOf39 (by decide) rfl rfl) ?_
     refine t_store (v := (.agg _)) Try.sizeOf39 hS (by repeat constructor) rfl rfl rfl rfl rfl rfl (fun w hS => ?_)
     replace hS := hS.recast (show blkA g3 41 _ = blkA g3 41 [.int .i64 s.active, .int .i64 s.previous, .int .i64 s.pending, .int .u64 s.at_, .int .i64 s.shadow, .pointer (some ⟨q, 0, none⟩), .int .i64 n, .slice A4 (K ++ [(c.replica, c.version)]).length c4] from rfl)
     refine t_nil (c_seq (c_draw ?_))
     refine d_keep2 (blkA g3 41 [.int .i64 s.active, .int .i64 s.previous, .int .i64 s.pending, .int .u64 s.at_, .int .i64 s.shadow, .pointer (some ⟨q, 0, none⟩), .int .i64 n, .slice A4 (K ++ [(c.replica, c.version)]).length c4]) (blkA g4 49 (cmC c)) 9 [0, 1, 2, 3, 4, 5, 6, 7, 8] [0, 6, 1, 2, 3, 4, 5, 7, 8] hS rfl (by kernel_rfl) (by kernel_rfl) (by kernel_rfl) (by kernel_rfl) (fun hap hsel w hS => ?_)
     refine p_q hap hsel 0 rfl rfl ⟨_, ((hS.pick (A := blkA g4 49 (cmC c)) (by repeat constructor)).pick (A := blkA g3 41 [.int .i64 s.active, .int .i64 s.previous, .int .i64 s.pending, .int .u64 s.at_, .int .i64 s.shadow, .pointer (some ⟨q, 0, none⟩), .int .i64 n, .slice A4 (K ++ [(c.replica, c.version)]).length c4]) (by repeat constructor))⟩ (fun w hI => (q_cast (v' := .agg (([.int .i64 s.active, .int .i64 s.previous, .int .i64 s.pending, .int .u64 s.at_, .int .i64 s.shadow, .pointer (some ⟨q, 0, none⟩), .int .i64 n, .slice A4 (K ++ [(c.replica, c.version)]).length c4] : List Value)).toArray) (q_load_blk Try.isAgg41 Try.sizeOf41 rfl (hI.choose_spec.blk (by repeat constructor)) rfl) (by rfl))) ?_
     refine p_q hap hsel 1 rfl rfl ⟨_, ((hS.pick (A := blkA g4 49 (cmC c)) (by repeat constructor)).pick (A := blkA g3 41 [.int .i64 s.active, .int .i64 s.previous, .int .i64 s.pending, .int .u64 s.at_, .int .i64 s.shadow, .pointer (some ⟨q, 0, none⟩), .int .i64 n, .slice A4 (K ++ [(c.replica, c.version)]).length c4]) (by repeat constructor))⟩ (fun w hI => q_fieldAddr 11 Try.runUnderlying49 rfl Try.sizeOf3 (by decide) rfl rfl) ?_
     refine p_q hap hsel 2 rfl rfl ⟨_, ((hS.pick (A := blkA g4 49 (cmC c)) (by repeat constructor)).pick (A := blkA g3 41 [.int .i64 s.active, .int .i64 s.previous, .int .i64 s.pending, .int .u64 s.at_, .int .i64 s.shadow, .pointer (some ⟨q, 0, none⟩), .int .i64 n, .slice A4 (K ++ [(c.replica, c.version)]).length c4]) (by repeat constructor))⟩ (fun w hI => q_load1 Try.isAgg3 rfl (hI.choose_spec.cell (by repeat constructor) rfl)) ?_
     refine p_q hap hsel 3 rfl rfl ⟨_, ((hS.pick (A := blkA g4 49 (cmC c)) (by repeat constructor)).pick (A := blkA g3 41 [.int .i64 s.active, .int .i64 s.previous, .int .i64 s.pending, .int .u64 s.at_, .int .i64 s.shadow, .pointer (some ⟨q, 0, none⟩), .int .i64 n, .slice A4 (K ++ [(c.replica, c.version)]).length c4]) (by repeat constructor))⟩ (fun w hI => q_fieldAddr 10 Try.runUnderlying49 rfl Try.sizeOf3 (by decide) rfl rfl) ?_
     refine p_q hap hsel 4 rfl rfl ⟨_, ((hS.pick (A := blkA g4 49 (cmC c)) (by repeat constructor)).pick (A := blkA g3 41 [.int .i64 s.active, .int .i64 s.previous, .int .i64 s.pending, .int .u64 s.at_, .int .i64 s.shadow, .pointer (some ⟨q, 0, none⟩), .int .i64 n, .slice A4 (K ++ [(c.replica, c.version)]).length c4]) (by repeat constructor))⟩ (fun w hI => q_load1 Try.isAgg3 rfl (hI.choose_spec.cell (by repeat constructor) rfl)) ?_
     refine p_q hap hsel 5 rfl rfl ⟨_, ((hS.pick (A := blkA g4 49 (cmC c)) (by repeat constructor)).pick (A := blkA g3 41 [.int .i64 s.active, .int .i64 s.previous, .int .i64 s.pending, .int .u64 s.at_, .int .i64 s.shadow, .pointer (some ⟨q, 0, none⟩), .int .i64 n, .slice A4 (K ++ [(c.replica, c.version)]).length c4]) (by repeat constructor))⟩ (fun w hI => q_build (qs := [(0, 1), (1, 1), (2, 1), (3, 1), (4, 1), (5, 1), (6, 1), (7, 1), (8, 1), (9, 1), (10, 1), (11, 1)]) [(.int _ _), (.int _ _), (.int _ _), (.int _ _), (.int _ _), (.int _ _), (.int _ _), (.int _ _), (.int _ _), (.int _ _), (.int _ _), (.int _ _)] Try.zeroValue55 Try.runUnderlying55 ⟨rfl, Try.sizeOf3, rfl, Try.sizeOf3, rfl, Try.sizeOf26, rfl, Try.sizeOf26, rfl, Try.sizeOf3, rfl, Try.sizeOf2, rfl, Try.sizeOf2, rfl, Try.sizeOf2, rfl, Try.sizeOf2, rfl, Try.sizeOf53, rfl, Try.sizeOf3, rfl, Try.sizeOf26, trivial⟩ rfl rfl) ?_
     refine p_one 6 rfl (by kernel_rfl) ?_
     refine t_store (v := (.agg _)) Try.sizeOf41 hS (by repeat constructor) rfl rfl rfl rfl rfl rfl (fun w hS => ?_)
     replace hS := hS.recast (congrArg (blkA g6 41) (rset_full (vs := [.int .i64 s.active, .int .i64 s.previous, .int .i64 s.pending, .int .u64 s.at_, .int .i64 s.shadow, .pointer (some ⟨q, 0, none⟩), .int .i64 n, .slice A4 (K ++ [(c.replica, c.version)]).length c4]) rfl))
     refine t_nil ?_
     refine ⟨.inr ⟨_, ((hS.pick (A := blkA g4 49 (cmC c)) (by repeat constructor)).pick (A := blkA g3 41 [.int .i64 s.active, .int .i64 s.previous, .int .i64 s.pending, .int .u64 s.at_, .int .i64 s.shadow, .pointer (some ⟨q, 0, none⟩), .int .i64 n, .slice A4 (K ++ [(c.replica, c.version)]).length c4]) (by repeat constructor))⟩, ?_⟩
     refine p_one 7 rfl (by kernel_rfl) ?_
     refine t_store (v := (.agg _)) Try.sizeOf55 hS (by repeat constructor) rfl rfl rfl rfl rfl rfl (fun w hS => ?_)
     replace hS := hS.recast (congrArg (blkA g7 55) (rset_full (vs := [.int .i64 9, .int .i64 c.replica, .int .u64 0, .int .u64 0, .int .i64 0, .int .i64 0, .int .i64 0, .int .i64 0, .int .i64 0, .int .i64 0, .int .i64 c.version, .int .u64 0]) rfl))
     refine t_nil ?_
     refine ⟨.inr ⟨_, ((hS.pick (A := blkA g4 49 (cmC c)) (by repeat constructor)).pick (A := blkA g3 41 [.int .i64 s.active, .int .i64 s.previous, .int .i64 s.pending, .int .u64 s.at_, .int .i64 s.shadow, .pointer (some ⟨q, 0, none⟩), .int .i64 n, .slice A4 (K ++ [(c.replica, c.version)]).length c4]) (by repeat constructor))⟩, ?_⟩
     refine p_q hap hsel 8 rfl rfl ⟨_, ((hS.pick (A := blkA g4 49 (cmC c)) (by repeat constructor)).pick (A := blkA g3 41 [.int .i64 s.active, .int .i64 s.previous, .int .i64 s.pending, .int .u64 s.at_, .int .i64 s.shadow, .pointer (some ⟨q, 0, none⟩), .int .i64 n, .slice A4 (K ++ [(c.replica, c.version)]).length c4]) (by repeat constructor))⟩ (fun w hI => q_assign) ?_
     refine p_end (by kernel_rfl) ?_
     refine c_ret ?_
     refine r_three rfl (res1_cellN Try.isAgg41 Try.sizeOf41 rfl (hS.blk (by repeat constructor)) rfl) (res1_cellN Try.isAgg55 Try.sizeOf55 rfl (hS.blk (by repeat constructor)) rfl) rfl ?_
     first
       | (have hX := hne
          obtain ⟨e1, e2, e3, e4⟩ := ap_err h0
          exact ⟨q, A, c1, Y, A2, c2, K, (by first | (rw [e1, e3, he]; done) | (rw [e1, e3, he]; rfl)), hok, by omega, by rw [e2], e4.symm, (fun y hy => .inr hy), ((((((((((hS.pick (A := blkA g3 41 _) (by repeat constructor)).drop.pick (A := blkA g4 49 (cmC c)) (by repeat constructor)).drop.pick (A := blkA g6 41 _) (by repeat constructor)).drop.pick (A := blkA g7 55 _) (by repeat constructor)).drop.pick (A := blkA g10 35 _) (by repeat constructor)).drop.pick (A := blkA g33 141 [.slice A Y.length c1]) (by repeat constructor)).drop.pick (A := rdsA ps) (by repeat constructor)).pick (A := rowA 199 2 A2 K.length c2 (K.flatMap ackC)) (by repeat constructor)).pick (A := rowA 47 9 A Y.length c1 (Y.flatMap RuV.cells)) (by repeat constructor)).pick (A := blkA q 141 [.slice A Y.length c1]) (by repeat constructor))⟩)
       | (have hX := hno
          obtain ⟨e1, e2, e3, e4⟩ := ap_err h0
          exact ⟨q, A, c1, Y, A2, c2, K, (by first | (rw [e1, e3, he]; done) | (rw [e1, e3, he]; rfl)), hok, by omega, by rw [e2], e4.symm, (fun y hy => .inr hy), ((((((((((hS.pick (A := blkA g3 41 _) (by repeat constructor)).drop.pick (A := blkA g4 49 (cmC c)) (by repeat constructor)).drop.pick (A := blkA g6 41 _) (by repeat constructor)).drop.pick (A := blkA g7 55 _) (by repeat constructor)).drop.pick (A := blkA g10 35 _) (by repeat constructor)).drop.pick (A := blkA g13 39 _) (by repeat constructor)).drop.pick (A := rdsA ps) (by repeat constructor)).pick (A := rowA 199 2 A2 K.length c2 (K.flatMap ackC)) (by repeat constructor)).pick (A := rowA 47 9 A Y.length c1 (Y.flatMap RuV.cells)) (by repeat constructor)).pick (A := blkA q 141 [.slice A Y.length c1]) (by repeat constructor))⟩)
       | (have hX := h0
          obtain ⟨e1, e2, e3, e4⟩ := ap_err h0
          exact ⟨q, A, c1, Y, A2, c2, K, (by first | (rw [e1, e3, he]; done) | (rw [e1, e3, he]; rfl)), hok, by omega, by rw [e2], e4.symm, (fun y hy => .inr hy), (((((((((hS.pick (A := blkA g3 41 _) (by repeat constructor)).drop.pick (A := blkA g4 49 (cmC c)) (by repeat constructor)).drop.pick (A := blkA g6 41 _) (by repeat constructor)).drop.pick (A := blkA g7 55 _) (by repeat constructor)).drop.pick (A := blkA g10 35 _) (by repeat constructor)).drop.pick (A := rdsA ps) (by repeat constructor)).pick (A := rowA 199 2 A2 K.length c2 (K.flatMap ackC)) (by repeat constructor)).pick (A := rowA 47 9 A Y.length c1 (Y.flatMap RuV.cells)) (by repeat constructor)).pick (A := blkA q 141 [.slice A Y.length c1]) (by repeat constructor))⟩)
       | (have hX := hg0
          obtain ⟨e1, e2, e3⟩ := ap_ok he
          exact ⟨g33, A', c', Y', A2, c2, K, (by first | (rw [e1, e3, he, hr]; done) | (rw [e1, e3, he, hr]; rfl)), hok, by omega, by rw [e2, hr], by rw [hr]; exact hY', hsub', ((((((((((hS.pick (A := blkA g3 41 _) (by repeat constructor)).drop.pick (A := blkA g4 49 (cmC c)) (by repeat constructor)).drop.pick (A := blkA g6 41 _) (by repeat constructor)).drop.pick (A := blkA g7 55 _) (by repeat constructor)).drop.pick (A := blkA g10 35 _) (by repeat constructor)).drop.pick (A := blkA q 141 [.slice A Y.length c1]) (by repeat constructor)).drop.pick (A := rdsA ps) (by repeat constructor)).pick (A := rowA 199 2 A2 K.length c2 (K.flatMap ackC)) (by repeat constructor)).pick (A := rowA 47 9 A' Y'.length c' (Y'.flatMap RuV.cells)) (by repeat constructor)).pick (A := blkA g33 141 [.slice A' Y'.length c']) (by repeat constructor))⟩)
       | (have hX := hin
          obtain ⟨e1, e2, e3⟩ := ap_ok he
          exact ⟨q, A, c1, Y, A4, c4, (K ++ [(c.replica, c.version)]), (by first | (rw [e1, e3, he, hr]; done) | (rw [e1, e3, he, hr]; rfl)), hok.snoc6 hin, by rw [List.length_append]; exact Nat.le_refl _, by rw [e2, hr]; exact (congrArg (tcs n) (if_pos hin)).trans (ofF_add6 hin.1.1), by rw [hr], (fun y hy => .inr hy), ((((((((((hS.pick (A := blkA g3 41 _) (by repeat constructor)).drop.pick (A := blkA g4 49 (cmC c)) (by repeat constructor)).drop.pick (A := blkA g6 41 _) (by repeat constructor)).drop.pick (A := blkA g7 55 _) (by repeat constructor)).drop.pick (A := blkA g10 35 _) (by repeat constructor)).drop.pick (A := blkA g13 39 _) (by repeat constructor)).drop.pick (A := rdsA ps) (by repeat constructor)).pick (A := rowA 199 2 A4 (K ++ [(c.replica, c.version)]).length c4 ((K ++ [(c.replica, c.version)]).flatMap ackC)) (by repeat constructor)).pick (A := rowA 47 9 A Y.length c1 (Y.flatMap RuV.cells)) (by repeat constructor)).pick (A := blkA q 141 [.slice A Y.length c1]) (by repeat constructor))⟩)
       | (have hX := he
          obtain ⟨e1, e2, e3⟩ := ap_ok he
          exact ⟨q, A, c1, Y, A2, c2, K, (by first | (rw [e1, e3, he, hr]; done) | (rw [e1, e3, he, hr]; rfl)), hok, by omega, by rw [e2, hr], by rw [hr], (fun y hy => .inr hy), (((((((((hS.pick (A := blkA g3 41 _) (by repeat constructor)).drop.pick (A := blkA g4 49 (cmC c)) (by repeat constructor)).drop.pick (A := blkA g6 41 _) (by repeat constructor)).drop.pick (A := blkA g7 55 _) (by repeat constructor)).drop.pick (A := blkA g10 35 _) (by repeat constructor)).drop.pick (A := rdsA ps) (by repeat constructor)).pick (A := rowA 199 2 A2 K.length c2 (K.flatMap ackC)) (by repeat constructor)).pick (A := rowA 47 9 A Y.length c1 (Y.flatMap RuV.cells)) (by repeat constructor)).pick (A := blkA q 141 [.slice A Y.length c1]) (by repeat constructor))⟩)
  ·
   intro hc9
   have hc9d := of_decide_eq_false hc9
   refine c_seq (c_region ?_)
   refine t_q (q_eql rfl rfl) ?_
   refine t_q (q_as (.bool _) rfl) ?_
   refine t_nil ?_
   refine c_cond rfl ?_ ?_
   ·
    intro hc17
    have hc17d := of_decide_eq_true hc17
    have hk := hc17d
    refine c_seq (c_seq (c_region ?_))
    refine t_q (q_mv (.bool _) rfl) ?_
    refine t_q (q_not rfl) ?_
    refine t_nil ?_
    refine c_cond rfl ?_ ?_
    ·
     intro hc18
     have hc18d := of_decide_eq_false (not_back hc18)
     have hkc : vknownE (Y.map nf) c.version = 51 := by omega
     have hrd : vreadyE (Y.map nf) s c.version s.shadow = 51 := by unfold vreadyE; rw [if_pos (by omega)]
     have he : (apV s (Y.map nf) n (ofF K) c i).e = 51 := by rw [ap_11b hk (fun h => by rw [hrd] at h; exact absurd h.1 (by decide))]; exact hrd
     have h0 : (apV s (Y.map nf) n (ofF K) c i).e ≠ 0 := by rw [he]; decide
     refine c_seq (c_region ?_)
     refine t_q (q_cast (v' := .agg (([.int .i64 s.active, .int .i64 s.previous, .int .i64 s.pending, .int .u64 s.at_, .int .i64 s.shadow, .pointer (some ⟨q, 0, none⟩), .int .i64 n, .slice A2 K.length c2] : List Value)).toArray) (q_load_blk Try.isAgg41 Try.sizeOf41 rfl (hS.blk (by repeat constructor)) rfl) (by rfl)) ?_
     refine t_q (q_build (qs := [(0, 1), (1, 1), (2, 1), (3, 1), (4, 1), (5, 1), (6, 1), (7, 1), (8, 1), (9, 1), (10, 1), (11, 1)]) [(.int _ _), (.int _ _), (.int _ _), (.int _ _), (.int _ _), (.int _ _), (.int _ _), (.int _ _), (.int _ _), (.int _ _), (.int _ _), (.int _ _)] Try.zeroValue55 Try.runUnderlying55 ⟨rfl, Try.sizeOf3, rfl, Try.sizeOf3, rfl, Try.sizeOf26, rfl, Try.sizeOf26, rfl, Try.sizeOf3, rfl, Try.sizeOf2, rfl, Try.sizeOf2, rfl, Try.sizeOf2, rfl, Try.sizeOf2, rfl, Try.sizeOf53, rfl, Try.sizeOf3, rfl, Try.sizeOf26, trivial⟩ rfl rfl) ?_
     refine t_store (v := (.agg _)) Try.sizeOf41 hS (by repeat constructor) rfl rfl rfl rfl rfl rfl (fun w hS => ?_)
     replace hS := hS.recast (congrArg (blkA g6 41) (rset_full (vs := [.int .i64 s.active, .int .i64 s.previous, .int .i64 s.pending, .int .u64 s.at_, .int .i64 s.shadow, .pointer (some ⟨q, 0, none⟩), .int .i64 n, .slice A2 K.length c2]) rfl))
     refine t_store (v := (.agg _)) Try.sizeOf55 hS (by repeat constructor) rfl rfl rfl rfl rfl rfl (fun w hS => ?_)
     replace hS := hS.recast (congrArg (blkA g7 55) (rset_full (vs := evZ.cells) rfl))
     refine t_q (q_assign) ?_
     refine t_nil (c_ret ?_)
     refine r_three rfl (res1_cellN Try.isAgg41 Try.sizeOf41 rfl (hS.blk (by repeat constructor)) rfl) (res1_cellN Try.isAgg55 Try.sizeOf55 rfl (hS.blk (by repeat constructor)) rfl) rfl ?_
     first
       | (have hX := hne
          obtain ⟨e1, e2, e3, e4⟩ := ap_err h0
          exact ⟨q, A, c1, Y, A2, c2, K, (by first | (rw [e1, e3, he]; done) | (rw [e1, e3, he]; rfl)), hok, by omega, by rw [e2], e4.symm, (fun y hy => .inr hy), ((((((((((hS.pick (A := blkA g3 41 _) (by repeat constructor)).drop.pick (A := blkA g4 49 (cmC c)) (by repeat constructor)).drop.pick (A := blkA g6 41 _) (by repeat constructor)).drop.pick (A := blkA g7 55 _) (by repeat constructor)).drop.pick (A := blkA g10 35 _) (by repeat constructor)).drop.pick (A := blkA g33 141 [.slice A Y.length c1]) (by repeat constructor)).drop.pick (A := rdsA ps) (by repeat constructor)).pick (A := rowA 199 2 A2 K.length c2 (K.flatMap ackC)) (by repeat constructor)).pick (A := rowA 47 9 A Y.length c1 (Y.flatMap RuV.cells)) (by repeat constructor)).pick (A := blkA q 141 [.slice A Y.length c1]) (by repeat constructor))⟩)
       | (have hX := hno
          obtain ⟨e1, e2, e3, e4⟩ := ap_err h0
          exact ⟨q, A, c1, Y, A2, c2, K, (by first | (rw [e1, e3, he]; done) | (rw [e1, e3, he]; rfl)), hok, by omega, by rw [e2], e4.symm, (fun y hy => .inr hy), ((((((((((hS.pick (A := blkA g3 41 _) (by repeat constructor)).drop.pick (A := blkA g4 49 (cmC c)) (by repeat constructor)).drop.pick (A := blkA g6 41 _) (by repeat constructor)).drop.pick (A := blkA g7 55 _) (by repeat constructor)).drop.pick (A := blkA g10 35 _) (by repeat constructor)).drop.pick (A := blkA g13 39 _) (by repeat constructor)).drop.pick (A := rdsA ps) (by repeat constructor)).pick (A := rowA 199 2 A2 K.length c2 (K.flatMap ackC)) (by repeat constructor)).pick (A := rowA 47 9 A Y.length c1 (Y.flatMap RuV.cells)) (by repeat constructor)).pick (A := blkA q 141 [.slice A Y.length c1]) (by repeat constructor))⟩)
       | (have hX := h0
          obtain ⟨e1, e2, e3, e4⟩ := ap_err h0
          exact ⟨q, A, c1, Y, A2, c2, K, (by first | (rw [e1, e3, he]; done) | (rw [e1, e3, he]; rfl)), hok, by omega, by rw [e2], e4.symm, (fun y hy => .inr hy), (((((((((hS.pick (A := blkA g3 41 _) (by repeat constructor)).drop.pick (A := blkA g4 49 (cmC c)) (by repeat constructor)).drop.pick (A := blkA g6 41 _) (by repeat constructor)).drop.pick (A := blkA g7 55 _) (by repeat constructor)).drop.pick (A := blkA g10 35 _) (by repeat constructor)).drop.pick (A := rdsA ps) (by repeat constructor)).pick (A := rowA 199 2 A2 K.length c2 (K.flatMap ackC)) (by repeat constructor)).pick (A := rowA 47 9 A Y.length c1 (Y.flatMap RuV.cells)) (by repeat constructor)).pick (A := blkA q 141 [.slice A Y.length c1]) (by repeat constructor))⟩)
       | (have hX := hg0
          obtain ⟨e1, e2, e3⟩ := ap_ok he
          exact ⟨g33, A', c', Y', A2, c2, K, (by first | (rw [e1, e3, he, hr]; done) | (rw [e1, e3, he, hr]; rfl)), hok, by omega, by rw [e2, hr], by rw [hr]; exact hY', hsub', ((((((((((hS.pick (A := blkA g3 41 _) (by repeat constructor)).drop.pick (A := blkA g4 49 (cmC c)) (by repeat constructor)).drop.pick (A := blkA g6 41 _) (by repeat constructor)).drop.pick (A := blkA g7 55 _) (by repeat constructor)).drop.pick (A := blkA g10 35 _) (by repeat constructor)).drop.pick (A := blkA q 141 [.slice A Y.length c1]) (by repeat constructor)).drop.pick (A := rdsA ps) (by repeat constructor)).pick (A := rowA 199 2 A2 K.length c2 (K.flatMap ackC)) (by repeat constructor)).pick (A := rowA 47 9 A' Y'.length c' (Y'.flatMap RuV.cells)) (by repeat constructor)).pick (A := blkA g33 141 [.slice A' Y'.length c']) (by repeat constructor))⟩)
       | (have hX := hin
          obtain ⟨e1, e2, e3⟩ := ap_ok he
          exact ⟨q, A, c1, Y, A4, c4, (K ++ [(c.replica, c.version)]), (by first | (rw [e1, e3, he, hr]; done) | (rw [e1, e3, he, hr]; rfl)), hok.snoc6 hin, by rw [List.length_append]; exact Nat.le_refl _, by rw [e2, hr]; exact (congrArg (tcs n) (if_pos hin)).trans (ofF_add6 hin.1.1), by rw [hr], (fun y hy => .inr hy), ((((((((((hS.pick (A := blkA g3 41 _) (by repeat constructor)).drop.pick (A := blkA g4 49 (cmC c)) (by repeat constructor)).drop.pick (A := blkA g6 41 _) (by repeat constructor)).drop.pick (A := blkA g7 55 _) (by repeat constructor)).drop.pick (A := blkA g10 35 _) (by repeat constructor)).drop.pick (A := blkA g13 39 _) (by repeat constructor)).drop.pick (A := rdsA ps) (by repeat constructor)).pick (A := rowA 199 2 A4 (K ++ [(c.replica, c.version)]).length c4 ((K ++ [(c.replica, c.version)]).flatMap ackC)) (by repeat constructor)).pick (A := rowA 47 9 A Y.length c1 (Y.flatMap RuV.cells)) (by repeat constructor)).pick (A := blkA q 141 [.slice A Y.length c1]) (by repeat constructor))⟩)
       | (have hX := he
          obtain ⟨e1, e2, e3⟩ := ap_ok he
          exact ⟨q, A, c1, Y, A2, c2, K, (by first | (rw [e1, e3, he, hr]; done) | (rw [e1, e3, he, hr]; rfl)), hok, by omega, by rw [e2, hr], by rw [hr], (fun y hy => .inr hy), (((((((((hS.pick (A := blkA g3 41 _) (by repeat constructor)).drop.pick (A := blkA g4 49 (cmC c)) (by repeat constructor)).drop.pick (A := blkA g6 41 _) (by repeat constructor)).drop.pick (A := blkA g7 55 _) (by repeat constructor)).drop.pick (A := blkA g10 35 _) (by repeat constructor)).drop.pick (A := rdsA ps) (by repeat constructor)).pick (A := rowA 199 2 A2 K.length c2 (K.flatMap ackC)) (by repeat constructor)).pick (A := rowA 47 9 A Y.length c1 (Y.flatMap RuV.cells)) (by repeat constructor)).pick (A := blkA q 141 [.slice A Y.length c1]) (by repeat constructor))⟩)
    ·
     intro hc18
     have hc18d := of_decide_eq_true (not_back hc18)
     have hkc : vknownE (Y.map nf) c.version = 0 := by omega
     refine c_skip (c_seq (c_seq (c_region ?_)))
     refine t_q (q_fieldAddr 4 Try.runUnderlying35 rfl Try.sizeOf3 (by decide) rfl rfl) ?_
     refine t_q (q_load1 Try.isAgg3 rfl (hS.cell (by repeat constructor) rfl)) ?_
     refine t_q (q_neq rfl rfl) ?_
     refine t_nil ?_
     refine c_cond rfl ?_ ?_
     ·
      intro hc20
      have hc20d := of_decide_eq_true hc20
      have hrd : vreadyE (Y.map nf) s c.version s.shadow = 54 := by unfold vreadyE; rw [if_neg (by omega), if_pos (by omega)]
      have he : (apV s (Y.map nf) n (ofF K) c i).e = 54 := by rw [ap_11b hk (fun h => by rw [hrd] at h; exact absurd h.1 (by decide))]; exact hrd
      have h0 : (apV s (Y.map nf) n (ofF K) c i).e ≠ 0 := by rw [he]; decide
      refine c_seq (c_region ?_)
      refine t_q (q_cast (v' := .agg (([.int .i64 s.active, .int .i64 s.previous, .int .i64 s.pending, .int .u64 s.at_, .int .i64 s.shadow, .pointer (some ⟨q, 0, none⟩), .int .i64 n, .slice A2 K.length c2] : List Value)).toArray) (q_load_blk Try.isAgg41 Try.sizeOf41 rfl (hS.blk (by repeat constructor)) rfl) (by rfl)) ?_
      refine t_q (q_build (qs := [(0, 1), (1, 1), (2, 1), (3, 1), (4, 1), (5, 1), (6, 1), (7, 1), (8, 1), (9, 1), (10, 1), (11, 1)]) [(.int _ _), (.int _ _), (.int _ _), (.int _ _), (.int _ _), (.int _ _), (.int _ _), (.int _ _), (.int _ _), (.int _ _), (.int _ _), (.int _ _)] Try.zeroValue55 Try.runUnderlying55 ⟨rfl, Try.sizeOf3, rfl, Try.sizeOf3, rfl, Try.sizeOf26, rfl, Try.sizeOf26, rfl, Try.sizeOf3, rfl, Try.sizeOf2, rfl, Try.sizeOf2, rfl, Try.sizeOf2, rfl, Try.sizeOf2, rfl, Try.sizeOf53, rfl, Try.sizeOf3, rfl, Try.sizeOf26, trivial⟩ rfl rfl) ?_
      refine t_store (v := (.agg _)) Try.sizeOf41 hS (by repeat constructor) rfl rfl rfl rfl rfl rfl (fun w hS => ?_)
      replace hS := hS.recast (congrArg (blkA g6 41) (rset_full (vs := [.int .i64 s.active, .int .i64 s.previous, .int .i64 s.pending, .int .u64 s.at_, .int .i64 s.shadow, .pointer (some ⟨q, 0, none⟩), .int .i64 n, .slice A2 K.length c2]) rfl))
      refine t_store (v := (.agg _)) Try.sizeOf55 hS (by repeat constructor) rfl rfl rfl rfl rfl rfl (fun w hS => ?_)
      replace hS := hS.recast (congrArg (blkA g7 55) (rset_full (vs := evZ.cells) rfl))
      refine t_q (q_assign) ?_
      refine t_nil (c_ret ?_)
      refine r_three rfl (res1_cellN Try.isAgg41 Try.sizeOf41 rfl (hS.blk (by repeat constructor)) rfl) (res1_cellN Try.isAgg55 Try.sizeOf55 rfl (hS.blk (by repeat constructor)) rfl) rfl ?_
      first
        | (have hX := hne
           obtain ⟨e1, e2, e3, e4⟩ := ap_err h0
           exact ⟨q, A, c1, Y, A2, c2, K, (by first | (rw [e1, e3, he]; done) | (rw [e1, e3, he]; rfl)), hok, by omega, by rw [e2], e4.symm, (fun y hy => .inr hy), ((((((((((hS.pick (A := blkA g3 41 _) (by repeat constructor)).drop.pick (A := blkA g4 49 (cmC c)) (by repeat constructor)).drop.pick (A := blkA g6 41 _) (by repeat constructor)).drop.pick (A := blkA g7 55 _) (by repeat constructor)).drop.pick (A := blkA g10 35 _) (by repeat constructor)).drop.pick (A := blkA g33 141 [.slice A Y.length c1]) (by repeat constructor)).drop.pick (A := rdsA ps) (by repeat constructor)).pick (A := rowA 199 2 A2 K.length c2 (K.flatMap ackC)) (by repeat constructor)).pick (A := rowA 47 9 A Y.length c1 (Y.flatMap RuV.cells)) (by repeat constructor)).pick (A := blkA q 141 [.slice A Y.length c1]) (by repeat constructor))⟩)
        | (have hX := hno
           obtain ⟨e1, e2, e3, e4⟩ := ap_err h0
           exact ⟨q, A, c1, Y, A2, c2, K, (by first | (rw [e1, e3, he]; done) | (rw [e1, e3, he]; rfl)), hok, by omega, by rw [e2], e4.symm, (fun y hy => .inr hy), ((((((((((hS.pick (A := blkA g3 41 _) (by repeat constructor)).drop.pick (A := blkA g4 49 (cmC c)) (by repeat constructor)).drop.pick (A := blkA g6 41 _) (by repeat constructor)).drop.pick (A := blkA g7 55 _) (by repeat constructor)).drop.pick (A := blkA g10 35 _) (by repeat constructor)).drop.pick (A := blkA g13 39 _) (by repeat constructor)).drop.pick (A := rdsA ps) (by repeat constructor)).pick (A := rowA 199 2 A2 K.length c2 (K.flatMap ackC)) (by repeat constructor)).pick (A := rowA 47 9 A Y.length c1 (Y.flatMap RuV.cells)) (by repeat constructor)).pick (A := blkA q 141 [.slice A Y.length c1]) (by repeat constructor))⟩)
        | (have hX := h0
           obtain ⟨e1, e2, e3, e4⟩ := ap_err h0
           exact ⟨q, A, c1, Y, A2, c2, K, (by first | (rw [e1, e3, he]; done) | (rw [e1, e3, he]; rfl)), hok, by omega, by rw [e2], e4.symm, (fun y hy => .inr hy), (((((((((hS.pick (A := blkA g3 41 _) (by repeat constructor)).drop.pick (A := blkA g4 49 (cmC c)) (by repeat constructor)).drop.pick (A := blkA g6 41 _) (by repeat constructor)).drop.pick (A := blkA g7 55 _) (by repeat constructor)).drop.pick (A := blkA g10 35 _) (by repeat constructor)).drop.pick (A := rdsA ps) (by repeat constructor)).pick (A := rowA 199 2 A2 K.length c2 (K.flatMap ackC)) (by repeat constructor)).pick (A := rowA 47 9 A Y.length c1 (Y.flatMap RuV.cells)) (by repeat constructor)).pick (A := blkA q 141 [.slice A Y.length c1]) (by repeat constructor))⟩)
        | (have hX := hg0
           obtain ⟨e1, e2, e3⟩ := ap_ok he
           exact ⟨g33, A', c', Y', A2, c2, K, (by first | (rw [e1, e3, he, hr]; done) | (rw [e1, e3, he, hr]; rfl)), hok, by omega, by rw [e2, hr], by rw [hr]; exact hY', hsub', ((((((((((hS.pick (A := blkA g3 41 _) (by repeat constructor)).drop.pick (A := blkA g4 49 (cmC c)) (by repeat constructor)).drop.pick (A := blkA g6 41 _) (by repeat constructor)).drop.pick (A := blkA g7 55 _) (by repeat constructor)).drop.pick (A := blkA g10 35 _) (by repeat constructor)).drop.pick (A := blkA q 141 [.slice A Y.length c1]) (by repeat constructor)).drop.pick (A := rdsA ps) (by repeat constructor)).pick (A := rowA 199 2 A2 K.length c2 (K.flatMap ackC)) (by repeat constructor)).pick (A := rowA 47 9 A' Y'.length c' (Y'.flatMap RuV.cells)) (by repeat constructor)).pick (A := blkA g33 141 [.slice A' Y'.length c']) (by repeat constructor))⟩)
        | (have hX := hin
           obtain ⟨e1, e2, e3⟩ := ap_ok he
           exact ⟨q, A, c1, Y, A4, c4, (K ++ [(c.replica, c.version)]), (by first | (rw [e1, e3, he, hr]; done) | (rw [e1, e3, he, hr]; rfl)), hok.snoc6 hin, by rw [List.length_append]; exact Nat.le_refl _, by rw [e2, hr]; exact (congrArg (tcs n) (if_pos hin)).trans (ofF_add6 hin.1.1), by rw [hr], (fun y hy => .inr hy), ((((((((((hS.pick (A := blkA g3 41 _) (by repeat constructor)).drop.pick (A := blkA g4 49 (cmC c)) (by repeat constructor)).drop.pick (A := blkA g6 41 _) (by repeat constructor)).drop.pick (A := blkA g7 55 _) (by repeat constructor)).drop.pick (A := blkA g10 35 _) (by repeat constructor)).drop.pick (A := blkA g13 39 _) (by repeat constructor)).drop.pick (A := rdsA ps) (by repeat constructor)).pick (A := rowA 199 2 A4 (K ++ [(c.replica, c.version)]).length c4 ((K ++ [(c.replica, c.version)]).flatMap ackC)) (by repeat constructor)).pick (A := rowA 47 9 A Y.length c1 (Y.flatMap RuV.cells)) (by repeat constructor)).pick (A := blkA q 141 [.slice A Y.length c1]) (by repeat constructor))⟩)
        | (have hX := he
           obtain ⟨e1, e2, e3⟩ := ap_ok he
           exact ⟨q, A, c1, Y, A2, c2, K, (by first | (rw [e1, e3, he, hr]; done) | (rw [e1, e3, he, hr]; rfl)), hok, by omega, by rw [e2, hr], by rw [hr], (fun y hy => .inr hy), (((((((((hS.pick (A := blkA g3 41 _) (by repeat constructor)).drop.pick (A := blkA g4 49 (cmC c)) (by repeat constructor)).drop.pick (A := blkA g6 41 _) (by repeat constructor)).drop.pick (A := blkA g7 55 _) (by repeat constructor)).drop.pick (A := blkA g10 35 _) (by repeat constructor)).drop.pick (A := rdsA ps) (by repeat constructor)).pick (A := rowA 199 2 A2 K.length c2 (K.flatMap ackC)) (by repeat constructor)).pick (A := rowA 47 9 A Y.length c1 (Y.flatMap RuV.cells)) (by repeat constructor)).pick (A := blkA q 141 [.slice A Y.length c1]) (by repeat constructor))⟩)
     ·
      intro hc20
      have hc20d := of_decide_eq_false hc20
      refine c_skip (c_seq (c_seq (c_region ?_)))
      refine t_q (q_fieldAddr 10 Try.runUnderlying49 rfl Try.sizeOf3 (by decide) rfl rfl) ?_
      refine t_q (q_load1 Try.isAgg3 rfl (hS.cell (by repeat constructor) rfl)) ?_
      refine t_q (q_fieldAddr 0 Try.runUnderlying35 rfl Try.sizeOf3 (by decide) rfl rfl) ?_
      refine t_q (q_load1 Try.isAgg3 rfl (hS.cell (by repeat constructor) rfl)) ?_
      refine t_q (q_eql rfl rfl) ?_
      refine t_nil ?_
      refine c_cond rfl ?_ ?_
      ·
       intro hc22
       have hc22d := of_decide_eq_true hc22
       have hrd : vreadyE (Y.map nf) s c.version s.shadow = 60 := by unfold vreadyE; rw [if_neg (by omega), if_neg (by omega), if_pos (by omega)]
       have he : (apV s (Y.map nf) n (ofF K) c i).e = 60 := by rw [ap_11b hk (fun h => by rw [hrd] at h; exact absurd h.1 (by decide))]; exact hrd
       have h0 : (apV s (Y.map nf) n (ofF K) c i).e ≠ 0 := by rw [he]; decide
       refine c_seq (c_region ?_)
       refine t_q (q_cast (v' := .agg (([.int .i64 s.active, .int .i64 s.previous, .int .i64 s.pending, .int .u64 s.at_, .int .i64 s.shadow, .pointer (some ⟨q, 0, none⟩), .int .i64 n, .slice A2 K.length c2] : List Value)).toArray) (q_load_blk Try.isAgg41 Try.sizeOf41 rfl (hS.blk (by repeat constructor)) rfl) (by rfl)) ?_
       refine t_q (q_build (qs := [(0, 1), (1, 1), (2, 1), (3, 1), (4, 1), (5, 1), (6, 1), (7, 1), (8, 1), (9, 1), (10, 1), (11, 1)]) [(.int _ _), (.int _ _), (.int _ _), (.int _ _), (.int _ _), (.int _ _), (.int _ _), (.int _ _), (.int _ _), (.int _ _), (.int _ _), (.int _ _)] Try.zeroValue55 Try.runUnderlying55 ⟨rfl, Try.sizeOf3, rfl, Try.sizeOf3, rfl, Try.sizeOf26, rfl, Try.sizeOf26, rfl, Try.sizeOf3, rfl, Try.sizeOf2, rfl, Try.sizeOf2, rfl, Try.sizeOf2, rfl, Try.sizeOf2, rfl, Try.sizeOf53, rfl, Try.sizeOf3, rfl, Try.sizeOf26, trivial⟩ rfl rfl) ?_
       refine t_store (v := (.agg _)) Try.sizeOf41 hS (by repeat constructor) rfl rfl rfl rfl rfl rfl (fun w hS => ?_)
       replace hS := hS.recast (congrArg (blkA g6 41) (rset_full (vs := [.int .i64 s.active, .int .i64 s.previous, .int .i64 s.pending, .int .u64 s.at_, .int .i64 s.shadow, .pointer (some ⟨q, 0, none⟩), .int .i64 n, .slice A2 K.length c2]) rfl))
       refine t_store (v := (.agg _)) Try.sizeOf55 hS (by repeat constructor) rfl rfl rfl rfl rfl rfl (fun w hS => ?_)
       replace hS := hS.recast (congrArg (blkA g7 55) (rset_full (vs := evZ.cells) rfl))
       refine t_q (q_assign) ?_
       refine t_nil (c_ret ?_)
       refine r_three rfl (res1_cellN Try.isAgg41 Try.sizeOf41 rfl (hS.blk (by repeat constructor)) rfl) (res1_cellN Try.isAgg55 Try.sizeOf55 rfl (hS.blk (by repeat constructor)) rfl) rfl ?_
       first
         | (have hX := hne
            obtain ⟨e1, e2, e3, e4⟩ := ap_err h0
            exact ⟨q, A, c1, Y, A2, c2, K, (by first | (rw [e1, e3, he]; done) | (rw [e1, e3, he]; rfl)), hok, by omega, by rw [e2], e4.symm, (fun y hy => .inr hy), ((((((((((hS.pick (A := blkA g3 41 _) (by repeat constructor)).drop.pick (A := blkA g4 49 (cmC c)) (by repeat constructor)).drop.pick (A := blkA g6 41 _) (by repeat constructor)).drop.pick (A := blkA g7 55 _) (by repeat constructor)).drop.pick (A := blkA g10 35 _) (by repeat constructor)).drop.pick (A := blkA g33 141 [.slice A Y.length c1]) (by repeat constructor)).drop.pick (A := rdsA ps) (by repeat constructor)).pick (A := rowA 199 2 A2 K.length c2 (K.flatMap ackC)) (by repeat constructor)).pick (A := rowA 47 9 A Y.length c1 (Y.flatMap RuV.cells)) (by repeat constructor)).pick (A := blkA q 141 [.slice A Y.length c1]) (by repeat constructor))⟩)
         | (have hX := hno
            obtain ⟨e1, e2, e3, e4⟩ := ap_err h0
            exact ⟨q, A, c1, Y, A2, c2, K, (by first | (rw [e1, e3, he]; done) | (rw [e1, e3, he]; rfl)), hok, by omega, by rw [e2], e4.symm, (fun y hy => .inr hy), ((((((((((hS.pick (A := blkA g3 41 _) (by repeat constructor)).drop.pick (A := blkA g4 49 (cmC c)) (by repeat constructor)).drop.pick (A := blkA g6 41 _) (by repeat constructor)).drop.pick (A := blkA g7 55 _) (by repeat constructor)).drop.pick (A := blkA g10 35 _) (by repeat constructor)).drop.pick (A := blkA g13 39 _) (by repeat constructor)).drop.pick (A := rdsA ps) (by repeat constructor)).pick (A := rowA 199 2 A2 K.length c2 (K.flatMap ackC)) (by repeat constructor)).pick (A := rowA 47 9 A Y.length c1 (Y.flatMap RuV.cells)) (by repeat constructor)).pick (A := blkA q 141 [.slice A Y.length c1]) (by repeat constructor))⟩)
         | (have hX := h0
            obtain ⟨e1, e2, e3, e4⟩ := ap_err h0
            exact ⟨q, A, c1, Y, A2, c2, K, (by first | (rw [e1, e3, he]; done) | (rw [e1, e3, he]; rfl)), hok, by omega, by rw [e2], e4.symm, (fun y hy => .inr hy), (((((((((hS.pick (A := blkA g3 41 _) (by repeat constructor)).drop.pick (A := blkA g4 49 (cmC c)) (by repeat constructor)).drop.pick (A := blkA g6 41 _) (by repeat constructor)).drop.pick (A := blkA g7 55 _) (by repeat constructor)).drop.pick (A := blkA g10 35 _) (by repeat constructor)).drop.pick (A := rdsA ps) (by repeat constructor)).pick (A := rowA 199 2 A2 K.length c2 (K.flatMap ackC)) (by repeat constructor)).pick (A := rowA 47 9 A Y.length c1 (Y.flatMap RuV.cells)) (by repeat constructor)).pick (A := blkA q 141 [.slice A Y.length c1]) (by repeat constructor))⟩)
         | (have hX := hg0
            obtain ⟨e1, e2, e3⟩ := ap_ok he
            exact ⟨g33, A', c', Y', A2, c2, K, (by first | (rw [e1, e3, he, hr]; done) | (rw [e1, e3, he, hr]; rfl)), hok, by omega, by rw [e2, hr], by rw [hr]; exact hY', hsub', ((((((((((hS.pick (A := blkA g3 41 _) (by repeat constructor)).drop.pick (A := blkA g4 49 (cmC c)) (by repeat constructor)).drop.pick (A := blkA g6 41 _) (by repeat constructor)).drop.pick (A := blkA g7 55 _) (by repeat constructor)).drop.pick (A := blkA g10 35 _) (by repeat constructor)).drop.pick (A := blkA q 141 [.slice A Y.length c1]) (by repeat constructor)).drop.pick (A := rdsA ps) (by repeat constructor)).pick (A := rowA 199 2 A2 K.length c2 (K.flatMap ackC)) (by repeat constructor)).pick (A := rowA 47 9 A' Y'.length c' (Y'.flatMap RuV.cells)) (by repeat constructor)).pick (A := blkA g33 141 [.slice A' Y'.length c']) (by repeat constructor))⟩)
         | (have hX := hin
            obtain ⟨e1, e2, e3⟩ := ap_ok he
            exact ⟨q, A, c1, Y, A4, c4, (K ++ [(c.replica, c.version)]), (by first | (rw [e1, e3, he, hr]; done) | (rw [e1, e3, he, hr]; rfl)), hok.snoc6 hin, by rw [List.length_append]; exact Nat.le_refl _, by rw [e2, hr]; exact (congrArg (tcs n) (if_pos hin)).trans (ofF_add6 hin.1.1), by rw [hr], (fun y hy => .inr hy), ((((((((((hS.pick (A := blkA g3 41 _) (by repeat constructor)).drop.pick (A := blkA g4 49 (cmC c)) (by repeat constructor)).drop.pick (A := blkA g6 41 _) (by repeat constructor)).drop.pick (A := blkA g7 55 _) (by repeat constructor)).drop.pick (A := blkA g10 35 _) (by repeat constructor)).drop.pick (A := blkA g13 39 _) (by repeat constructor)).drop.pick (A := rdsA ps) (by repeat constructor)).pick (A := rowA 199 2 A4 (K ++ [(c.replica, c.version)]).length c4 ((K ++ [(c.replica, c.version)]).flatMap ackC)) (by repeat constructor)).pick (A := rowA 47 9 A Y.length c1 (Y.flatMap RuV.cells)) (by repeat constructor)).pick (A := blkA q 141 [.slice A Y.length c1]) (by repeat constructor))⟩)
         | (have hX := he
            obtain ⟨e1, e2, e3⟩ := ap_ok he
            exact ⟨q, A, c1, Y, A2, c2, K, (by first | (rw [e1, e3, he, hr]; done) | (rw [e1, e3, he, hr]; rfl)), hok, by omega, by rw [e2, hr], by rw [hr], (fun y hy => .inr hy), (((((((((hS.pick (A := blkA g3 41 _) (by repeat constructor)).drop.pick (A := blkA g4 49 (cmC c)) (by repeat constructor)).drop.pick (A := blkA g6 41 _) (by repeat constructor)).drop.pick (A := blkA g7 55 _) (by repeat constructor)).drop.pick (A := blkA g10 35 _) (by repeat constructor)).drop.pick (A := rdsA ps) (by repeat constructor)).pick (A := rowA 199 2 A2 K.length c2 (K.flatMap ackC)) (by repeat constructor)).pick (A := rowA 47 9 A Y.length c1 (Y.flatMap RuV.cells)) (by repeat constructor)).pick (A := blkA q 141 [.slice A Y.length c1]) (by repeat constructor))⟩)
      ·
       intro hc22
       have hc22d := of_decide_eq_false hc22
       have hrd : vreadyE (Y.map nf) s c.version s.shadow = 0 := by unfold vreadyE; rw [if_neg (by omega), if_neg (by omega), if_neg (by omega)]
       refine c_skip (c_seq (c_seq (c_region ?_)))
       refine t_q (q_fieldAddr 6 Try.runUnderlying41 rfl Try.sizeOf39 (by decide) rfl rfl) ?_
       refine t_q (q_cast (v' := .agg #[.int .i64 n, .slice A2 K.length c2]) (q_load_sub Try.isAgg39 Try.sizeOf39 rfl (hS.blk (by repeat constructor)) (by show 0 + 6 + 2 ≤ 8; decide)) (by rfl)) ?_
       refine t_q (q_fieldAddr 10 Try.runUnderlying49 rfl Try.sizeOf3 (by decide) rfl rfl) ?_
       refine t_q (q_load1 Try.isAgg3 rfl (hS.cell (by repeat constructor) rfl)) ?_
       refine t_call Try.call110 (all2_calls (n := n) (v := c.version) (rowRdA hS (by repeat constructor) rfl) (by omega) (by omega)) rfl ?_
       rintro e w ⟨rfl, hT⟩
       refine ⟨_, rfl, ?_⟩
       replace hS := hS.after hT
       refine t_q (q_not rfl) ?_
       refine t_nil ?_
       refine c_cond rfl ?_ ?_
       ·
        intro hc24
        have ha : allT n (ofF K) c.version = false := by rw [like_all hok]; exact bnt (by assumption : (!allL n K c.version) = true)
        have he : (apV s (Y.map nf) n (ofF K) c i).e = 61 := by rw [ap_11a hk hrd ha]
        have h0 : (apV s (Y.map nf) n (ofF K) c i).e ≠ 0 := by rw [he]; decide
        refine c_seq (c_region ?_)
        refine t_q (q_cast (v' := .agg (([.int .i64 s.active, .int .i64 s.previous, .int .i64 s.pending, .int .u64 s.at_, .int .i64 s.shadow, .pointer (some ⟨q, 0, none⟩), .int .i64 n, .slice A2 K.length c2] : List Value)).toArray) (q_load_blk Try.isAgg41 Try.sizeOf41 rfl (hS.blk (by repeat constructor)) rfl) (by rfl)) ?_
        refine t_q (q_build (qs := [(0, 1), (1, 1), (2, 1), (3, 1), (4, 1), (5, 1), (6, 1), (7, 1), (8, 1), (9, 1), (10, 1), (11, 1)]) [(.int _ _), (.int _ _), (.int _ _), (.int _ _), (.int _ _), (.int _ _), (.int _ _), (.int _ _), (.int _ _), (.int _ _), (.int _ _), (.int _ _)] Try.zeroValue55 Try.runUnderlying55 ⟨rfl, Try.sizeOf3, rfl, Try.sizeOf3, rfl, Try.sizeOf26, rfl, Try.sizeOf26, rfl, Try.sizeOf3, rfl, Try.sizeOf2, rfl, Try.sizeOf2, rfl, Try.sizeOf2, rfl, Try.sizeOf2, rfl, Try.sizeOf53, rfl, Try.sizeOf3, rfl, Try.sizeOf26, trivial⟩ rfl rfl) ?_
        refine t_store (v := (.agg _)) Try.sizeOf41 hS (by repeat constructor) rfl rfl rfl rfl rfl rfl (fun w hS => ?_)
        replace hS := hS.recast (congrArg (blkA g6 41) (rset_full (vs := [.int .i64 s.active, .int .i64 s.previous, .int .i64 s.pending, .int .u64 s.at_, .int .i64 s.shadow, .pointer (some ⟨q, 0, none⟩), .int .i64 n, .slice A2 K.length c2]) rfl))
        refine t_store (v := (.agg _)) Try.sizeOf55 hS (by repeat constructor) rfl rfl rfl rfl rfl rfl (fun w hS => ?_)
        replace hS := hS.recast (congrArg (blkA g7 55) (rset_full (vs := evZ.cells) rfl))
        refine t_q (q_assign) ?_
        refine t_nil (c_ret ?_)
        refine r_three rfl (res1_cellN Try.isAgg41 Try.sizeOf41 rfl (hS.blk (by repeat constructor)) rfl) (res1_cellN Try.isAgg55 Try.sizeOf55 rfl (hS.blk (by repeat constructor)) rfl) rfl ?_
        first
          | (have hX := hne
             obtain ⟨e1, e2, e3, e4⟩ := ap_err h0
             exact ⟨q, A, c1, Y, A2, c2, K, (by first | (rw [e1, e3, he]; done) | (rw [e1, e3, he]; rfl)), hok, by omega, by rw [e2], e4.symm, (fun y hy => .inr hy), ((((((((((hS.pick (A := blkA g3 41 _) (by repeat constructor)).drop.pick (A := blkA g4 49 (cmC c)) (by repeat constructor)).drop.pick (A := blkA g6 41 _) (by repeat constructor)).drop.pick (A := blkA g7 55 _) (by repeat constructor)).drop.pick (A := blkA g10 35 _) (by repeat constructor)).drop.pick (A := blkA g33 141 [.slice A Y.length c1]) (by repeat constructor)).drop.pick (A := rdsA ps) (by repeat constructor)).pick (A := rowA 199 2 A2 K.length c2 (K.flatMap ackC)) (by repeat constructor)).pick (A := rowA 47 9 A Y.length c1 (Y.flatMap RuV.cells)) (by repeat constructor)).pick (A := blkA q 141 [.slice A Y.length c1]) (by repeat constructor))⟩)
          | (have hX := hno
             obtain ⟨e1, e2, e3, e4⟩ := ap_err h0
             exact ⟨q, A, c1, Y, A2, c2, K, (by first | (rw [e1, e3, he]; done) | (rw [e1, e3, he]; rfl)), hok, by omega, by rw [e2], e4.symm, (fun y hy => .inr hy), ((((((((((hS.pick (A := blkA g3 41 _) (by repeat constructor)).drop.pick (A := blkA g4 49 (cmC c)) (by repeat constructor)).drop.pick (A := blkA g6 41 _) (by repeat constructor)).drop.pick (A := blkA g7 55 _) (by repeat constructor)).drop.pick (A := blkA g10 35 _) (by repeat constructor)).drop.pick (A := blkA g13 39 _) (by repeat constructor)).drop.pick (A := rdsA ps) (by repeat constructor)).pick (A := rowA 199 2 A2 K.length c2 (K.flatMap ackC)) (by repeat constructor)).pick (A := rowA 47 9 A Y.length c1 (Y.flatMap RuV.cells)) (by repeat constructor)).pick (A := blkA q 141 [.slice A Y.length c1]) (by repeat constructor))⟩)
          | (have hX := h0
             obtain ⟨e1, e2, e3, e4⟩ := ap_err h0
             exact ⟨q, A, c1, Y, A2, c2, K, (by first | (rw [e1, e3, he]; done) | (rw [e1, e3, he]; rfl)), hok, by omega, by rw [e2], e4.symm, (fun y hy => .inr hy), (((((((((hS.pick (A := blkA g3 41 _) (by repeat constructor)).drop.pick (A := blkA g4 49 (cmC c)) (by repeat constructor)).drop.pick (A := blkA g6 41 _) (by repeat constructor)).drop.pick (A := blkA g7 55 _) (by repeat constructor)).drop.pick (A := blkA g10 35 _) (by repeat constructor)).drop.pick (A := rdsA ps) (by repeat constructor)).pick (A := rowA 199 2 A2 K.length c2 (K.flatMap ackC)) (by repeat constructor)).pick (A := rowA 47 9 A Y.length c1 (Y.flatMap RuV.cells)) (by repeat constructor)).pick (A := blkA q 141 [.slice A Y.length c1]) (by repeat constructor))⟩)
          | (have hX := hg0
             obtain ⟨e1, e2, e3⟩ := ap_ok he
             exact ⟨g33, A', c', Y', A2, c2, K, (by first | (rw [e1, e3, he, hr]; done) | (rw [e1, e3, he, hr]; rfl)), hok, by omega, by rw [e2, hr], by rw [hr]; exact hY', hsub', ((((((((((hS.pick (A := blkA g3 41 _) (by repeat constructor)).drop.pick (A := blkA g4 49 (cmC c)) (by repeat constructor)).drop.pick (A := blkA g6 41 _) (by repeat constructor)).drop.pick (A := blkA g7 55 _) (by repeat constructor)).drop.pick (A := blkA g10 35 _) (by repeat constructor)).drop.pick (A := blkA q 141 [.slice A Y.length c1]) (by repeat constructor)).drop.pick (A := rdsA ps) (by repeat constructor)).pick (A := rowA 199 2 A2 K.length c2 (K.flatMap ackC)) (by repeat constructor)).pick (A := rowA 47 9 A' Y'.length c' (Y'.flatMap RuV.cells)) (by repeat constructor)).pick (A := blkA g33 141 [.slice A' Y'.length c']) (by repeat constructor))⟩)
          | (have hX := hin
             obtain ⟨e1, e2, e3⟩ := ap_ok he
             exact ⟨q, A, c1, Y, A4, c4, (K ++ [(c.replica, c.version)]), (by first | (rw [e1, e3, he, hr]; done) | (rw [e1, e3, he, hr]; rfl)), hok.snoc6 hin, by rw [List.length_append]; exact Nat.le_refl _, by rw [e2, hr]; exact (congrArg (tcs n) (if_pos hin)).trans (ofF_add6 hin.1.1), by rw [hr], (fun y hy => .inr hy), ((((((((((hS.pick (A := blkA g3 41 _) (by repeat constructor)).drop.pick (A := blkA g4 49 (cmC c)) (by repeat constructor)).drop.pick (A := blkA g6 41 _) (by repeat constructor)).drop.pick (A := blkA g7 55 _) (by repeat constructor)).drop.pick (A := blkA g10 35 _) (by repeat constructor)).drop.pick (A := blkA g13 39 _) (by repeat constructor)).drop.pick (A := rdsA ps) (by repeat constructor)).pick (A := rowA 199 2 A4 (K ++ [(c.replica, c.version)]).length c4 ((K ++ [(c.replica, c.version)]).flatMap ackC)) (by repeat constructor)).pick (A := rowA 47 9 A Y.length c1 (Y.flatMap RuV.cells)) (by repeat constructor)).pick (A := blkA q 141 [.slice A Y.length c1]) (by repeat constructor))⟩)
          | (have hX := he
             obtain ⟨e1, e2, e3⟩ := ap_ok he
             exact ⟨q, A, c1, Y, A2, c2, K, (by first | (rw [e1, e3, he, hr]; done) | (rw [e1, e3, he, hr]; rfl)), hok, by omega, by rw [e2, hr], by rw [hr], (fun y hy => .inr hy), (((((((((hS.pick (A := blkA g3 41 _) (by repeat constructor)).drop.pick (A := blkA g4 49 (cmC c)) (by repeat constructor)).drop.pick (A := blkA g6 41 _) (by repeat constructor)).drop.pick (A := blkA g7 55 _) (by repeat constructor)).drop.pick (A := blkA g10 35 _) (by repeat constructor)).drop.pick (A := rdsA ps) (by repeat constructor)).pick (A := rowA 199 2 A2 K.length c2 (K.flatMap ackC)) (by repeat constructor)).pick (A := rowA 47 9 A Y.length c1 (Y.flatMap RuV.cells)) (by repeat constructor)).pick (A := blkA q 141 [.slice A Y.length c1]) (by repeat constructor))⟩)
       ·
        intro hc24
        have ha : allT n (ofF K) c.version = true := by rw [like_all hok]; exact bnf (by assumption : (!allL n K c.version) = false)
        have hr := ap_11b (s := s) (M := (Y.map nf)) (n := n) (a := ofF K) (i := i) hk (fun h => by rw [ha] at h; cases h.2)
        have he : (apV s (Y.map nf) n (ofF K) c i).e = 0 := by rw [hr]; exact hrd
        refine c_skip (c_seq (c_region ?_))
        refine t_q (q_fieldAddr 10 Try.runUnderlying49 rfl Try.sizeOf3 (by decide) rfl rfl) ?_
        refine t_q (q_load1 Try.isAgg3 rfl (hS.cell (by repeat constructor) rfl)) ?_
        refine t_q (q_fieldAddr 0 Try.runUnderlying41 rfl Try.sizeOf35 (by decide) rfl rfl) ?_
        refine t_q (q_fieldAddr 4 Try.runUnderlying35 rfl Try.sizeOf3 (by decide) rfl rfl) ?_
        refine t_store (v := (.int _ _)) Try.sizeOf3 hS (by repeat constructor) rfl rfl rfl rfl rfl rfl (fun w hS => ?_)
        replace hS := hS.recast (show blkA g3 41 _ = blkA g3 41 [.int .i64 ({ s with shadow := c.version } : StV).active, .int .i64 ({ s with shadow := c.version } : StV).previous, .int .i64 ({ s with shadow := c.version } : StV).pending, .int .u64 ({ s with shadow := c.version } : StV).at_, .int .i64 ({ s with shadow := c.version } : StV).shadow, .pointer (some ⟨q, 0, none⟩), .int .i64 n, .slice A2 K.length c2] from rfl)
        refine t_nil (c_seq (c_draw ?_))
        refine d_keep2 (blkA g3 41 [.int .i64 ({ s with shadow := c.version } : StV).active, .int .i64 ({ s with shadow := c.version } : StV).previous, .int .i64 ({ s with shadow := c.version } : StV).pending, .int .u64 ({ s with shadow := c.version } : StV).at_, .int .i64 ({ s with shadow := c.version } : StV).shadow, .pointer (some ⟨q, 0, none⟩), .int .i64 n, .slice A2 K.length c2]) (blkA g4 49 (cmC c)) 7 [0, 1, 2, 3, 4, 5, 6] [0, 4, 1, 2, 3, 5, 6] hS rfl (by kernel_rfl) (by kernel_rfl) (by kernel_rfl) (by kernel_rfl) (fun hap hsel w hS => ?_)
        refine p_q hap hsel 0 rfl rfl ⟨_, ((hS.pick (A := blkA g4 49 (cmC c)) (by repeat constructor)).pick (A := blkA g3 41 [.int .i64 ({ s with shadow := c.version } : StV).active, .int .i64 ({ s with shadow := c.version } : StV).previous, .int .i64 ({ s with shadow := c.version } : StV).pending, .int .u64 ({ s with shadow := c.version } : StV).at_, .int .i64 ({ s with shadow := c.version } : StV).shadow, .pointer (some ⟨q, 0, none⟩), .int .i64 n, .slice A2 K.length c2]) (by repeat constructor))⟩ (fun w hI => (q_cast (v' := .agg (([.int .i64 ({ s with shadow := c.version } : StV).active, .int .i64 ({ s with shadow := c.version } : StV).previous, .int .i64 ({ s with shadow := c.version } : StV).pending, .int .u64 ({ s with shadow := c.version } : StV).at_, .int .i64 ({ s with shadow := c.version } : StV).shadow, .pointer (some ⟨q, 0, none⟩), .int .i64 n, .slice A2 K.length c2] : List Value)).toArray) (q_load_blk Try.isAgg41 Try.sizeOf41 rfl (hI.choose_spec.blk (by repeat constructor)) rfl) (by rfl))) ?_
        refine p_q hap hsel 1 rfl rfl ⟨_, ((hS.pick (A := blkA g4 49 (cmC c)) (by repeat constructor)).pick (A := blkA g3 41 [.int .i64 ({ s with shadow := c.version } : StV).active, .int .i64 ({ s with shadow := c.version } : StV).previous, .int .i64 ({ s with shadow := c.version } : StV).pending, .int .u64 ({ s with shadow := c.version } : StV).at_, .int .i64 ({ s with shadow := c.version } : StV).shadow, .pointer (some ⟨q, 0, none⟩), .int .i64 n, .slice A2 K.length c2]) (by repeat constructor))⟩ (fun w hI => q_fieldAddr 10 Try.runUnderlying49 rfl Try.sizeOf3 (by decide) rfl rfl) ?_
        refine p_q hap hsel 2 rfl rfl ⟨_, ((hS.pick (A := blkA g4 49 (cmC c)) (by repeat constructor)).pick (A := blkA g3 41 [.int .i64 ({ s with shadow := c.version } : StV).active, .int .i64 ({ s with shadow := c.version } : StV).previous, .int .i64 ({ s with shadow := c.version } : StV).pending, .int .u64 ({ s with shadow := c.version } : StV).at_, .int .i64 ({ s with shadow := c.version } : StV).shadow, .pointer (some ⟨q, 0, none⟩), .int .i64 n, .slice A2 K.length c2]) (by repeat constructor))⟩ (fun w hI => q_load1 Try.isAgg3 rfl (hI.choose_spec.cell (by repeat constructor) rfl)) ?_
        refine p_q hap hsel 3 rfl rfl ⟨_, ((hS.pick (A := blkA g4 49 (cmC c)) (by repeat constructor)).pick (A := blkA g3 41 [.int .i64 ({ s with shadow := c.version } : StV).active, .int .i64 ({ s with shadow := c.version } : StV).previous, .int .i64 ({ s with shadow := c.version } : StV).pending, .int .u64 ({ s with shadow := c.version } : StV).at_, .int .i64 ({ s with shadow := c.version } : StV).shadow, .pointer (some ⟨q, 0, none⟩), .int .i64 n, .slice A2 K.length c2]) (by repeat constructor))⟩ (fun w hI => q_build (qs := [(0, 1), (1, 1), (2, 1), (3, 1), (4, 1), (5, 1), (6, 1), (7, 1), (8, 1), (9, 1), (10, 1), (11, 1)]) [(.int _ _), (.int _ _), (.int _ _), (.int _ _), (.int _ _), (.int _ _), (.int _ _), (.int _ _), (.int _ _), (.int _ _), (.int _ _), (.int _ _)] Try.zeroValue55 Try.runUnderlying55 ⟨rfl, Try.sizeOf3, rfl, Try.sizeOf3, rfl, Try.sizeOf26, rfl, Try.sizeOf26, rfl, Try.sizeOf3, rfl, Try.sizeOf2, rfl, Try.sizeOf2, rfl, Try.sizeOf2, rfl, Try.sizeOf2, rfl, Try.sizeOf53, rfl, Try.sizeOf3, rfl, Try.sizeOf26, trivial⟩ rfl rfl) ?_
        refine p_one 4 rfl (by kernel_rfl) ?_
        refine t_store (v := (.agg _)) Try.sizeOf41 hS (by repeat constructor) rfl rfl rfl rfl rfl rfl (fun w hS => ?_)
        replace hS := hS.recast (congrArg (blkA g6 41) (rset_full (vs := [.int .i64 ({ s with shadow := c.version } : StV).active, .int .i64 ({ s with shadow := c.version } : StV).previous, .int .i64 ({ s with shadow := c.version } : StV).pending, .int .u64 ({ s with shadow := c.version } : StV).at_, .int .i64 ({ s with shadow := c.version } : StV).shadow, .pointer (some ⟨q, 0, none⟩), .int .i64 n, .slice A2 K.length c2]) rfl))
        refine t_nil ?_
        refine ⟨.inr ⟨_, ((hS.pick (A := blkA g4 49 (cmC c)) (by repeat constructor)).pick (A := blkA g3 41 [.int .i64 ({ s with shadow := c.version } : StV).active, .int .i64 ({ s with shadow := c.version } : StV).previous, .int .i64 ({ s with shadow := c.version } : StV).pending, .int .u64 ({ s with shadow := c.version } : StV).at_, .int .i64 ({ s with shadow := c.version } : StV).shadow, .pointer (some ⟨q, 0, none⟩), .int .i64 n, .slice A2 K.length c2]) (by repeat constructor))⟩, ?_⟩
        refine p_one 5 rfl (by kernel_rfl) ?_
        refine t_store (v := (.agg _)) Try.sizeOf55 hS (by repeat constructor) rfl rfl rfl rfl rfl rfl (fun w hS => ?_)
        replace hS := hS.recast (congrArg (blkA g7 55) (rset_full (vs := [.int .i64 10, .int .i64 0, .int .u64 0, .int .u64 0, .int .i64 0, .int .i64 0, .int .i64 0, .int .i64 0, .int .i64 0, .int .i64 0, .int .i64 c.version, .int .u64 0]) rfl))
        refine t_nil ?_
        refine ⟨.inr ⟨_, ((hS.pick (A := blkA g4 49 (cmC c)) (by repeat constructor)).pick (A := blkA g3 41 [.int .i64 ({ s with shadow := c.version } : StV).active, .int .i64 ({ s with shadow := c.version } : StV).previous, .int .i64 ({ s with shadow := c.version } : StV).pending, .int .u64 ({ s with shadow := c.version } : StV).at_, .int .i64 ({ s with shadow := c.version } : StV).shadow, .pointer (some ⟨q, 0, none⟩), .int .i64 n, .slice A2 K.length c2]) (by repeat constructor))⟩, ?_⟩
        refine p_q hap hsel 6 rfl rfl ⟨_, ((hS.pick (A := blkA g4 49 (cmC c)) (by repeat constructor)).pick (A := blkA g3 41 [.int .i64 ({ s with shadow := c.version } : StV).active, .int .i64 ({ s with shadow := c.version } : StV).previous, .int .i64 ({ s with shadow := c.version } : StV).pending, .int .u64 ({ s with shadow := c.version } : StV).at_, .int .i64 ({ s with shadow := c.version } : StV).shadow, .pointer (some ⟨q, 0, none⟩), .int .i64 n, .slice A2 K.length c2]) (by repeat constructor))⟩ (fun w hI => q_assign) ?_
        refine p_end (by kernel_rfl) ?_
        refine c_ret ?_
        refine r_three rfl (res1_cellN Try.isAgg41 Try.sizeOf41 rfl (hS.blk (by repeat constructor)) rfl) (res1_cellN Try.isAgg55 Try.sizeOf55 rfl (hS.blk (by repeat constructor)) rfl) rfl ?_
        first
          | (have hX := hne
             obtain ⟨e1, e2, e3, e4⟩ := ap_err h0
             exact ⟨q, A, c1, Y, A2, c2, K, (by first | (rw [e1, e3, he]; done) | (rw [e1, e3, he]; rfl)), hok, by omega, by rw [e2], e4.symm, (fun y hy => .inr hy), ((((((((((hS.pick (A := blkA g3 41 _) (by repeat constructor)).drop.pick (A := blkA g4 49 (cmC c)) (by repeat constructor)).drop.pick (A := blkA g6 41 _) (by repeat constructor)).drop.pick (A := blkA g7 55 _) (by repeat constructor)).drop.pick (A := blkA g10 35 _) (by repeat constructor)).drop.pick (A := blkA g33 141 [.slice A Y.length c1]) (by repeat constructor)).drop.pick (A := rdsA ps) (by repeat constructor)).pick (A := rowA 199 2 A2 K.length c2 (K.flatMap ackC)) (by repeat constructor)).pick (A := rowA 47 9 A Y.length c1 (Y.flatMap RuV.cells)) (by repeat constructor)).pick (A := blkA q 141 [.slice A Y.length c1]) (by repeat constructor))⟩)
          | (have hX := hno
             obtain ⟨e1, e2, e3, e4⟩ := ap_err h0
             exact ⟨q, A, c1, Y, A2, c2, K, (by first | (rw [e1, e3, he]; done) | (rw [e1, e3, he]; rfl)), hok, by omega, by rw [e2], e4.symm, (fun y hy => .inr hy), ((((((((((hS.pick (A := blkA g3 41 _) (by repeat constructor)).drop.pick (A := blkA g4 49 (cmC c)) (by repeat constructor)).drop.pick (A := blkA g6 41 _) (by repeat constructor)).drop.pick (A := blkA g7 55 _) (by repeat constructor)).drop.pick (A := blkA g10 35 _) (by repeat constructor)).drop.pick (A := blkA g13 39 _) (by repeat constructor)).drop.pick (A := rdsA ps) (by repeat constructor)).pick (A := rowA 199 2 A2 K.length c2 (K.flatMap ackC)) (by repeat constructor)).pick (A := rowA 47 9 A Y.length c1 (Y.flatMap RuV.cells)) (by repeat constructor)).pick (A := blkA q 141 [.slice A Y.length c1]) (by repeat constructor))⟩)
          | (have hX := h0
             obtain ⟨e1, e2, e3, e4⟩ := ap_err h0
             exact ⟨q, A, c1, Y, A2, c2, K, (by first | (rw [e1, e3, he]; done) | (rw [e1, e3, he]; rfl)), hok, by omega, by rw [e2], e4.symm, (fun y hy => .inr hy), (((((((((hS.pick (A := blkA g3 41 _) (by repeat constructor)).drop.pick (A := blkA g4 49 (cmC c)) (by repeat constructor)).drop.pick (A := blkA g6 41 _) (by repeat constructor)).drop.pick (A := blkA g7 55 _) (by repeat constructor)).drop.pick (A := blkA g10 35 _) (by repeat constructor)).drop.pick (A := rdsA ps) (by repeat constructor)).pick (A := rowA 199 2 A2 K.length c2 (K.flatMap ackC)) (by repeat constructor)).pick (A := rowA 47 9 A Y.length c1 (Y.flatMap RuV.cells)) (by repeat constructor)).pick (A := blkA q 141 [.slice A Y.length c1]) (by repeat constructor))⟩)
          | (have hX := hg0
             obtain ⟨e1, e2, e3⟩ := ap_ok he
             exact ⟨g33, A', c', Y', A2, c2, K, (by first | (rw [e1, e3, he, hr]; done) | (rw [e1, e3, he, hr]; rfl)), hok, by omega, by rw [e2, hr], by rw [hr]; exact hY', hsub', ((((((((((hS.pick (A := blkA g3 41 _) (by repeat constructor)).drop.pick (A := blkA g4 49 (cmC c)) (by repeat constructor)).drop.pick (A := blkA g6 41 _) (by repeat constructor)).drop.pick (A := blkA g7 55 _) (by repeat constructor)).drop.pick (A := blkA g10 35 _) (by repeat constructor)).drop.pick (A := blkA q 141 [.slice A Y.length c1]) (by repeat constructor)).drop.pick (A := rdsA ps) (by repeat constructor)).pick (A := rowA 199 2 A2 K.length c2 (K.flatMap ackC)) (by repeat constructor)).pick (A := rowA 47 9 A' Y'.length c' (Y'.flatMap RuV.cells)) (by repeat constructor)).pick (A := blkA g33 141 [.slice A' Y'.length c']) (by repeat constructor))⟩)
          | (have hX := hin
             obtain ⟨e1, e2, e3⟩ := ap_ok he
             exact ⟨q, A, c1, Y, A4, c4, (K ++ [(c.replica, c.version)]), (by first | (rw [e1, e3, he, hr]; done) | (rw [e1, e3, he, hr]; rfl)), hok.snoc6 hin, by rw [List.length_append]; exact Nat.le_refl _, by rw [e2, hr]; exact (congrArg (tcs n) (if_pos hin)).trans (ofF_add6 hin.1.1), by rw [hr], (fun y hy => .inr hy), ((((((((((hS.pick (A := blkA g3 41 _) (by repeat constructor)).drop.pick (A := blkA g4 49 (cmC c)) (by repeat constructor)).drop.pick (A := blkA g6 41 _) (by repeat constructor)).drop.pick (A := blkA g7 55 _) (by repeat constructor)).drop.pick (A := blkA g10 35 _) (by repeat constructor)).drop.pick (A := blkA g13 39 _) (by repeat constructor)).drop.pick (A := rdsA ps) (by repeat constructor)).pick (A := rowA 199 2 A4 (K ++ [(c.replica, c.version)]).length c4 ((K ++ [(c.replica, c.version)]).flatMap ackC)) (by repeat constructor)).pick (A := rowA 47 9 A Y.length c1 (Y.flatMap RuV.cells)) (by repeat constructor)).pick (A := blkA q 141 [.slice A Y.length c1]) (by repeat constructor))⟩)
          | (have hX := he
             obtain ⟨e1, e2, e3⟩ := ap_ok he
             exact ⟨q, A, c1, Y, A2, c2, K, (by first | (rw [e1, e3, he, hr]; done) | (rw [e1, e3, he, hr]; rfl)), hok, by omega, by rw [e2, hr], by rw [hr], (fun y hy => .inr hy), (((((((((hS.pick (A := blkA g3 41 _) (by repeat constructor)).drop.pick (A := blkA g4 49 (cmC c)) (by repeat constructor)).drop.pick (A := blkA g6 41 _) (by repeat constructor)).drop.pick (A := blkA g7 55 _) (by repeat constructor)).drop.pick (A := blkA g10 35 _) (by repeat constructor)).drop.pick (A := rdsA ps) (by repeat constructor)).pick (A := rowA 199 2 A2 K.length c2 (K.flatMap ackC)) (by repeat constructor)).pick (A := rowA 47 9 A Y.length c1 (Y.flatMap RuV.cells)) (by repeat constructor)).pick (A := blkA q 141 [.slice A Y.length c1]) (by repeat constructor))⟩)
   ·
    intro hc17
    have hc17d := of_decide_eq_false hc17
    refine c_seq (c_region ?_)
    refine t_q (q_eql rfl rfl) ?_
    refine t_q (q_as (.bool _) rfl) ?_
    refine t_nil ?_
    refine c_cond rfl ?_ ?_
    ·
     intro hc26
     have hc26d := of_decide_eq_true hc26
     have hk := hc26d
     refine c_seq (c_seq (c_region ?_))
     refine t_q (q_fieldAddr 4 Try.runUnderlying35 rfl Try.sizeOf3 (by decide) rfl rfl) ?_
     refine t_q (q_load1 Try.isAgg3 rfl (hS.cell (by repeat constructor) rfl)) ?_
     refine t_q (q_eql rfl rfl) ?_
     refine t_nil ?_
     refine c_cond rfl ?_ ?_
     ·
      intro hc28
      have hc28d := of_decide_eq_true hc28
      have he : (apV s (Y.map nf) n (ofF K) c i).e = 54 := by rw [ap_12a hk (by omega)]
      have h0 : (apV s (Y.map nf) n (ofF K) c i).e ≠ 0 := by rw [he]; decide
      refine c_seq (c_region ?_)
      refine t_q (q_cast (v' := .agg (([.int .i64 s.active, .int .i64 s.previous, .int .i64 s.pending, .int .u64 s.at_, .int .i64 s.shadow, .pointer (some ⟨q, 0, none⟩), .int .i64 n, .slice A2 K.length c2] : List Value)).toArray) (q_load_blk Try.isAgg41 Try.sizeOf41 rfl (hS.blk (by repeat constructor)) rfl) (by rfl)) ?_
      refine t_q (q_build (qs := [(0, 1), (1, 1), (2, 1), (3, 1), (4, 1), (5, 1), (6, 1), (7, 1), (8, 1), (9, 1), (10, 1), (11, 1)]) [(.int _ _), (.int _ _), (.int _ _), (.int _ _), (.int _ _), (.int _ _), (.int _ _), (.int _ _), (.int _ _), (.int _ _), (.int _ _), (.int _ _)] Try.zeroValue55 Try.runUnderlying55 ⟨rfl, Try.sizeOf3, rfl, Try.sizeOf3, rfl, Try.sizeOf26, rfl, Try.sizeOf26, rfl, Try.sizeOf3, rfl, Try.sizeOf2, rfl, Try.sizeOf2, rfl, Try.sizeOf2, rfl, Try.sizeOf2, rfl, Try.sizeOf53, rfl, Try.sizeOf3, rfl, Try.sizeOf26, trivial⟩ rfl rfl) ?_
      refine t_store (v := (.agg _)) Try.sizeOf41 hS (by repeat constructor) rfl rfl rfl rfl rfl rfl (fun w hS => ?_)
      replace hS := hS.recast (congrArg (blkA g6 41) (rset_full (vs := [.int .i64 s.active, .int .i64 s.previous, .int .i64 s.pending, .int .u64 s.at_, .int .i64 s.shadow, .pointer (some ⟨q, 0, none⟩), .int .i64 n, .slice A2 K.length c2]) rfl))
      refine t_store (v := (.agg _)) Try.sizeOf55 hS (by repeat constructor) rfl rfl rfl rfl rfl rfl (fun w hS => ?_)
      replace hS := hS.recast (congrArg (blkA g7 55) (rset_full (vs := evZ.cells) rfl))
      refine t_q (q_assign) ?_
      refine t_nil (c_ret ?_)
      refine r_three rfl (res1_cellN Try.isAgg41 Try.sizeOf41 rfl (hS.blk (by repeat constructor)) rfl) (res1_cellN Try.isAgg55 Try.sizeOf55 rfl (hS.blk (by repeat constructor)) rfl) rfl ?_
      first
        | (have hX := hne
           obtain ⟨e1, e2, e3, e4⟩ := ap_err h0
           exact ⟨q, A, c1, Y, A2, c2, K, (by first | (rw [e1, e3, he]; done) | (rw [e1, e3, he]; rfl)), hok, by omega, by rw [e2], e4.symm, (fun y hy => .inr hy), ((((((((((hS.pick (A := blkA g3 41 _) (by repeat constructor)).drop.pick (A := blkA g4 49 (cmC c)) (by repeat constructor)).drop.pick (A := blkA g6 41 _) (by repeat constructor)).drop.pick (A := blkA g7 55 _) (by repeat constructor)).drop.pick (A := blkA g10 35 _) (by repeat constructor)).drop.pick (A := blkA g33 141 [.slice A Y.length c1]) (by repeat constructor)).drop.pick (A := rdsA ps) (by repeat constructor)).pick (A := rowA 199 2 A2 K.length c2 (K.flatMap ackC)) (by repeat constructor)).pick (A := rowA 47 9 A Y.length c1 (Y.flatMap RuV.cells)) (by repeat constructor)).pick (A := blkA q 141 [.slice A Y.length c1]) (by repeat constructor))⟩)
        | (have hX := hno
           obtain ⟨e1, e2, e3, e4⟩ := ap_err h0
           exact ⟨q, A, c1, Y, A2, c2, K, (by first | (rw [e1, e3, he]; done) | (rw [e1, e3, he]; rfl)), hok, by omega, by rw [e2], e4.symm, (fun y hy => .inr hy), ((((((((((hS.pick (A := blkA g3 41 _) (by repeat constructor)).drop.pick (A := blkA g4 49 (cmC c)) (by repeat constructor)).drop.pick (A := blkA g6 41 _) (by repeat constructor)).drop.pick (A := blkA g7 55 _) (by repeat constructor)).drop.pick (A := blkA g10 35 _) (by repeat constructor)).drop.pick (A := blkA g13 39 _) (by repeat constructor)).drop.pick (A := rdsA ps) (by repeat constructor)).pick (A := rowA 199 2 A2 K.length c2 (K.flatMap ackC)) (by repeat constructor)).pick (A := rowA 47 9 A Y.length c1 (Y.flatMap RuV.cells)) (by repeat constructor)).pick (A := blkA q 141 [.slice A Y.length c1]) (by repeat constructor))⟩)
        | (have hX := h0
           obtain ⟨e1, e2, e3, e4⟩ := ap_err h0
           exact ⟨q, A, c1, Y, A2, c2, K, (by first | (rw [e1, e3, he]; done) | (rw [e1, e3, he]; rfl)), hok, by omega, by rw [e2], e4.symm, (fun y hy => .inr hy), (((((((((hS.pick (A := blkA g3 41 _) (by repeat constructor)).drop.pick (A := blkA g4 49 (cmC c)) (by repeat constructor)).drop.pick (A := blkA g6 41 _) (by repeat constructor)).drop.pick (A := blkA g7 55 _) (by repeat constructor)).drop.pick (A := blkA g10 35 _) (by repeat constructor)).drop.pick (A := rdsA ps) (by repeat constructor)).pick (A := rowA 199 2 A2 K.length c2 (K.flatMap ackC)) (by repeat constructor)).pick (A := rowA 47 9 A Y.length c1 (Y.flatMap RuV.cells)) (by repeat constructor)).pick (A := blkA q 141 [.slice A Y.length c1]) (by repeat constructor))⟩)
        | (have hX := hg0
           obtain ⟨e1, e2, e3⟩ := ap_ok he
           exact ⟨g33, A', c', Y', A2, c2, K, (by first | (rw [e1, e3, he, hr]; done) | (rw [e1, e3, he, hr]; rfl)), hok, by omega, by rw [e2, hr], by rw [hr]; exact hY', hsub', ((((((((((hS.pick (A := blkA g3 41 _) (by repeat constructor)).drop.pick (A := blkA g4 49 (cmC c)) (by repeat constructor)).drop.pick (A := blkA g6 41 _) (by repeat constructor)).drop.pick (A := blkA g7 55 _) (by repeat constructor)).drop.pick (A := blkA g10 35 _) (by repeat constructor)).drop.pick (A := blkA q 141 [.slice A Y.length c1]) (by repeat constructor)).drop.pick (A := rdsA ps) (by repeat constructor)).pick (A := rowA 199 2 A2 K.length c2 (K.flatMap ackC)) (by repeat constructor)).pick (A := rowA 47 9 A' Y'.length c' (Y'.flatMap RuV.cells)) (by repeat constructor)).pick (A := blkA g33 141 [.slice A' Y'.length c']) (by repeat constructor))⟩)
        | (have hX := hin
           obtain ⟨e1, e2, e3⟩ := ap_ok he
           exact ⟨q, A, c1, Y, A4, c4, (K ++ [(c.replica, c.version)]), (by first | (rw [e1, e3, he, hr]; done) | (rw [e1, e3, he, hr]; rfl)), hok.snoc6 hin, by rw [List.length_append]; exact Nat.le_refl _, by rw [e2, hr]; exact (congrArg (tcs n) (if_pos hin)).trans (ofF_add6 hin.1.1), by rw [hr], (fun y hy => .inr hy), ((((((((((hS.pick (A := blkA g3 41 _) (by repeat constructor)).drop.pick (A := blkA g4 49 (cmC c)) (by repeat constructor)).drop.pick (A := blkA g6 41 _) (by repeat constructor)).drop.pick (A := blkA g7 55 _) (by repeat constructor)).drop.pick (A := blkA g10 35 _) (by repeat constructor)).drop.pick (A := blkA g13 39 _) (by repeat constructor)).drop.pick (A := rdsA ps) (by repeat constructor)).pick (A := rowA 199 2 A4 (K ++ [(c.replica, c.version)]).length c4 ((K ++ [(c.replica, c.version)]).flatMap ackC)) (by repeat constructor)).pick (A := rowA 47 9 A Y.length c1 (Y.flatMap RuV.cells)) (by repeat constructor)).pick (A := blkA q 141 [.slice A Y.length c1]) (by repeat constructor))⟩)
        | (have hX := he
           obtain ⟨e1, e2, e3⟩ := ap_ok he
           exact ⟨q, A, c1, Y, A2, c2, K, (by first | (rw [e1, e3, he, hr]; done) | (rw [e1, e3, he, hr]; rfl)), hok, by omega, by rw [e2, hr], by rw [hr], (fun y hy => .inr hy), (((((((((hS.pick (A := blkA g3 41 _) (by repeat constructor)).drop.pick (A := blkA g4 49 (cmC c)) (by repeat constructor)).drop.pick (A := blkA g6 41 _) (by repeat constructor)).drop.pick (A := blkA g7 55 _) (by repeat constructor)).drop.pick (A := blkA g10 35 _) (by repeat constructor)).drop.pick (A := rdsA ps) (by repeat constructor)).pick (A := rowA 199 2 A2 K.length c2 (K.flatMap ackC)) (by repeat constructor)).pick (A := rowA 47 9 A Y.length c1 (Y.flatMap RuV.cells)) (by repeat constructor)).pick (A := blkA q 141 [.slice A Y.length c1]) (by repeat constructor))⟩)
     ·
      intro hc28
      have hc28d := of_decide_eq_false hc28
      have hr := ap_12b (s := s) (M := (Y.map nf)) (n := n) (a := ofF K) (i := i) hk (by omega)
      have he : (apV s (Y.map nf) n (ofF K) c i).e = 0 := by rw [hr]
      refine c_skip (c_seq (c_region ?_))
      refine t_q (q_fieldAddr 0 Try.runUnderlying41 rfl Try.sizeOf35 (by decide) rfl rfl) ?_
      refine t_q (q_fieldAddr 4 Try.runUnderlying35 rfl Try.sizeOf3 (by decide) rfl rfl) ?_
      refine t_store (v := (.int _ _)) Try.sizeOf3 hS (by repeat constructor) rfl rfl rfl rfl rfl rfl (fun w hS => ?_)
      replace hS := hS.recast (show blkA g3 41 _ = blkA g3 41 [.int .i64 ({ s with shadow := 0 } : StV).active, .int .i64 ({ s with shadow := 0 } : StV).previous, .int .i64 ({ s with shadow := 0 } : StV).pending, .int .u64 ({ s with shadow := 0 } : StV).at_, .int .i64 ({ s with shadow := 0 } : StV).shadow, .pointer (some ⟨q, 0, none⟩), .int .i64 n, .slice A2 K.length c2] from rfl)
      refine t_nil (c_seq (c_draw ?_))
      refine d_keep2 (blkA g3 41 [.int .i64 ({ s with shadow := 0 } : StV).active, .int .i64 ({ s with shadow := 0 } : StV).previous, .int .i64 ({ s with shadow := 0 } : StV).pending, .int .u64 ({ s with shadow := 0 } : StV).at_, .int .i64 ({ s with shadow := 0 } : StV).shadow, .pointer (some ⟨q, 0, none⟩), .int .i64 n, .slice A2 K.length c2]) (blkA g10 35 [.int .i64 s.active, .int .i64 s.previous, .int .i64 s.pending, .int .u64 s.at_, .int .i64 s.shadow]) 7 [0, 1, 2, 3, 4, 5, 6] [0, 4, 1, 2, 3, 5, 6] hS rfl (by kernel_rfl) (by kernel_rfl) (by kernel_rfl) (by kernel_rfl) (fun hap hsel w hS => ?_)
      refine p_q hap hsel 0 rfl rfl ⟨_, ((hS.pick (A := blkA g10 35 [.int .i64 s.active, .int .i64 s.previous, .int .i64 s.pending, .int .u64 s.at_, .int .i64 s.shadow]) (by repeat constructor)).pick (A := blkA g3 41 [.int .i64 ({ s with shadow := 0 } : StV).active, .int .i64 ({ s with shadow := 0 } : StV).previous, .int .i64 ({ s with shadow := 0 } : StV).pending, .int .u64 ({ s with shadow := 0 } : StV).at_, .int .i64 ({ s with shadow := 0 } : StV).shadow, .pointer (some ⟨q, 0, none⟩), .int .i64 n, .slice A2 K.length c2]) (by repeat constructor))⟩ (fun w hI => (q_cast (v' := .agg (([.int .i64 ({ s with shadow := 0 } : StV).active, .int .i64 ({ s with shadow := 0 } : StV).previous, .int .i64 ({ s with shadow := 0 } : StV).pending, .int .u64 ({ s with shadow := 0 } : StV).at_, .int .i64 ({ s with shadow := 0 } : StV).shadow, .pointer (some ⟨q, 0, none⟩), .int .i64 n, .slice A2 K.length c2] : List Value)).toArray) (q_load_blk Try.isAgg41 Try.sizeOf41 rfl (hI.choose_spec.blk (by repeat constructor)) rfl) (by rfl))) ?_
      refine p_q hap hsel 1 rfl rfl ⟨_, ((hS.pick (A := blkA g10 35 [.int .i64 s.active, .int .i64 s.previous, .int .i64 s.pending, .int .u64 s.at_, .int .i64 s.shadow]) (by repeat constructor)).pick (A := blkA g3 41 [.int .i64 ({ s with shadow := 0 } : StV).active, .int .i64 ({ s with shadow := 0 } : StV).previous, .int .i64 ({ s with shadow := 0 } : StV).pending, .int .u64 ({ s with shadow := 0 } : StV).at_, .int .i64 ({ s with shadow := 0 } : StV).shadow, .pointer (some ⟨q, 0, none⟩), .int .i64 n, .slice A2 K.length c2]) (by repeat constructor))⟩ (fun w hI => q_fieldAddr 4 Try.runUnderlying35 rfl Try.sizeOf3 (by decide) rfl rfl) ?_
      refine p_q hap hsel 2 rfl rfl ⟨_, ((hS.pick (A := blkA g10 35 [.int .i64 s.active, .int .i64 s.previous, .int .i64 s.pending, .int .u64 s.at_, .int .i64 s.shadow]) (by repeat constructor)).pick (A := blkA g3 41 [.int .i64 ({ s with shadow := 0 } : StV).active, .int .i64 ({ s with shadow := 0 } : StV).previous, .int .i64 ({ s with shadow := 0 } : StV).pending, .int .u64 ({ s with shadow := 0 } : StV).at_, .int .i64 ({ s with shadow := 0 } : StV).shadow, .pointer (some ⟨q, 0, none⟩), .int .i64 n, .slice A2 K.length c2]) (by repeat constructor))⟩ (fun w hI => q_load1 Try.isAgg3 rfl (hI.choose_spec.cell (by repeat constructor) rfl)) ?_
      refine p_q hap hsel 3 rfl rfl ⟨_, ((hS.pick (A := blkA g10 35 [.int .i64 s.active, .int .i64 s.previous, .int .i64 s.pending, .int .u64 s.at_, .int .i64 s.shadow]) (by repeat constructor)).pick (A := blkA g3 41 [.int .i64 ({ s with shadow := 0 } : StV).active, .int .i64 ({ s with shadow := 0 } : StV).previous, .int .i64 ({ s with shadow := 0 } : StV).pending, .int .u64 ({ s with shadow := 0 } : StV).at_, .int .i64 ({ s with shadow := 0 } : StV).shadow, .pointer (some ⟨q, 0, none⟩), .int .i64 n, .slice A2 K.length c2]) (by repeat constructor))⟩ (fun w hI => q_build (qs := [(0, 1), (1, 1), (2, 1), (3, 1), (4, 1), (5, 1), (6, 1), (7, 1), (8, 1), (9, 1), (10, 1), (11, 1)]) [(.int _ _), (.int _ _), (.int _ _), (.int _ _), (.int _ _), (.int _ _), (.int _ _), (.int _ _), (.int _ _), (.int _ _), (.int _ _), (.int _ _)] Try.zeroValue55 Try.runUnderlying55 ⟨rfl, Try.sizeOf3, rfl, Try.sizeOf3, rfl, Try.sizeOf26, rfl, Try.sizeOf26, rfl, Try.sizeOf3, rfl, Try.sizeOf2, rfl, Try.sizeOf2, rfl, Try.sizeOf2, rfl, Try.sizeOf2, rfl, Try.sizeOf53, rfl, Try.sizeOf3, rfl, Try.sizeOf26, trivial⟩ rfl rfl) ?_
      refine p_one 4 rfl (by kernel_rfl) ?_
      refine t_store (v := (.agg _)) Try.sizeOf41 hS (by repeat constructor) rfl rfl rfl rfl rfl rfl (fun w hS => ?_)
      replace hS := hS.recast (congrArg (blkA g6 41) (rset_full (vs := [.int .i64 ({ s with shadow := 0 } : StV).active, .int .i64 ({ s with shadow := 0 } : StV).previous, .int .i64 ({ s with shadow := 0 } : StV).pending, .int .u64 ({ s with shadow := 0 } : StV).at_, .int .i64 ({ s with shadow := 0 } : StV).shadow, .pointer (some ⟨q, 0, none⟩), .int .i64 n, .slice A2 K.length c2]) rfl))
      refine t_nil ?_
      refine ⟨.inr ⟨_, ((hS.pick (A := blkA g10 35 [.int .i64 s.active, .int .i64 s.previous, .int .i64 s.pending, .int .u64 s.at_, .int .i64 s.shadow]) (by repeat constructor)).pick (A := blkA g3 41 [.int .i64 ({ s with shadow := 0 } : StV).active, .int .i64 ({ s with shadow := 0 } : StV).previous, .int .i64 ({ s with shadow := 0 } : StV).pending, .int .u64 ({ s with shadow := 0 } : StV).at_, .int .i64 ({ s with shadow := 0 } : StV).shadow, .pointer (some ⟨q, 0, none⟩), .int .i64 n, .slice A2 K.length c2]) (by repeat constructor))⟩, ?_⟩
      refine p_one 5 rfl (by kernel_rfl) ?_
      refine t_store (v := (.agg _)) Try.sizeOf55 hS (by repeat constructor) rfl rfl rfl rfl rfl rfl (fun w hS => ?_)
      replace hS := hS.recast (congrArg (blkA g7 55) (rset_full (vs := [.int .i64 11, .int .i64 0, .int .u64 0, .int .u64 0, .int .i64 0, .int .i64 0, .int .i64 0, .int .i64 0, .int .i64 0, .int .i64 0, .int .i64 s.shadow, .int .u64 0]) rfl))
      refine t_nil ?_
      refine ⟨.inr ⟨_, ((hS.pick (A := blkA g10 35 [.int .i64 s.active, .int .i64 s.previous, .int .i64 s.pending, .int .u64 s.at_, .int .i64 s.shadow]) (by repeat constructor)).pick (A := blkA g3 41 [.int .i64 ({ s with shadow := 0 } : StV).active, .int .i64 ({ s with shadow := 0 } : StV).previous, .int .i64 ({ s with shadow := 0 } : StV).pending, .int .u64 ({ s with shadow := 0 } : StV).at_, .int .i64 ({ s with shadow := 0 } : StV).shadow, .pointer (some ⟨q, 0, none⟩), .int .i64 n, .slice A2 K.length c2]) (by repeat constructor))⟩, ?_⟩
      refine p_q hap hsel 6 rfl rfl ⟨_, ((hS.pick (A := blkA g10 35 [.int .i64 s.active, .int .i64 s.previous, .int .i64 s.pending, .int .u64 s.at_, .int .i64 s.shadow]) (by repeat constructor)).pick (A := blkA g3 41 [.int .i64 ({ s with shadow := 0 } : StV).active, .int .i64 ({ s with shadow := 0 } : StV).previous, .int .i64 ({ s with shadow := 0 } : StV).pending, .int .u64 ({ s with shadow := 0 } : StV).at_, .int .i64 ({ s with shadow := 0 } : StV).shadow, .pointer (some ⟨q, 0, none⟩), .int .i64 n, .slice A2 K.length c2]) (by repeat constructor))⟩ (fun w hI => q_assign) ?_
      refine p_end (by kernel_rfl) ?_
      refine c_ret ?_
      refine r_three rfl (res1_cellN Try.isAgg41 Try.sizeOf41 rfl (hS.blk (by repeat constructor)) rfl) (res1_cellN Try.isAgg55 Try.sizeOf55 rfl (hS.blk (by repeat constructor)) rfl) rfl ?_
      first
        | (have hX := hne
           obtain ⟨e1, e2, e3, e4⟩ := ap_err h0
           exact ⟨q, A, c1, Y, A2, c2, K, (by first | (rw [e1, e3, he]; done) | (rw [e1, e3, he]; rfl)), hok, by omega, by rw [e2], e4.symm, (fun y hy => .inr hy), ((((((((((hS.pick (A := blkA g3 41 _) (by repeat constructor)).drop.pick (A := blkA g4 49 (cmC c)) (by repeat constructor)).drop.pick (A := blkA g6 41 _) (by repeat constructor)).drop.pick (A := blkA g7 55 _) (by repeat constructor)).drop.pick (A := blkA g10 35 _) (by repeat constructor)).drop.pick (A := blkA g33 141 [.slice A Y.length c1]) (by repeat constructor)).drop.pick (A := rdsA ps) (by repeat constructor)).pick (A := rowA 199 2 A2 K.length c2 (K.flatMap ackC)) (by repeat constructor)).pick (A := rowA 47 9 A Y.length c1 (Y.flatMap RuV.cells)) (by repeat constructor)).pick (A := blkA q 141 [.slice A Y.length c1]) (by repeat constructor))⟩)
        | (have hX := hno
           obtain ⟨e1, e2, e3, e4⟩ := ap_err h0
           exact ⟨q, A, c1, Y, A2, c2, K, (by first | (rw [e1, e3, he]; done) | (rw [e1, e3, he]; rfl)), hok, by omega, by rw [e2], e4.symm, (fun y hy => .inr hy), ((((((((((hS.pick (A := blkA g3 41 _) (by repeat constructor)).drop.pick (A := blkA g4 49 (cmC c)) (by repeat constructor)).drop.pick (A := blkA g6 41 _) (by repeat constructor)).drop.pick (A := blkA g7 55 _) (by repeat constructor)).drop.pick (A := blkA g10 35 _) (by repeat constructor)).drop.pick (A := blkA g13 39 _) (by repeat constructor)).drop.pick (A := rdsA ps) (by repeat constructor)).pick (A := rowA 199 2 A2 K.length c2 (K.flatMap ackC)) (by repeat constructor)).pick (A := rowA 47 9 A Y.length c1 (Y.flatMap RuV.cells)) (by repeat constructor)).pick (A := blkA q 141 [.slice A Y.length c1]) (by repeat constructor))⟩)
        | (have hX := h0
           obtain ⟨e1, e2, e3, e4⟩ := ap_err h0
           exact ⟨q, A, c1, Y, A2, c2, K, (by first | (rw [e1, e3, he]; done) | (rw [e1, e3, he]; rfl)), hok, by omega, by rw [e2], e4.symm, (fun y hy => .inr hy), (((((((((hS.pick (A := blkA g3 41 _) (by repeat constructor)).drop.pick (A := blkA g4 49 (cmC c)) (by repeat constructor)).drop.pick (A := blkA g6 41 _) (by repeat constructor)).drop.pick (A := blkA g7 55 _) (by repeat constructor)).drop.pick (A := blkA g10 35 _) (by repeat constructor)).drop.pick (A := rdsA ps) (by repeat constructor)).pick (A := rowA 199 2 A2 K.length c2 (K.flatMap ackC)) (by repeat constructor)).pick (A := rowA 47 9 A Y.length c1 (Y.flatMap RuV.cells)) (by repeat constructor)).pick (A := blkA q 141 [.slice A Y.length c1]) (by repeat constructor))⟩)
        | (have hX := hg0
           obtain ⟨e1, e2, e3⟩ := ap_ok he
           exact ⟨g33, A', c', Y', A2, c2, K, (by first | (rw [e1, e3, he, hr]; done) | (rw [e1, e3, he, hr]; rfl)), hok, by omega, by rw [e2, hr], by rw [hr]; exact hY', hsub', ((((((((((hS.pick (A := blkA g3 41 _) (by repeat constructor)).drop.pick (A := blkA g4 49 (cmC c)) (by repeat constructor)).drop.pick (A := blkA g6 41 _) (by repeat constructor)).drop.pick (A := blkA g7 55 _) (by repeat constructor)).drop.pick (A := blkA g10 35 _) (by repeat constructor)).drop.pick (A := blkA q 141 [.slice A Y.length c1]) (by repeat constructor)).drop.pick (A := rdsA ps) (by repeat constructor)).pick (A := rowA 199 2 A2 K.length c2 (K.flatMap ackC)) (by repeat constructor)).pick (A := rowA 47 9 A' Y'.length c' (Y'.flatMap RuV.cells)) (by repeat constructor)).pick (A := blkA g33 141 [.slice A' Y'.length c']) (by repeat constructor))⟩)
        | (have hX := hin
           obtain ⟨e1, e2, e3⟩ := ap_ok he
           exact ⟨q, A, c1, Y, A4, c4, (K ++ [(c.replica, c.version)]), (by first | (rw [e1, e3, he, hr]; done) | (rw [e1, e3, he, hr]; rfl)), hok.snoc6 hin, by rw [List.length_append]; exact Nat.le_refl _, by rw [e2, hr]; exact (congrArg (tcs n) (if_pos hin)).trans (ofF_add6 hin.1.1), by rw [hr], (fun y hy => .inr hy), ((((((((((hS.pick (A := blkA g3 41 _) (by repeat constructor)).drop.pick (A := blkA g4 49 (cmC c)) (by repeat constructor)).drop.pick (A := blkA g6 41 _) (by repeat constructor)).drop.pick (A := blkA g7 55 _) (by repeat constructor)).drop.pick (A := blkA g10 35 _) (by repeat constructor)).drop.pick (A := blkA g13 39 _) (by repeat constructor)).drop.pick (A := rdsA ps) (by repeat constructor)).pick (A := rowA 199 2 A4 (K ++ [(c.replica, c.version)]).length c4 ((K ++ [(c.replica, c.version)]).flatMap ackC)) (by repeat constructor)).pick (A := rowA 47 9 A Y.length c1 (Y.flatMap RuV.cells)) (by repeat constructor)).pick (A := blkA q 141 [.slice A Y.length c1]) (by repeat constructor))⟩)
        | (have hX := he
           obtain ⟨e1, e2, e3⟩ := ap_ok he
           exact ⟨q, A, c1, Y, A2, c2, K, (by first | (rw [e1, e3, he, hr]; done) | (rw [e1, e3, he, hr]; rfl)), hok, by omega, by rw [e2, hr], by rw [hr], (fun y hy => .inr hy), (((((((((hS.pick (A := blkA g3 41 _) (by repeat constructor)).drop.pick (A := blkA g4 49 (cmC c)) (by repeat constructor)).drop.pick (A := blkA g6 41 _) (by repeat constructor)).drop.pick (A := blkA g7 55 _) (by repeat constructor)).drop.pick (A := blkA g10 35 _) (by repeat constructor)).drop.pick (A := rdsA ps) (by repeat constructor)).pick (A := rowA 199 2 A2 K.length c2 (K.flatMap ackC)) (by repeat constructor)).pick (A := rowA 47 9 A Y.length c1 (Y.flatMap RuV.cells)) (by repeat constructor)).pick (A := blkA q 141 [.slice A Y.length c1]) (by repeat constructor))⟩)
    ·
     intro hc26
     have hc26d := of_decide_eq_false hc26
     refine c_seq (c_region ?_)
     refine t_q (q_eql rfl rfl) ?_
     refine t_q (q_as (.bool _) rfl) ?_
     refine t_nil ?_
     refine c_cond rfl ?_ ?_
     ·
      intro hc30
      have hc30d := of_decide_eq_true hc30
      have hk := hc30d
      refine c_seq (c_seq (c_region ?_))
      refine t_q (q_mv (.bool _) rfl) ?_
      refine t_q (q_not rfl) ?_
      refine t_nil ?_
      refine c_cond rfl ?_ ?_
      ·
       intro hc31
       have hc31d := of_decide_eq_false (not_back hc31)
       have hkc : vknownE (Y.map nf) c.version = 51 := by omega
       have hrd : vreadyE (Y.map nf) s c.version s.pending = 51 := by unfold vreadyE; rw [if_pos (by omega)]
       have he : (apV s (Y.map nf) n (ofF K) c i).e = 51 := by rw [ap_13 hk]; show vschedE (Y.map nf) s n (ofF K) c.version c.at_ i = 51; unfold vschedE; rw [if_pos (by rw [hrd]; decide), hrd]
       have h0 : (apV s (Y.map nf) n (ofF K) c i).e ≠ 0 := by rw [he]; decide
       refine c_seq (c_region ?_)
       refine t_q (q_cast (v' := .agg (([.int .i64 s.active, .int .i64 s.previous, .int .i64 s.pending, .int .u64 s.at_, .int .i64 s.shadow, .pointer (some ⟨q, 0, none⟩), .int .i64 n, .slice A2 K.length c2] : List Value)).toArray) (q_load_blk Try.isAgg41 Try.sizeOf41 rfl (hS.blk (by repeat constructor)) rfl) (by rfl)) ?_
       refine t_q (q_build (qs := [(0, 1), (1, 1), (2, 1), (3, 1), (4, 1), (5, 1), (6, 1), (7, 1), (8, 1), (9, 1), (10, 1), (11, 1)]) [(.int _ _), (.int _ _), (.int _ _), (.int _ _), (.int _ _), (.int _ _), (.int _ _), (.int _ _), (.int _ _), (.int _ _), (.int _ _), (.int _ _)] Try.zeroValue55 Try.runUnderlying55 ⟨rfl, Try.sizeOf3, rfl, Try.sizeOf3, rfl, Try.sizeOf26, rfl, Try.sizeOf26, rfl, Try.sizeOf3, rfl, Try.sizeOf2, rfl, Try.sizeOf2, rfl, Try.sizeOf2, rfl, Try.sizeOf2, rfl, Try.sizeOf53, rfl, Try.sizeOf3, rfl, Try.sizeOf26, trivial⟩ rfl rfl) ?_
       refine t_store (v := (.agg _)) Try.sizeOf41 hS (by repeat constructor) rfl rfl rfl rfl rfl rfl (fun w hS => ?_)
       replace hS := hS.recast (congrArg (blkA g6 41) (rset_full (vs := [.int .i64 s.active, .int .i64 s.previous, .int .i64 s.pending, .int .u64 s.at_, .int .i64 s.shadow, .pointer (some ⟨q, 0, none⟩), .int .i64 n, .slice A2 K.length c2]) rfl))
       refine t_store (v := (.agg _)) Try.sizeOf55 hS (by repeat constructor) rfl rfl rfl rfl rfl rfl (fun w hS => ?_)
       replace hS := hS.recast (congrArg (blkA g7 55) (rset_full (vs := evZ.cells) rfl))
       refine t_q (q_assign) ?_
       refine t_nil (c_ret ?_)
       refine r_three rfl (res1_cellN Try.isAgg41 Try.sizeOf41 rfl (hS.blk (by repeat constructor)) rfl) (res1_cellN Try.isAgg55 Try.sizeOf55 rfl (hS.blk (by repeat constructor)) rfl) rfl ?_
       first
         | (have hX := hne
            obtain ⟨e1, e2, e3, e4⟩ := ap_err h0
            exact ⟨q, A, c1, Y, A2, c2, K, (by first | (rw [e1, e3, he]; done) | (rw [e1, e3, he]; rfl)), hok, by omega, by rw [e2], e4.symm, (fun y hy => .inr hy), ((((((((((hS.pick (A := blkA g3 41 _) (by repeat constructor)).drop.pick (A := blkA g4 49 (cmC c)) (by repeat constructor)).drop.pick (A := blkA g6 41 _) (by repeat constructor)).drop.pick (A := blkA g7 55 _) (by repeat constructor)).drop.pick (A := blkA g10 35 _) (by repeat constructor)).drop.pick (A := blkA g33 141 [.slice A Y.length c1]) (by repeat constructor)).drop.pick (A := rdsA ps) (by repeat constructor)).pick (A := rowA 199 2 A2 K.length c2 (K.flatMap ackC)) (by repeat constructor)).pick (A := rowA 47 9 A Y.length c1 (Y.flatMap RuV.cells)) (by repeat constructor)).pick (A := blkA q 141 [.slice A Y.length c1]) (by repeat constructor))⟩)
         | (have hX := hno
            obtain ⟨e1, e2, e3, e4⟩ := ap_err h0
            exact ⟨q, A, c1, Y, A2, c2, K, (by first | (rw [e1, e3, he]; done) | (rw [e1, e3, he]; rfl)), hok, by omega, by rw [e2], e4.symm, (fun y hy => .inr hy), ((((((((((hS.pick (A := blkA g3 41 _) (by repeat constructor)).drop.pick (A := blkA g4 49 (cmC c)) (by repeat constructor)).drop.pick (A := blkA g6 41 _) (by repeat constructor)).drop.pick (A := blkA g7 55 _) (by repeat constructor)).drop.pick (A := blkA g10 35 _) (by repeat constructor)).drop.pick (A := blkA g13 39 _) (by repeat constructor)).drop.pick (A := rdsA ps) (by repeat constructor)).pick (A := rowA 199 2 A2 K.length c2 (K.flatMap ackC)) (by repeat constructor)).pick (A := rowA 47 9 A Y.length c1 (Y.flatMap RuV.cells)) (by repeat constructor)).pick (A := blkA q 141 [.slice A Y.length c1]) (by repeat constructor))⟩)
         | (have hX := h0
            obtain ⟨e1, e2, e3, e4⟩ := ap_err h0
            exact ⟨q, A, c1, Y, A2, c2, K, (by first | (rw [e1, e3, he]; done) | (rw [e1, e3, he]; rfl)), hok, by omega, by rw [e2], e4.symm, (fun y hy => .inr hy), (((((((((hS.pick (A := blkA g3 41 _) (by repeat constructor)).drop.pick (A := blkA g4 49 (cmC c)) (by repeat constructor)).drop.pick (A := blkA g6 41 _) (by repeat constructor)).drop.pick (A := blkA g7 55 _) (by repeat constructor)).drop.pick (A := blkA g10 35 _) (by repeat constructor)).drop.pick (A := rdsA ps) (by repeat constructor)).pick (A := rowA 199 2 A2 K.length c2 (K.flatMap ackC)) (by repeat constructor)).pick (A := rowA 47 9 A Y.length c1 (Y.flatMap RuV.cells)) (by repeat constructor)).pick (A := blkA q 141 [.slice A Y.length c1]) (by repeat constructor))⟩)
         | (have hX := hg0
            obtain ⟨e1, e2, e3⟩ := ap_ok he
            exact ⟨g33, A', c', Y', A2, c2, K, (by first | (rw [e1, e3, he, hr]; done) | (rw [e1, e3, he, hr]; rfl)), hok, by omega, by rw [e2, hr], by rw [hr]; exact hY', hsub', ((((((((((hS.pick (A := blkA g3 41 _) (by repeat constructor)).drop.pick (A := blkA g4 49 (cmC c)) (by repeat constructor)).drop.pick (A := blkA g6 41 _) (by repeat constructor)).drop.pick (A := blkA g7 55 _) (by repeat constructor)).drop.pick (A := blkA g10 35 _) (by repeat constructor)).drop.pick (A := blkA q 141 [.slice A Y.length c1]) (by repeat constructor)).drop.pick (A := rdsA ps) (by repeat constructor)).pick (A := rowA 199 2 A2 K.length c2 (K.flatMap ackC)) (by repeat constructor)).pick (A := rowA 47 9 A' Y'.length c' (Y'.flatMap RuV.cells)) (by repeat constructor)).pick (A := blkA g33 141 [.slice A' Y'.length c']) (by repeat constructor))⟩)
         | (have hX := hin
            obtain ⟨e1, e2, e3⟩ := ap_ok he
            exact ⟨q, A, c1, Y, A4, c4, (K ++ [(c.replica, c.version)]), (by first | (rw [e1, e3, he, hr]; done) | (rw [e1, e3, he, hr]; rfl)), hok.snoc6 hin, by rw [List.length_append]; exact Nat.le_refl _, by rw [e2, hr]; exact (congrArg (tcs n) (if_pos hin)).trans (ofF_add6 hin.1.1), by rw [hr], (fun y hy => .inr hy), ((((((((((hS.pick (A := blkA g3 41 _) (by repeat constructor)).drop.pick (A := blkA g4 49 (cmC c)) (by repeat constructor)).drop.pick (A := blkA g6 41 _) (by repeat constructor)).drop.pick (A := blkA g7 55 _) (by repeat constructor)).drop.pick (A := blkA g10 35 _) (by repeat constructor)).drop.pick (A := blkA g13 39 _) (by repeat constructor)).drop.pick (A := rdsA ps) (by repeat constructor)).pick (A := rowA 199 2 A4 (K ++ [(c.replica, c.version)]).length c4 ((K ++ [(c.replica, c.version)]).flatMap ackC)) (by repeat constructor)).pick (A := rowA 47 9 A Y.length c1 (Y.flatMap RuV.cells)) (by repeat constructor)).pick (A := blkA q 141 [.slice A Y.length c1]) (by repeat constructor))⟩)
         | (have hX := he
            obtain ⟨e1, e2, e3⟩ := ap_ok he
            exact ⟨q, A, c1, Y, A2, c2, K, (by first | (rw [e1, e3, he, hr]; done) | (rw [e1, e3, he, hr]; rfl)), hok, by omega, by rw [e2, hr], by rw [hr], (fun y hy => .inr hy), (((((((((hS.pick (A := blkA g3 41 _) (by repeat constructor)).drop.pick (A := blkA g4 49 (cmC c)) (by repeat constructor)).drop.pick (A := blkA g6 41 _) (by repeat constructor)).drop.pick (A := blkA g7 55 _) (by repeat constructor)).drop.pick (A := blkA g10 35 _) (by repeat constructor)).drop.pick (A := rdsA ps) (by repeat constructor)).pick (A := rowA 199 2 A2 K.length c2 (K.flatMap ackC)) (by repeat constructor)).pick (A := rowA 47 9 A Y.length c1 (Y.flatMap RuV.cells)) (by repeat constructor)).pick (A := blkA q 141 [.slice A Y.length c1]) (by repeat constructor))⟩)
      ·
       intro hc31
       have hc31d := of_decide_eq_true (not_back hc31)
       have hkc : vknownE (Y.map nf) c.version = 0 := by omega
       refine c_skip (c_seq (c_seq (c_region ?_)))
       refine t_q (q_fieldAddr 2 Try.runUnderlying35 rfl Try.sizeOf3 (by decide) rfl rfl) ?_
       refine t_q (q_load1 Try.isAgg3 rfl (hS.cell (by repeat constructor) rfl)) ?_
       refine t_q (q_neq rfl rfl) ?_
       refine t_nil ?_
       refine c_cond rfl ?_ ?_
       ·
        intro hc33
        have hc33d := of_decide_eq_true hc33
        have hrd : vreadyE (Y.map nf) s c.version s.pending = 54 := by unfold vreadyE; rw [if_neg (by omega), if_pos (by omega)]
        have he : (apV s (Y.map nf) n (ofF K) c i).e = 54 := by rw [ap_13 hk]; show vschedE (Y.map nf) s n (ofF K) c.version c.at_ i = 54; unfold vschedE; rw [if_pos (by rw [hrd]; decide), hrd]
        have h0 : (apV s (Y.map nf) n (ofF K) c i).e ≠ 0 := by rw [he]; decide
        refine c_seq (c_region ?_)
        refine t_q (q_cast (v' := .agg (([.int .i64 s.active, .int .i64 s.previous, .int .i64 s.pending, .int .u64 s.at_, .int .i64 s.shadow, .pointer (some ⟨q, 0, none⟩), .int .i64 n, .slice A2 K.length c2] : List Value)).toArray) (q_load_blk Try.isAgg41 Try.sizeOf41 rfl (hS.blk (by repeat constructor)) rfl) (by rfl)) ?_
        refine t_q (q_build (qs := [(0, 1), (1, 1), (2, 1), (3, 1), (4, 1), (5, 1), (6, 1), (7, 1), (8, 1), (9, 1), (10, 1), (11, 1)]) [(.int _ _), (.int _ _), (.int _ _), (.int _ _), (.int _ _), (.int _ _), (.int _ _), (.int _ _), (.int _ _), (.int _ _), (.int _ _), (.int _ _)] Try.zeroValue55 Try.runUnderlying55 ⟨rfl, Try.sizeOf3, rfl, Try.sizeOf3, rfl, Try.sizeOf26, rfl, Try.sizeOf26, rfl, Try.sizeOf3, rfl, Try.sizeOf2, rfl, Try.sizeOf2, rfl, Try.sizeOf2, rfl, Try.sizeOf2, rfl, Try.sizeOf53, rfl, Try.sizeOf3, rfl, Try.sizeOf26, trivial⟩ rfl rfl) ?_
        refine t_store (v := (.agg _)) Try.sizeOf41 hS (by repeat constructor) rfl rfl rfl rfl rfl rfl (fun w hS => ?_)
        replace hS := hS.recast (congrArg (blkA g6 41) (rset_full (vs := [.int .i64 s.active, .int .i64 s.previous, .int .i64 s.pending, .int .u64 s.at_, .int .i64 s.shadow, .pointer (some ⟨q, 0, none⟩), .int .i64 n, .slice A2 K.length c2]) rfl))
        refine t_store (v := (.agg _)) Try.sizeOf55 hS (by repeat constructor) rfl rfl rfl rfl rfl rfl (fun w hS => ?_)
        replace hS := hS.recast (congrArg (blkA g7 55) (rset_full (vs := evZ.cells) rfl))
        refine t_q (q_assign) ?_
        refine t_nil (c_ret ?_)
        refine r_three rfl (res1_cellN Try.isAgg41 Try.sizeOf41 rfl (hS.blk (by repeat constructor)) rfl) (res1_cellN Try.isAgg55 Try.sizeOf55 rfl (hS.blk (by repeat constructor)) rfl) rfl ?_
        first
          | (have hX := hne
             obtain ⟨e1, e2, e3, e4⟩ := ap_err h0
             exact ⟨q, A, c1, Y, A2, c2, K, (by first | (rw [e1, e3, he]; done) | (rw [e1, e3, he]; rfl)), hok, by omega, by rw [e2], e4.symm, (fun y hy => .inr hy), ((((((((((hS.pick (A := blkA g3 41 _) (by repeat constructor)).drop.pick (A := blkA g4 49 (cmC c)) (by repeat constructor)).drop.pick (A := blkA g6 41 _) (by repeat constructor)).drop.pick (A := blkA g7 55 _) (by repeat constructor)).drop.pick (A := blkA g10 35 _) (by repeat constructor)).drop.pick (A := blkA g33 141 [.slice A Y.length c1]) (by repeat constructor)).drop.pick (A := rdsA ps) (by repeat constructor)).pick (A := rowA 199 2 A2 K.length c2 (K.flatMap ackC)) (by repeat constructor)).pick (A := rowA 47 9 A Y.length c1 (Y.flatMap RuV.cells)) (by repeat constructor)).pick (A := blkA q 141 [.slice A Y.length c1]) (by repeat constructor))⟩)
          | (have hX := hno
             obtain ⟨e1, e2, e3, e4⟩ := ap_err h0
             exact ⟨q, A, c1, Y, A2, c2, K, (by first | (rw [e1, e3, he]; done) | (rw [e1, e3, he]; rfl)), hok, by omega, by rw [e2], e4.symm, (fun y hy => .inr hy), ((((((((((hS.pick (A := blkA g3 41 _) (by repeat constructor)).drop.pick (A := blkA g4 49 (cmC c)) (by repeat constructor)).drop.pick (A := blkA g6 41 _) (by repeat constructor)).drop.pick (A := blkA g7 55 _) (by repeat constructor)).drop.pick (A := blkA g10 35 _) (by repeat constructor)).drop.pick (A := blkA g13 39 _) (by repeat constructor)).drop.pick (A := rdsA ps) (by repeat constructor)).pick (A := rowA 199 2 A2 K.length c2 (K.flatMap ackC)) (by repeat constructor)).pick (A := rowA 47 9 A Y.length c1 (Y.flatMap RuV.cells)) (by repeat constructor)).pick (A := blkA q 141 [.slice A Y.length c1]) (by repeat constructor))⟩)
          | (have hX := h0
             obtain ⟨e1, e2, e3, e4⟩ := ap_err h0
             exact ⟨q, A, c1, Y, A2, c2, K, (by first | (rw [e1, e3, he]; done) | (rw [e1, e3, he]; rfl)), hok, by omega, by rw [e2], e4.symm, (fun y hy => .inr hy), (((((((((hS.pick (A := blkA g3 41 _) (by repeat constructor)).drop.pick (A := blkA g4 49 (cmC c)) (by repeat constructor)).drop.pick (A := blkA g6 41 _) (by repeat constructor)).drop.pick (A := blkA g7 55 _) (by repeat constructor)).drop.pick (A := blkA g10 35 _) (by repeat constructor)).drop.pick (A := rdsA ps) (by repeat constructor)).pick (A := rowA 199 2 A2 K.length c2 (K.flatMap ackC)) (by repeat constructor)).pick (A := rowA 47 9 A Y.length c1 (Y.flatMap RuV.cells)) (by repeat constructor)).pick (A := blkA q 141 [.slice A Y.length c1]) (by repeat constructor))⟩)
          | (have hX := hg0
             obtain ⟨e1, e2, e3⟩ := ap_ok he
             exact ⟨g33, A', c', Y', A2, c2, K, (by first | (rw [e1, e3, he, hr]; done) | (rw [e1, e3, he, hr]; rfl)), hok, by omega, by rw [e2, hr], by rw [hr]; exact hY', hsub', ((((((((((hS.pick (A := blkA g3 41 _) (by repeat constructor)).drop.pick (A := blkA g4 49 (cmC c)) (by repeat constructor)).drop.pick (A := blkA g6 41 _) (by repeat constructor)).drop.pick (A := blkA g7 55 _) (by repeat constructor)).drop.pick (A := blkA g10 35 _) (by repeat constructor)).drop.pick (A := blkA q 141 [.slice A Y.length c1]) (by repeat constructor)).drop.pick (A := rdsA ps) (by repeat constructor)).pick (A := rowA 199 2 A2 K.length c2 (K.flatMap ackC)) (by repeat constructor)).pick (A := rowA 47 9 A' Y'.length c' (Y'.flatMap RuV.cells)) (by repeat constructor)).pick (A := blkA g33 141 [.slice A' Y'.length c']) (by repeat constructor))⟩)
          | (have hX := hin
             obtain ⟨e1, e2, e3⟩ := ap_ok he
             exact ⟨q, A, c1, Y, A4, c4, (K ++ [(c.replica, c.version)]), (by first | (rw [e1, e3, he, hr]; done) | (rw [e1, e3, he, hr]; rfl)), hok.snoc6 hin, by rw [List.length_append]; exact Nat.le_refl _, by rw [e2, hr]; exact (congrArg (tcs n) (if_pos hin)).trans (ofF_add6 hin.1.1), by rw [hr], (fun y hy => .inr hy), ((((((((((hS.pick (A := blkA g3 41 _) (by repeat constructor)).drop.pick (A := blkA g4 49 (cmC c)) (by repeat constructor)).drop.pick (A := blkA g6 41 _) (by repeat constructor)).drop.pick (A := blkA g7 55 _) (by repeat constructor)).drop.pick (A := blkA g10 35 _) (by repeat constructor)).drop.pick (A := blkA g13 39 _) (by repeat constructor)).drop.pick (A := rdsA ps) (by repeat constructor)).pick (A := rowA 199 2 A4 (K ++ [(c.replica, c.version)]).length c4 ((K ++ [(c.replica, c.version)]).flatMap ackC)) (by repeat constructor)).pick (A := rowA 47 9 A Y.length c1 (Y.flatMap RuV.cells)) (by repeat constructor)).pick (A := blkA q 141 [.slice A Y.length c1]) (by repeat constructor))⟩)
          | (have hX := he
             obtain ⟨e1, e2, e3⟩ := ap_ok he
             exact ⟨q, A, c1, Y, A2, c2, K, (by first | (rw [e1, e3, he, hr]; done) | (rw [e1, e3, he, hr]; rfl)), hok, by omega, by rw [e2, hr], by rw [hr], (fun y hy => .inr hy), (((((((((hS.pick (A := blkA g3 41 _) (by repeat constructor)).drop.pick (A := blkA g4 49 (cmC c)) (by repeat constructor)).drop.pick (A := blkA g6 41 _) (by repeat constructor)).drop.pick (A := blkA g7 55 _) (by repeat constructor)).drop.pick (A := blkA g10 35 _) (by repeat constructor)).drop.pick (A := rdsA ps) (by repeat constructor)).pick (A := rowA 199 2 A2 K.length c2 (K.flatMap ackC)) (by repeat constructor)).pick (A := rowA 47 9 A Y.length c1 (Y.flatMap RuV.cells)) (by repeat constructor)).pick (A := blkA q 141 [.slice A Y.length c1]) (by repeat constructor))⟩)
       ·
        intro hc33
        have hc33d := of_decide_eq_false hc33
        refine c_skip (c_seq (c_seq (c_region ?_)))
        refine t_q (q_fieldAddr 10 Try.runUnderlying49 rfl Try.sizeOf3 (by decide) rfl rfl) ?_
        refine t_q (q_load1 Try.isAgg3 rfl (hS.cell (by repeat constructor) rfl)) ?_
        refine t_q (q_fieldAddr 0 Try.runUnderlying35 rfl Try.sizeOf3 (by decide) rfl rfl) ?_
        refine t_q (q_load1 Try.isAgg3 rfl (hS.cell (by repeat constructor) rfl)) ?_
        refine t_q (q_eql rfl rfl) ?_
        refine t_nil ?_
        refine c_cond rfl ?_ ?_
        ·
         intro hc35
         have hc35d := of_decide_eq_true hc35
         have hrd : vreadyE (Y.map nf) s c.version s.pending = 60 := by unfold vreadyE; rw [if_neg (by omega), if_neg (by omega), if_pos (by omega)]
         have he : (apV s (Y.map nf) n (ofF K) c i).e = 60 := by rw [ap_13 hk]; show vschedE (Y.map nf) s n (ofF K) c.version c.at_ i = 60; unfold vschedE; rw [if_pos (by rw [hrd]; decide), hrd]
         have h0 : (apV s (Y.map nf) n (ofF K) c i).e ≠ 0 := by rw [he]; decide
         refine c_seq (c_region ?_)
         refine t_q (q_cast (v' := .agg (([.int .i64 s.active, .int .i64 s.previous, .int .i64 s.pending, .int .u64 s.at_, .int .i64 s.shadow, .pointer (some ⟨q, 0, none⟩), .int .i64 n, .slice A2 K.length c2] : List Value)).toArray) (q_load_blk Try.isAgg41 Try.sizeOf41 rfl (hS.blk (by repeat constructor)) rfl) (by rfl)) ?_
         refine t_q (q_build (qs := [(0, 1), (1, 1), (2, 1), (3, 1), (4, 1), (5, 1), (6, 1), (7, 1), (8, 1), (9, 1), (10, 1), (11, 1)]) [(.int _ _), (.int _ _), (.int _ _), (.int _ _), (.int _ _), (.int _ _), (.int _ _), (.int _ _), (.int _ _), (.int _ _), (.int _ _), (.int _ _)] Try.zeroValue55 Try.runUnderlying55 ⟨rfl, Try.sizeOf3, rfl, Try.sizeOf3, rfl, Try.sizeOf26, rfl, Try.sizeOf26, rfl, Try.sizeOf3, rfl, Try.sizeOf2, rfl, Try.sizeOf2, rfl, Try.sizeOf2, rfl, Try.sizeOf2, rfl, Try.sizeOf53, rfl, Try.sizeOf3, rfl, Try.sizeOf26, trivial⟩ rfl rfl) ?_
         refine t_store (v := (.agg _)) Try.sizeOf41 hS (by repeat constructor) rfl rfl rfl rfl rfl rfl (fun w hS => ?_)
         replace hS := hS.recast (congrArg (blkA g6 41) (rset_full (vs := [.int .i64 s.active, .int .i64 s.previous, .int .i64 s.pending, .int .u64 s.at_, .int .i64 s.shadow, .pointer (some ⟨q, 0, none⟩), .int .i64 n, .slice A2 K.length c2]) rfl))
         refine t_store (v := (.agg _)) Try.sizeOf55 hS (by repeat constructor) rfl rfl rfl rfl rfl rfl (fun w hS => ?_)
         replace hS := hS.recast (congrArg (blkA g7 55) (rset_full (vs := evZ.cells) rfl))
         refine t_q (q_assign) ?_
         refine t_nil (c_ret ?_)
         refine r_three rfl (res1_cellN Try.isAgg41 Try.sizeOf41 rfl (hS.blk (by repeat constructor)) rfl) (res1_cellN Try.isAgg55 Try.sizeOf55 rfl (hS.blk (by repeat constructor)) rfl) rfl ?_
         first
           | (have hX := hne
              obtain ⟨e1, e2, e3, e4⟩ := ap_err h0
              exact ⟨q, A, c1, Y, A2, c2, K, (by first | (rw [e1, e3, he]; done) | (rw [e1, e3, he]; rfl)), hok, by omega, by rw [e2], e4.symm, (fun y hy => .inr hy), ((((((((((hS.pick (A := blkA g3 41 _) (by repeat constructor)).drop.pick (A := blkA g4 49 (cmC c)) (by repeat constructor)).drop.pick (A := blkA g6 41 _) (by repeat constructor)).drop.pick (A := blkA g7 55 _) (by repeat constructor)).drop.pick (A := blkA g10 35 _) (by repeat constructor)).drop.pick (A := blkA g33 141 [.slice A Y.length c1]) (by repeat constructor)).drop.pick (A := rdsA ps) (by repeat constructor)).pick (A := rowA 199 2 A2 K.length c2 (K.flatMap ackC)) (by repeat constructor)).pick (A := rowA 47 9 A Y.length c1 (Y.flatMap RuV.cells)) (by repeat constructor)).pick (A := blkA q 141 [.slice A Y.length c1]) (by repeat constructor))⟩)
           | (have hX := hno
              obtain ⟨e1, e2, e3, e4⟩ := ap_err h0
              exact ⟨q, A, c1, Y, A2, c2, K, (by first | (rw [e1, e3, he]; done) | (rw [e1, e3, he]; rfl)), hok, by omega, by rw [e2], e4.symm, (fun y hy => .inr hy), ((((((((((hS.pick (A := blkA g3 41 _) (by repeat constructor)).drop.pick (A := blkA g4 49 (cmC c)) (by repeat constructor)).drop.pick (A := blkA g6 41 _) (by repeat constructor)).drop.pick (A := blkA g7 55 _) (by repeat constructor)).drop.pick (A := blkA g10 35 _) (by repeat constructor)).drop.pick (A := blkA g13 39 _) (by repeat constructor)).drop.pick (A := rdsA ps) (by repeat constructor)).pick (A := rowA 199 2 A2 K.length c2 (K.flatMap ackC)) (by repeat constructor)).pick (A := rowA 47 9 A Y.length c1 (Y.flatMap RuV.cells)) (by repeat constructor)).pick (A := blkA q 141 [.slice A Y.length c1]) (by repeat constructor))⟩)
           | (have hX := h0
              obtain ⟨e1, e2, e3, e4⟩ := ap_err h0
              exact ⟨q, A, c1, Y, A2, c2, K, (by first | (rw [e1, e3, he]; done) | (rw [e1, e3, he]; rfl)), hok, by omega, by rw [e2], e4.symm, (fun y hy => .inr hy), (((((((((hS.pick (A := blkA g3 41 _) (by repeat constructor)).drop.pick (A := blkA g4 49 (cmC c)) (by repeat constructor)).drop.pick (A := blkA g6 41 _) (by repeat constructor)).drop.pick (A := blkA g7 55 _) (by repeat constructor)).drop.pick (A := blkA g10 35 _) (by repeat constructor)).drop.pick (A := rdsA ps) (by repeat constructor)).pick (A := rowA 199 2 A2 K.length c2 (K.flatMap ackC)) (by repeat constructor)).pick (A := rowA 47 9 A Y.length c1 (Y.flatMap RuV.cells)) (by repeat constructor)).pick (A := blkA q 141 [.slice A Y.length c1]) (by repeat constructor))⟩)
           | (have hX := hg0
              obtain ⟨e1, e2, e3⟩ := ap_ok he
              exact ⟨g33, A', c', Y', A2, c2, K, (by first | (rw [e1, e3, he, hr]; done) | (rw [e1, e3, he, hr]; rfl)), hok, by omega, by rw [e2, hr], by rw [hr]; exact hY', hsub', ((((((((((hS.pick (A := blkA g3 41 _) (by repeat constructor)).drop.pick (A := blkA g4 49 (cmC c)) (by repeat constructor)).drop.pick (A := blkA g6 41 _) (by repeat constructor)).drop.pick (A := blkA g7 55 _) (by repeat constructor)).drop.pick (A := blkA g10 35 _) (by repeat constructor)).drop.pick (A := blkA q 141 [.slice A Y.length c1]) (by repeat constructor)).drop.pick (A := rdsA ps) (by repeat constructor)).pick (A := rowA 199 2 A2 K.length c2 (K.flatMap ackC)) (by repeat constructor)).pick (A := rowA 47 9 A' Y'.length c' (Y'.flatMap RuV.cells)) (by repeat constructor)).pick (A := blkA g33 141 [.slice A' Y'.length c']) (by repeat constructor))⟩)
           | (have hX := hin
              obtain ⟨e1, e2, e3⟩ := ap_ok he
              exact ⟨q, A, c1, Y, A4, c4, (K ++ [(c.replica, c.version)]), (by first | (rw [e1, e3, he, hr]; done) | (rw [e1, e3, he, hr]; rfl)), hok.snoc6 hin, by rw [List.length_append]; exact Nat.le_refl _, by rw [e2, hr]; exact (congrArg (tcs n) (if_pos hin)).trans (ofF_add6 hin.1.1), by rw [hr], (fun y hy => .inr hy), ((((((((((hS.pick (A := blkA g3 41 _) (by repeat constructor)).drop.pick (A := blkA g4 49 (cmC c)) (by repeat constructor)).drop.pick (A := blkA g6 41 _) (by repeat constructor)).drop.pick (A := blkA g7 55 _) (by repeat constructor)).drop.pick (A := blkA g10 35 _) (by repeat constructor)).drop.pick (A := blkA g13 39 _) (by repeat constructor)).drop.pick (A := rdsA ps) (by repeat constructor)).pick (A := rowA 199 2 A4 (K ++ [(c.replica, c.version)]).length c4 ((K ++ [(c.replica, c.version)]).flatMap ackC)) (by repeat constructor)).pick (A := rowA 47 9 A Y.length c1 (Y.flatMap RuV.cells)) (by repeat constructor)).pick (A := blkA q 141 [.slice A Y.length c1]) (by repeat constructor))⟩)
           | (have hX := he
              obtain ⟨e1, e2, e3⟩ := ap_ok he
              exact ⟨q, A, c1, Y, A2, c2, K, (by first | (rw [e1, e3, he, hr]; done) | (rw [e1, e3, he, hr]; rfl)), hok, by omega, by rw [e2, hr], by rw [hr], (fun y hy => .inr hy), (((((((((hS.pick (A := blkA g3 41 _) (by repeat constructor)).drop.pick (A := blkA g4 49 (cmC c)) (by repeat constructor)).drop.pick (A := blkA g6 41 _) (by repeat constructor)).drop.pick (A := blkA g7 55 _) (by repeat constructor)).drop.pick (A := blkA g10 35 _) (by repeat constructor)).drop.pick (A := rdsA ps) (by repeat constructor)).pick (A := rowA 199 2 A2 K.length c2 (K.flatMap ackC)) (by repeat constructor)).pick (A := rowA 47 9 A Y.length c1 (Y.flatMap RuV.cells)) (by repeat constructor)).pick (A := blkA q 141 [.slice A Y.length c1]) (by repeat constructor))⟩)
        ·
         intro hc35
         have hc35d := of_decide_eq_false hc35
         have hrd : vreadyE (Y.map nf) s c.version s.pending = 0 := by unfold vreadyE; rw [if_neg (by omega), if_neg (by omega), if_neg (by omega)]
         have hr := ap_13 (s := s) (M := (Y.map nf)) (n := n) (a := ofF K) (i := i) hk
         refine c_skip (c_seq (c_seq (c_region ?_)))
         refine t_q (q_fieldAddr 12 Try.runUnderlying49 rfl Try.sizeOf26 (by decide) rfl rfl) ?_
         refine t_q (q_load1 Try.isAgg26 rfl (hS.cell (by repeat constructor) rfl)) ?_
         refine t_q (q_mv (.int _ _) rfl) ?_
         refine t_q (q_leq rfl rfl) ?_
         refine t_nil ?_
         refine c_cond rfl ?_ ?_
         ·
          intro hc37
          have hc37d := of_decide_eq_true hc37
          have he : (apV s (Y.map nf) n (ofF K) c i).e = 55 := by rw [hr]; show vschedE (Y.map nf) s n (ofF K) c.version c.at_ i = 55; unfold vschedE; rw [if_neg (by rw [hrd]; decide), if_pos (by omega)]
          have h0 : (apV s (Y.map nf) n (ofF K) c i).e ≠ 0 := by rw [he]; decide
          refine c_seq (c_region ?_)
          refine t_q (q_cast (v' := .agg (([.int .i64 s.active, .int .i64 s.previous, .int .i64 s.pending, .int .u64 s.at_, .int .i64 s.shadow, .pointer (some ⟨q, 0, none⟩), .int .i64 n, .slice A2 K.length c2] : List Value)).toArray) (q_load_blk Try.isAgg41 Try.sizeOf41 rfl (hS.blk (by repeat constructor)) rfl) (by rfl)) ?_
          refine t_q (q_build (qs := [(0, 1), (1, 1), (2, 1), (3, 1), (4, 1), (5, 1), (6, 1), (7, 1), (8, 1), (9, 1), (10, 1), (11, 1)]) [(.int _ _), (.int _ _), (.int _ _), (.int _ _), (.int _ _), (.int _ _), (.int _ _), (.int _ _), (.int _ _), (.int _ _), (.int _ _), (.int _ _)] Try.zeroValue55 Try.runUnderlying55 ⟨rfl, Try.sizeOf3, rfl, Try.sizeOf3, rfl, Try.sizeOf26, rfl, Try.sizeOf26, rfl, Try.sizeOf3, rfl, Try.sizeOf2, rfl, Try.sizeOf2, rfl, Try.sizeOf2, rfl, Try.sizeOf2, rfl, Try.sizeOf53, rfl, Try.sizeOf3, rfl, Try.sizeOf26, trivial⟩ rfl rfl) ?_
          refine t_store (v := (.agg _)) Try.sizeOf41 hS (by repeat constructor) rfl rfl rfl rfl rfl rfl (fun w hS => ?_)
          replace hS := hS.recast (congrArg (blkA g6 41) (rset_full (vs := [.int .i64 s.active, .int .i64 s.previous, .int .i64 s.pending, .int .u64 s.at_, .int .i64 s.shadow, .pointer (some ⟨q, 0, none⟩), .int .i64 n, .slice A2 K.length c2]) rfl))
          refine t_store (v := (.agg _)) Try.sizeOf55 hS (by repeat constructor) rfl rfl rfl rfl rfl rfl (fun w hS => ?_)
          replace hS := hS.recast (congrArg (blkA g7 55) (rset_full (vs := evZ.cells) rfl))
          refine t_q (q_assign) ?_
          refine t_nil (c_ret ?_)
          refine r_three rfl (res1_cellN Try.isAgg41 Try.sizeOf41 rfl (hS.blk (by repeat constructor)) rfl) (res1_cellN Try.isAgg55 Try.sizeOf55 rfl (hS.blk (by repeat constructor)) rfl) rfl ?_
          first
            | (have hX := hne
               obtain ⟨e1, e2, e3, e4⟩ := ap_err h0
               exact ⟨q, A, c1, Y, A2, c2, K, (by first | (rw [e1, e3, he]; done) | (rw [e1, e3, he]; rfl)), hok, by omega, by rw [e2], e4.symm, (fun y hy => .inr hy), ((((((((((hS.pick (A := blkA g3 41 _) (by repeat constructor)).drop.pick (A := blkA g4 49 (cmC c)) (by repeat constructor)).drop.pick (A := blkA g6 41 _) (by repeat constructor)).drop.pick (A := blkA g7 55 _) (by repeat constructor)).drop.pick (A := blkA g10 35 _) (by repeat constructor)).drop.pick (A := blkA g33 141 [.slice A Y.length c1]) (by repeat constructor)).drop.pick (A := rdsA ps) (by repeat constructor)).pick (A := rowA 199 2 A2 K.length c2 (K.flatMap ackC)) (by repeat constructor)).pick (A := rowA 47 9 A Y.length c1 (Y.flatMap RuV.cells)) (by repeat constructor)).pick (A := blkA q 141 [.slice A Y.length c1]) (by repeat constructor))⟩)
            | (have hX := hno
               obtain ⟨e1, e2, e3, e4⟩ := ap_err h0
               exact ⟨q, A, c1, Y, A2, c2, K, (by first | (rw [e1, e3, he]; done) | (rw [e1, e3, he]; rfl)), hok, by omega, by rw [e2], e4.symm, (fun y hy => .inr hy), ((((((((((hS.pick (A := blkA g3 41 _) (by repeat constructor)).drop.pick (A := blkA g4 49 (cmC c)) (by repeat constructor)).drop.pick (A := blkA g6 41 _) (by repeat constructor)).drop.pick (A := blkA g7 55 _) (by repeat constructor)).drop.pick (A := blkA g10 35 _) (by repeat constructor)).drop.pick (A := blkA g13 39 _) (by repeat constructor)).drop.pick (A := rdsA ps) (by repeat constructor)).pick (A := rowA 199 2 A2 K.length c2 (K.flatMap ackC)) (by repeat constructor)).pick (A := rowA 47 9 A Y.length c1 (Y.flatMap RuV.cells)) (by repeat constructor)).pick (A := blkA q 141 [.slice A Y.length c1]) (by repeat constructor))⟩)
            | (have hX := h0
               obtain ⟨e1, e2, e3, e4⟩ := ap_err h0
               exact ⟨q, A, c1, Y, A2, c2, K, (by first | (rw [e1, e3, he]; done) | (rw [e1, e3, he]; rfl)), hok, by omega, by rw [e2], e4.symm, (fun y hy => .inr hy), (((((((((hS.pick (A := blkA g3 41 _) (by repeat constructor)).drop.pick (A := blkA g4 49 (cmC c)) (by repeat constructor)).drop.pick (A := blkA g6 41 _) (by repeat constructor)).drop.pick (A := blkA g7 55 _) (by repeat constructor)).drop.pick (A := blkA g10 35 _) (by repeat constructor)).drop.pick (A := rdsA ps) (by repeat constructor)).pick (A := rowA 199 2 A2 K.length c2 (K.flatMap ackC)) (by repeat constructor)).pick (A := rowA 47 9 A Y.length c1 (Y.flatMap RuV.cells)) (by repeat constructor)).pick (A := blkA q 141 [.slice A Y.length c1]) (by repeat constructor))⟩)
            | (have hX := hg0
               obtain ⟨e1, e2, e3⟩ := ap_ok he
               exact ⟨g33, A', c', Y', A2, c2, K, (by first | (rw [e1, e3, he, hr]; done) | (rw [e1, e3, he, hr]; rfl)), hok, by omega, by rw [e2, hr], by rw [hr]; exact hY', hsub', ((((((((((hS.pick (A := blkA g3 41 _) (by repeat constructor)).drop.pick (A := blkA g4 49 (cmC c)) (by repeat constructor)).drop.pick (A := blkA g6 41 _) (by repeat constructor)).drop.pick (A := blkA g7 55 _) (by repeat constructor)).drop.pick (A := blkA g10 35 _) (by repeat constructor)).drop.pick (A := blkA q 141 [.slice A Y.length c1]) (by repeat constructor)).drop.pick (A := rdsA ps) (by repeat constructor)).pick (A := rowA 199 2 A2 K.length c2 (K.flatMap ackC)) (by repeat constructor)).pick (A := rowA 47 9 A' Y'.length c' (Y'.flatMap RuV.cells)) (by repeat constructor)).pick (A := blkA g33 141 [.slice A' Y'.length c']) (by repeat constructor))⟩)
            | (have hX := hin
               obtain ⟨e1, e2, e3⟩ := ap_ok he
               exact ⟨q, A, c1, Y, A4, c4, (K ++ [(c.replica, c.version)]), (by first | (rw [e1, e3, he, hr]; done) | (rw [e1, e3, he, hr]; rfl)), hok.snoc6 hin, by rw [List.length_append]; exact Nat.le_refl _, by rw [e2, hr]; exact (congrArg (tcs n) (if_pos hin)).trans (ofF_add6 hin.1.1), by rw [hr], (fun y hy => .inr hy), ((((((((((hS.pick (A := blkA g3 41 _) (by repeat constructor)).drop.pick (A := blkA g4 49 (cmC c)) (by repeat constructor)).drop.pick (A := blkA g6 41 _) (by repeat constructor)).drop.pick (A := blkA g7 55 _) (by repeat constructor)).drop.pick (A := blkA g10 35 _) (by repeat constructor)).drop.pick (A := blkA g13 39 _) (by repeat constructor)).drop.pick (A := rdsA ps) (by repeat constructor)).pick (A := rowA 199 2 A4 (K ++ [(c.replica, c.version)]).length c4 ((K ++ [(c.replica, c.version)]).flatMap ackC)) (by repeat constructor)).pick (A := rowA 47 9 A Y.length c1 (Y.flatMap RuV.cells)) (by repeat constructor)).pick (A := blkA q 141 [.slice A Y.length c1]) (by repeat constructor))⟩)
            | (have hX := he
               obtain ⟨e1, e2, e3⟩ := ap_ok he
               exact ⟨q, A, c1, Y, A2, c2, K, (by first | (rw [e1, e3, he, hr]; done) | (rw [e1, e3, he, hr]; rfl)), hok, by omega, by rw [e2, hr], by rw [hr], (fun y hy => .inr hy), (((((((((hS.pick (A := blkA g3 41 _) (by repeat constructor)).drop.pick (A := blkA g4 49 (cmC c)) (by repeat constructor)).drop.pick (A := blkA g6 41 _) (by repeat constructor)).drop.pick (A := blkA g7 55 _) (by repeat constructor)).drop.pick (A := blkA g10 35 _) (by repeat constructor)).drop.pick (A := rdsA ps) (by repeat constructor)).pick (A := rowA 199 2 A2 K.length c2 (K.flatMap ackC)) (by repeat constructor)).pick (A := rowA 47 9 A Y.length c1 (Y.flatMap RuV.cells)) (by repeat constructor)).pick (A := blkA q 141 [.slice A Y.length c1]) (by repeat constructor))⟩)
         ·
          intro hc37
          have hc37d := of_decide_eq_false hc37
          refine c_skip (c_seq (c_seq (c_region ?_)))
          refine t_q (q_fieldAddr 12 Try.runUnderlying49 rfl Try.sizeOf26 (by decide) rfl rfl) ?_
          refine t_q (q_load1 Try.isAgg26 rfl (hS.cell (by repeat constructor) rfl)) ?_
          refine t_q (q_mv (.int _ _) rfl) ?_
          refine t_q (q_sub_u64 rfl rfl (by omega)) ?_
          refine t_q (q_gtr rfl rfl) ?_
          refine t_nil ?_
          refine c_cond rfl ?_ ?_
          ·
           intro hc39
           have hc39d := of_decide_eq_true hc39
           have he : (apV s (Y.map nf) n (ofF K) c i).e = 10 := by rw [hr]; show vschedE (Y.map nf) s n (ofF K) c.version c.at_ i = 10; unfold vschedE; rw [if_neg (by rw [hrd]; decide), if_neg (by omega), if_pos (by omega)]
           have h0 : (apV s (Y.map nf) n (ofF K) c i).e ≠ 0 := by rw [he]; decide
           refine c_seq (c_region ?_)
           refine t_q (q_cast (v' := .agg (([.int .i64 s.active, .int .i64 s.previous, .int .i64 s.pending, .int .u64 s.at_, .int .i64 s.shadow, .pointer (some ⟨q, 0, none⟩), .int .i64 n, .slice A2 K.length c2] : List Value)).toArray) (q_load_blk Try.isAgg41 Try.sizeOf41 rfl (hS.blk (by repeat constructor)) rfl) (by rfl)) ?_
           refine t_q (q_build (qs := [(0, 1), (1, 1), (2, 1), (3, 1), (4, 1), (5, 1), (6, 1), (7, 1), (8, 1), (9, 1), (10, 1), (11, 1)]) [(.int _ _), (.int _ _), (.int _ _), (.int _ _), (.int _ _), (.int _ _), (.int _ _), (.int _ _), (.int _ _), (.int _ _), (.int _ _), (.int _ _)] Try.zeroValue55 Try.runUnderlying55 ⟨rfl, Try.sizeOf3, rfl, Try.sizeOf3, rfl, Try.sizeOf26, rfl, Try.sizeOf26, rfl, Try.sizeOf3, rfl, Try.sizeOf2, rfl, Try.sizeOf2, rfl, Try.sizeOf2, rfl, Try.sizeOf2, rfl, Try.sizeOf53, rfl, Try.sizeOf3, rfl, Try.sizeOf26, trivial⟩ rfl rfl) ?_
           refine t_store (v := (.agg _)) Try.sizeOf41 hS (by repeat constructor) rfl rfl rfl rfl rfl rfl (fun w hS => ?_)
           replace hS := hS.recast (congrArg (blkA g6 41) (rset_full (vs := [.int .i64 s.active, .int .i64 s.previous, .int .i64 s.pending, .int .u64 s.at_, .int .i64 s.shadow, .pointer (some ⟨q, 0, none⟩), .int .i64 n, .slice A2 K.length c2]) rfl))
           refine t_store (v := (.agg _)) Try.sizeOf55 hS (by repeat constructor) rfl rfl rfl rfl rfl rfl (fun w hS => ?_)
           replace hS := hS.recast (congrArg (blkA g7 55) (rset_full (vs := evZ.cells) rfl))
           refine t_q (q_assign) ?_
           refine t_nil (c_ret ?_)
           refine r_three rfl (res1_cellN Try.isAgg41 Try.sizeOf41 rfl (hS.blk (by repeat constructor)) rfl) (res1_cellN Try.isAgg55 Try.sizeOf55 rfl (hS.blk (by repeat constructor)) rfl) rfl ?_
           first
             | (have hX := hne
                obtain ⟨e1, e2, e3, e4⟩ := ap_err h0
                exact ⟨q, A, c1, Y, A2, c2, K, (by first | (rw [e1, e3, he]; done) | (rw [e1, e3, he]; rfl)), hok, by omega, by rw [e2], e4.symm, (fun y hy => .inr hy), ((((((((((hS.pick (A := blkA g3 41 _) (by repeat constructor)).drop.pick (A := blkA g4 49 (cmC c)) (by repeat constructor)).drop.pick (A := blkA g6 41 _) (by repeat constructor)).drop.pick (A := blkA g7 55 _) (by repeat constructor)).drop.pick (A := blkA g10 35 _) (by repeat constructor)).drop.pick (A := blkA g33 141 [.slice A Y.length c1]) (by repeat constructor)).drop.pick (A := rdsA ps) (by repeat constructor)).pick (A := rowA 199 2 A2 K.length c2 (K.flatMap ackC)) (by repeat constructor)).pick (A := rowA 47 9 A Y.length c1 (Y.flatMap RuV.cells)) (by repeat constructor)).pick (A := blkA q 141 [.slice A Y.length c1]) (by repeat constructor))⟩)
             | (have hX := hno
                obtain ⟨e1, e2, e3, e4⟩ := ap_err h0
                exact ⟨q, A, c1, Y, A2, c2, K, (by first | (rw [e1, e3, he]; done) | (rw [e1, e3, he]; rfl)), hok, by omega, by rw [e2], e4.symm, (fun y hy => .inr hy), ((((((((((hS.pick (A := blkA g3 41 _) (by repeat constructor)).drop.pick (A := blkA g4 49 (cmC c)) (by repeat constructor)).drop.pick (A := blkA g6 41 _) (by repeat constructor)).drop.pick (A := blkA g7 55 _) (by repeat constructor)).drop.pick (A := blkA g10 35 _) (by repeat constructor)).drop.pick (A := blkA g13 39 _) (by repeat constructor)).drop.pick (A := rdsA ps) (by repeat constructor)).pick (A := rowA 199 2 A2 K.length c2 (K.flatMap ackC)) (by repeat constructor)).pick (A := rowA 47 9 A Y.length c1 (Y.flatMap RuV.cells)) (by repeat constructor)).pick (A := blkA q 141 [.slice A Y.length c1]) (by repeat constructor))⟩)
             | (have hX := h0
                obtain ⟨e1, e2, e3, e4⟩ := ap_err h0
                exact ⟨q, A, c1, Y, A2, c2, K, (by first | (rw [e1, e3, he]; done) | (rw [e1, e3, he]; rfl)), hok, by omega, by rw [e2], e4.symm, (fun y hy => .inr hy), (((((((((hS.pick (A := blkA g3 41 _) (by repeat constructor)).drop.pick (A := blkA g4 49 (cmC c)) (by repeat constructor)).drop.pick (A := blkA g6 41 _) (by repeat constructor)).drop.pick (A := blkA g7 55 _) (by repeat constructor)).drop.pick (A := blkA g10 35 _) (by repeat constructor)).drop.pick (A := rdsA ps) (by repeat constructor)).pick (A := rowA 199 2 A2 K.length c2 (K.flatMap ackC)) (by repeat constructor)).pick (A := rowA 47 9 A Y.length c1 (Y.flatMap RuV.cells)) (by repeat constructor)).pick (A := blkA q 141 [.slice A Y.length c1]) (by repeat constructor))⟩)
             | (have hX := hg0
                obtain ⟨e1, e2, e3⟩ := ap_ok he
                exact ⟨g33, A', c', Y', A2, c2, K, (by first | (rw [e1, e3, he, hr]; done) | (rw [e1, e3, he, hr]; rfl)), hok, by omega, by rw [e2, hr], by rw [hr]; exact hY', hsub', ((((((((((hS.pick (A := blkA g3 41 _) (by repeat constructor)).drop.pick (A := blkA g4 49 (cmC c)) (by repeat constructor)).drop.pick (A := blkA g6 41 _) (by repeat constructor)).drop.pick (A := blkA g7 55 _) (by repeat constructor)).drop.pick (A := blkA g10 35 _) (by repeat constructor)).drop.pick (A := blkA q 141 [.slice A Y.length c1]) (by repeat constructor)).drop.pick (A := rdsA ps) (by repeat constructor)).pick (A := rowA 199 2 A2 K.length c2 (K.flatMap ackC)) (by repeat constructor)).pick (A := rowA 47 9 A' Y'.length c' (Y'.flatMap RuV.cells)) (by repeat constructor)).pick (A := blkA g33 141 [.slice A' Y'.length c']) (by repeat constructor))⟩)
             | (have hX := hin
                obtain ⟨e1, e2, e3⟩ := ap_ok he
                exact ⟨q, A, c1, Y, A4, c4, (K ++ [(c.replica, c.version)]), (by first | (rw [e1, e3, he, hr]; done) | (rw [e1, e3, he, hr]; rfl)), hok.snoc6 hin, by rw [List.length_append]; exact Nat.le_refl _, by rw [e2, hr]; exact (congrArg (tcs n) (if_pos hin)).trans (ofF_add6 hin.1.1), by rw [hr], (fun y hy => .inr hy), ((((((((((hS.pick (A := blkA g3 41 _) (by repeat constructor)).drop.pick (A := blkA g4 49 (cmC c)) (by repeat constructor)).drop.pick (A := blkA g6 41 _) (by repeat constructor)).drop.pick (A := blkA g7 55 _) (by repeat constructor)).drop.pick (A := blkA g10 35 _) (by repeat constructor)).drop.pick (A := blkA g13 39 _) (by repeat constructor)).drop.pick (A := rdsA ps) (by repeat constructor)).pick (A := rowA 199 2 A4 (K ++ [(c.replica, c.version)]).length c4 ((K ++ [(c.replica, c.version)]).flatMap ackC)) (by repeat constructor)).pick (A := rowA 47 9 A Y.length c1 (Y.flatMap RuV.cells)) (by repeat constructor)).pick (A := blkA q 141 [.slice A Y.length c1]) (by repeat constructor))⟩)
             | (have hX := he
                obtain ⟨e1, e2, e3⟩ := ap_ok he
                exact ⟨q, A, c1, Y, A2, c2, K, (by first | (rw [e1, e3, he, hr]; done) | (rw [e1, e3, he, hr]; rfl)), hok, by omega, by rw [e2, hr], by rw [hr], (fun y hy => .inr hy), (((((((((hS.pick (A := blkA g3 41 _) (by repeat constructor)).drop.pick (A := blkA g4 49 (cmC c)) (by repeat constructor)).drop.pick (A := blkA g6 41 _) (by repeat constructor)).drop.pick (A := blkA g7 55 _) (by repeat constructor)).drop.pick (A := blkA g10 35 _) (by repeat constructor)).drop.pick (A := rdsA ps) (by repeat constructor)).pick (A := rowA 199 2 A2 K.length c2 (K.flatMap ackC)) (by repeat constructor)).pick (A := rowA 47 9 A Y.length c1 (Y.flatMap RuV.cells)) (by repeat constructor)).pick (A := blkA q 141 [.slice A Y.length c1]) (by repeat constructor))⟩)
          ·
           intro hc39
           have hc39d := of_decide_eq_false hc39
           refine c_skip (c_seq (c_seq (c_region ?_)))
           refine t_q (q_fieldAddr 6 Try.runUnderlying41 rfl Try.sizeOf39 (by decide) rfl rfl) ?_
           refine t_q (q_cast (v' := .agg #[.int .i64 n, .slice A2 K.length c2]) (q_load_sub Try.isAgg39 Try.sizeOf39 rfl (hS.blk (by repeat constructor)) (by show 0 + 6 + 2 ≤ 8; decide)) (by rfl)) ?_
           refine t_q (q_fieldAddr 10 Try.runUnderlying49 rfl Try.sizeOf3 (by decide) rfl rfl) ?_
           refine t_q (q_load1 Try.isAgg3 rfl (hS.cell (by repeat constructor) rfl)) ?_
           refine t_call Try.call110 (all2_calls (n := n) (v := c.version) (rowRdA hS (by repeat constructor) rfl) (by omega) (by omega)) rfl ?_
           rintro e w ⟨rfl, hT⟩
           refine ⟨_, rfl, ?_⟩
           replace hS := hS.after hT
           refine t_q (q_not rfl) ?_
           refine t_nil ?_
           refine c_cond rfl ?_ ?_
           ·
            intro hc41
            have ha : allT n (ofF K) c.version = false := by rw [like_all hok]; exact bnt (by assumption : (!allL n K c.version) = true)
            have he : (apV s (Y.map nf) n (ofF K) c i).e = 61 := by rw [hr]; show vschedE (Y.map nf) s n (ofF K) c.version c.at_ i = 61; unfold vschedE; rw [if_neg (by rw [hrd]; decide), if_neg (by omega), if_neg (by omega), if_pos ha]
            have h0 : (apV s (Y.map nf) n (ofF K) c i).e ≠ 0 := by rw [he]; decide
            refine c_seq (c_region ?_)
            refine t_q (q_cast (v' := .agg (([.int .i64 s.active, .int .i64 s.previous, .int .i64 s.pending, .int .u64 s.at_, .int .i64 s.shadow, .pointer (some ⟨q, 0, none⟩), .int .i64 n, .slice A2 K.length c2] : List Value)).toArray) (q_load_blk Try.isAgg41 Try.sizeOf41 rfl (hS.blk (by repeat constructor)) rfl) (by rfl)) ?_
            refine t_q (q_build (qs := [(0, 1), (1, 1), (2, 1), (3, 1), (4, 1), (5, 1), (6, 1), (7, 1), (8, 1), (9, 1), (10, 1), (11, 1)]) [(.int _ _), (.int _ _), (.int _ _), (.int _ _), (.int _ _), (.int _ _), (.int _ _), (.int _ _), (.int _ _), (.int _ _), (.int _ _), (.int _ _)] Try.zeroValue55 Try.runUnderlying55 ⟨rfl, Try.sizeOf3, rfl, Try.sizeOf3, rfl, Try.sizeOf26, rfl, Try.sizeOf26, rfl, Try.sizeOf3, rfl, Try.sizeOf2, rfl, Try.sizeOf2, rfl, Try.sizeOf2, rfl, Try.sizeOf2, rfl, Try.sizeOf53, rfl, Try.sizeOf3, rfl, Try.sizeOf26, trivial⟩ rfl rfl) ?_
            refine t_store (v := (.agg _)) Try.sizeOf41 hS (by repeat constructor) rfl rfl rfl rfl rfl rfl (fun w hS => ?_)
            replace hS := hS.recast (congrArg (blkA g6 41) (rset_full (vs := [.int .i64 s.active, .int .i64 s.previous, .int .i64 s.pending, .int .u64 s.at_, .int .i64 s.shadow, .pointer (some ⟨q, 0, none⟩), .int .i64 n, .slice A2 K.length c2]) rfl))
            refine t_store (v := (.agg _)) Try.sizeOf55 hS (by repeat constructor) rfl rfl rfl rfl rfl rfl (fun w hS => ?_)
            replace hS := hS.recast (congrArg (blkA g7 55) (rset_full (vs := evZ.cells) rfl))
            refine t_q (q_assign) ?_
            refine t_nil (c_ret ?_)
            refine r_three rfl (res1_cellN Try.isAgg41 Try.sizeOf41 rfl (hS.blk (by repeat constructor)) rfl) (res1_cellN Try.isAgg55 Try.sizeOf55 rfl (hS.blk (by repeat constructor)) rfl) rfl ?_
            first
              | (have hX := hne
                 obtain ⟨e1, e2, e3, e4⟩ := ap_err h0
                 exact ⟨q, A, c1, Y, A2, c2, K, (by first | (rw [e1, e3, he]; done) | (rw [e1, e3, he]; rfl)), hok, by omega, by rw [e2], e4.symm, (fun y hy => .inr hy), ((((((((((hS.pick (A := blkA g3 41 _) (by repeat constructor)).drop.pick (A := blkA g4 49 (cmC c)) (by repeat constructor)).drop.pick (A := blkA g6 41 _) (by repeat constructor)).drop.pick (A := blkA g7 55 _) (by repeat constructor)).drop.pick (A := blkA g10 35 _) (by repeat constructor)).drop.pick (A := blkA g33 141 [.slice A Y.length c1]) (by repeat constructor)).drop.pick (A := rdsA ps) (by repeat constructor)).pick (A := rowA 199 2 A2 K.length c2 (K.flatMap ackC)) (by repeat constructor)).pick (A := rowA 47 9 A Y.length c1 (Y.flatMap RuV.cells)) (by repeat constructor)).pick (A := blkA q 141 [.slice A Y.length c1]) (by repeat constructor))⟩)
              | (have hX := hno
                 obtain ⟨e1, e2, e3, e4⟩ := ap_err h0
                 exact ⟨q, A, c1, Y, A2, c2, K, (by first | (rw [e1, e3, he]; done) | (rw [e1, e3, he]; rfl)), hok, by omega, by rw [e2], e4.symm, (fun y hy => .inr hy), ((((((((((hS.pick (A := blkA g3 41 _) (by repeat constructor)).drop.pick (A := blkA g4 49 (cmC c)) (by repeat constructor)).drop.pick (A := blkA g6 41 _) (by repeat constructor)).drop.pick (A := blkA g7 55 _) (by repeat constructor)).drop.pick (A := blkA g10 35 _) (by repeat constructor)).drop.pick (A := blkA g13 39 _) (by repeat constructor)).drop.pick (A := rdsA ps) (by repeat constructor)).pick (A := rowA 199 2 A2 K.length c2 (K.flatMap ackC)) (by repeat constructor)).pick (A := rowA 47 9 A Y.length c1 (Y.flatMap RuV.cells)) (by repeat constructor)).pick (A := blkA q 141 [.slice A Y.length c1]) (by repeat constructor))⟩)
              | (have hX := h0
                 obtain ⟨e1, e2, e3, e4⟩ := ap_err h0
                 exact ⟨q, A, c1, Y, A2, c2, K, (by first | (rw [e1, e3, he]; done) | (rw [e1, e3, he]; rfl)), hok, by omega, by rw [e2], e4.symm, (fun y hy => .inr hy), (((((((((hS.pick (A := blkA g3 41 _) (by repeat constructor)).drop.pick (A := blkA g4 49 (cmC c)) (by repeat constructor)).drop.pick (A := blkA g6 41 _) (by repeat constructor)).drop.pick (A := blkA g7 55 _) (by repeat constructor)).drop.pick (A := blkA g10 35 _) (by repeat constructor)).drop.pick (A := rdsA ps) (by repeat constructor)).pick (A := rowA 199 2 A2 K.length c2 (K.flatMap ackC)) (by repeat constructor)).pick (A := rowA 47 9 A Y.length c1 (Y.flatMap RuV.cells)) (by repeat constructor)).pick (A := blkA q 141 [.slice A Y.length c1]) (by repeat constructor))⟩)
              | (have hX := hg0
                 obtain ⟨e1, e2, e3⟩ := ap_ok he
                 exact ⟨g33, A', c', Y', A2, c2, K, (by first | (rw [e1, e3, he, hr]; done) | (rw [e1, e3, he, hr]; rfl)), hok, by omega, by rw [e2, hr], by rw [hr]; exact hY', hsub', ((((((((((hS.pick (A := blkA g3 41 _) (by repeat constructor)).drop.pick (A := blkA g4 49 (cmC c)) (by repeat constructor)).drop.pick (A := blkA g6 41 _) (by repeat constructor)).drop.pick (A := blkA g7 55 _) (by repeat constructor)).drop.pick (A := blkA g10 35 _) (by repeat constructor)).drop.pick (A := blkA q 141 [.slice A Y.length c1]) (by repeat constructor)).drop.pick (A := rdsA ps) (by repeat constructor)).pick (A := rowA 199 2 A2 K.length c2 (K.flatMap ackC)) (by repeat constructor)).pick (A := rowA 47 9 A' Y'.length c' (Y'.flatMap RuV.cells)) (by repeat constructor)).pick (A := blkA g33 141 [.slice A' Y'.length c']) (by repeat constructor))⟩)
              | (have hX := hin
                 obtain ⟨e1, e2, e3⟩ := ap_ok he
                 exact ⟨q, A, c1, Y, A4, c4, (K ++ [(c.replica, c.version)]), (by first | (rw [e1, e3, he, hr]; done) | (rw [e1, e3, he, hr]; rfl)), hok.snoc6 hin, by rw [List.length_append]; exact Nat.le_refl _, by rw [e2, hr]; exact (congrArg (tcs n) (if_pos hin)).trans (ofF_add6 hin.1.1), by rw [hr], (fun y hy => .inr hy), ((((((((((hS.pick (A := blkA g3 41 _) (by repeat constructor)).drop.pick (A := blkA g4 49 (cmC c)) (by repeat constructor)).drop.pick (A := blkA g6 41 _) (by repeat constructor)).drop.pick (A := blkA g7 55 _) (by repeat constructor)).drop.pick (A := blkA g10 35 _) (by repeat constructor)).drop.pick (A := blkA g13 39 _) (by repeat constructor)).drop.pick (A := rdsA ps) (by repeat constructor)).pick (A := rowA 199 2 A4 (K ++ [(c.replica, c.version)]).length c4 ((K ++ [(c.replica, c.version)]).flatMap ackC)) (by repeat constructor)).pick (A := rowA 47 9 A Y.length c1 (Y.flatMap RuV.cells)) (by repeat constructor)).pick (A := blkA q 141 [.slice A Y.length c1]) (by repeat constructor))⟩)
              | (have hX := he
                 obtain ⟨e1, e2, e3⟩ := ap_ok he
                 exact ⟨q, A, c1, Y, A2, c2, K, (by first | (rw [e1, e3, he, hr]; done) | (rw [e1, e3, he, hr]; rfl)), hok, by omega, by rw [e2, hr], by rw [hr], (fun y hy => .inr hy), (((((((((hS.pick (A := blkA g3 41 _) (by repeat constructor)).drop.pick (A := blkA g4 49 (cmC c)) (by repeat constructor)).drop.pick (A := blkA g6 41 _) (by repeat constructor)).drop.pick (A := blkA g7 55 _) (by repeat constructor)).drop.pick (A := blkA g10 35 _) (by repeat constructor)).drop.pick (A := rdsA ps) (by repeat constructor)).pick (A := rowA 199 2 A2 K.length c2 (K.flatMap ackC)) (by repeat constructor)).pick (A := rowA 47 9 A Y.length c1 (Y.flatMap RuV.cells)) (by repeat constructor)).pick (A := blkA q 141 [.slice A Y.length c1]) (by repeat constructor))⟩)
           ·
            intro hc41
            have ha : allT n (ofF K) c.version = true := by rw [like_all hok]; exact bnf (by assumption : (!allL n K c.version) = false)
            have he : (apV s (Y.map nf) n (ofF K) c i).e = 0 := by rw [hr]; show vschedE (Y.map nf) s n (ofF K) c.version c.at_ i = 0; unfold vschedE; rw [if_neg (by rw [hrd]; decide), if_neg (by omega), if_neg (by omega), if_neg (by rw [ha]; decide)]
            refine c_skip (c_seq (c_region ?_))
            refine t_q (q_fieldAddr 10 Try.runUnderlying49 rfl Try.sizeOf3 (by decide) rfl rfl) ?_
            refine t_q (q_load1 Try.isAgg3 rfl (hS.cell (by repeat constructor) rfl)) ?_
            refine t_q (q_fieldAddr 0 Try.runUnderlying41 rfl Try.sizeOf35 (by decide) rfl rfl) ?_
            refine t_q (q_fieldAddr 2 Try.runUnderlying35 rfl Try.sizeOf3 (by decide) rfl rfl) ?_
            refine t_store (v := (.int _ _)) Try.sizeOf3 hS (by repeat constructor) rfl rfl rfl rfl rfl rfl (fun w hS => ?_)
            replace hS := hS.recast (show blkA g3 41 _ = blkA g3 41 [.int .i64 ({ s with pending := c.version } : StV).active, .int .i64 ({ s with pending := c.version } : StV).previous, .int .i64 ({ s with pending := c.version } : StV).pending, .int .u64 ({ s with pending := c.version } : StV).at_, .int .i64 ({ s with pending := c.version } : StV).shadow, .pointer (some ⟨q, 0, none⟩), .int .i64 n, .slice A2 K.length c2] from rfl)
            refine t_nil (c_seq (c_region ?_))
            refine t_q (q_fieldAddr 12 Try.runUnderlying49 rfl Try.sizeOf26 (by decide) rfl rfl) ?_
            refine t_q (q_load1 Try.isAgg26 rfl (hS.cell (by repeat constructor) rfl)) ?_
            refine t_q (q_fieldAddr 0 Try.runUnderlying41 rfl Try.sizeOf35 (by decide) rfl rfl) ?_
            refine t_q (q_fieldAddr 3 Try.runUnderlying35 rfl Try.sizeOf26 (by decide) rfl rfl) ?_
            refine t_store (v := (.int _ _)) Try.sizeOf26 hS (by repeat constructor) rfl rfl rfl rfl rfl rfl (fun w hS => ?_)
            replace hS := hS.recast (show blkA g3 41 _ = blkA g3 41 [.int .i64 ({ s with pending := c.version, at_ := c.at_ } : StV).active, .int .i64 ({ s with pending := c.version, at_ := c.at_ } : StV).previous, .int .i64 ({ s with pending := c.version, at_ := c.at_ } : StV).pending, .int .u64 ({ s with pending := c.version, at_ := c.at_ } : StV).at_, .int .i64 ({ s with pending := c.version, at_ := c.at_ } : StV).shadow, .pointer (some ⟨q, 0, none⟩), .int .i64 n, .slice A2 K.length c2] from rfl)
            refine t_nil (c_seq (c_draw ?_))
            refine d_keep2 (blkA g3 41 [.int .i64 ({ s with pending := c.version, at_ := c.at_ } : StV).active, .int .i64 ({ s with pending := c.version, at_ := c.at_ } : StV).previous, .int .i64 ({ s with pending := c.version, at_ := c.at_ } : StV).pending, .int .u64 ({ s with pending := c.version, at_ := c.at_ } : StV).at_, .int .i64 ({ s with pending := c.version, at_ := c.at_ } : StV).shadow, .pointer (some ⟨q, 0, none⟩), .int .i64 n, .slice A2 K.length c2]) (blkA g4 49 (cmC c)) 9 [0, 1, 2, 3, 4, 5, 6, 7, 8] [0, 6, 1, 2, 3, 4, 5, 7, 8] hS rfl (by kernel_rfl) (by kernel_rfl) (by kernel_rfl) (by kernel_rfl) (fun hap hsel w hS => ?_)
            refine p_q hap hsel 0 rfl rfl ⟨_, ((hS.pick (A := blkA g4 49 (cmC c)) (by repeat constructor)).pick (A := blkA g3 41 [.int .i64 ({ s with pending := c.version, at_ := c.at_ } : StV).active, .int .i64 ({ s with pending := c.version, at_ := c.at_ } : StV).previous, .int .i64 ({ s with pending := c.version, at_ := c.at_ } : StV).pending, .int .u64 ({ s with pending := c.version, at_ := c.at_ } : StV).at_, .int .i64 ({ s with pending := c.version, at_ := c.at_ } : StV).shadow, .pointer (some ⟨q, 0, none⟩), .int .i64 n, .slice A2 K.length c2]) (by repeat constructor))⟩ (fun w hI => (q_cast (v' := .agg (([.int .i64 ({ s with pending := c.version, at_ := c.at_ } : StV).active, .int .i64 ({ s with pending := c.version, at_ := c.at_ } : StV).previous, .int .i64 ({ s with pending := c.version, at_ := c.at_ } : StV).pending, .int .u64 ({ s with pending := c.version, at_ := c.at_ } : StV).at_, .int .i64 ({ s with pending := c.version, at_ := c.at_ } : StV).shadow, .pointer (some ⟨q, 0, none⟩), .int .i64 n, .slice A2 K.length c2] : List Value)).toArray) (q_load_blk Try.isAgg41 Try.sizeOf41 rfl (hI.choose_spec.blk (by repeat constructor)) rfl) (by rfl))) ?_
            refine p_q hap hsel 1 rfl rfl ⟨_, ((hS.pick (A := blkA g4 49 (cmC c)) (by repeat constructor)).pick (A := blkA g3 41 [.int .i64 ({ s with pending := c.version, at_ := c.at_ } : StV).active, .int .i64 ({ s with pending := c.version, at_ := c.at_ } : StV).previous, .int .i64 ({ s with pending := c.version, at_ := c.at_ } : StV).pending, .int .u64 ({ s with pending := c.version, at_ := c.at_ } : StV).at_, .int .i64 ({ s with pending := c.version, at_ := c.at_ } : StV).shadow, .pointer (some ⟨q, 0, none⟩), .int .i64 n, .slice A2 K.length c2]) (by repeat constructor))⟩ (fun w hI => q_fieldAddr 10 Try.runUnderlying49 rfl Try.sizeOf3 (by decide) rfl rfl) ?_
            refine p_q hap hsel 2 rfl rfl ⟨_, ((hS.pick (A := blkA g4 49 (cmC c)) (by repeat constructor)).pick (A := blkA g3 41 [.int .i64 ({ s with pending := c.version, at_ := c.at_ } : StV).active, .int .i64 ({ s with pending := c.version, at_ := c.at_ } : StV).previous, .int .i64 ({ s with pending := c.version, at_ := c.at_ } : StV).pending, .int .u64 ({ s with pending := c.version, at_ := c.at_ } : StV).at_, .int .i64 ({ s with pending := c.version, at_ := c.at_ } : StV).shadow, .pointer (some ⟨q, 0, none⟩), .int .i64 n, .slice A2 K.length c2]) (by repeat constructor))⟩ (fun w hI => q_load1 Try.isAgg3 rfl (hI.choose_spec.cell (by repeat constructor) rfl)) ?_
            refine p_q hap hsel 3 rfl rfl ⟨_, ((hS.pick (A := blkA g4 49 (cmC c)) (by repeat constructor)).pick (A := blkA g3 41 [.int .i64 ({ s with pending := c.version, at_ := c.at_ } : StV).active, .int .i64 ({ s with pending := c.version, at_ := c.at_ } : StV).previous, .int .i64 ({ s with pending := c.version, at_ := c.at_ } : StV).pending, .int .u64 ({ s with pending := c.version, at_ := c.at_ } : StV).at_, .int .i64 ({ s with pending := c.version, at_ := c.at_ } : StV).shadow, .pointer (some ⟨q, 0, none⟩), .int .i64 n, .slice A2 K.length c2]) (by repeat constructor))⟩ (fun w hI => q_fieldAddr 12 Try.runUnderlying49 rfl Try.sizeOf26 (by decide) rfl rfl) ?_
            refine p_q hap hsel 4 rfl rfl ⟨_, ((hS.pick (A := blkA g4 49 (cmC c)) (by repeat constructor)).pick (A := blkA g3 41 [.int .i64 ({ s with pending := c.version, at_ := c.at_ } : StV).active, .int .i64 ({ s with pending := c.version, at_ := c.at_ } : StV).previous, .int .i64 ({ s with pending := c.version, at_ := c.at_ } : StV).pending, .int .u64 ({ s with pending := c.version, at_ := c.at_ } : StV).at_, .int .i64 ({ s with pending := c.version, at_ := c.at_ } : StV).shadow, .pointer (some ⟨q, 0, none⟩), .int .i64 n, .slice A2 K.length c2]) (by repeat constructor))⟩ (fun w hI => q_load1 Try.isAgg26 rfl (hI.choose_spec.cell (by repeat constructor) rfl)) ?_
            refine p_q hap hsel 5 rfl rfl ⟨_, ((hS.pick (A := blkA g4 49 (cmC c)) (by repeat constructor)).pick (A := blkA g3 41 [.int .i64 ({ s with pending := c.version, at_ := c.at_ } : StV).active, .int .i64 ({ s with pending := c.version, at_ := c.at_ } : StV).previous, .int .i64 ({ s with pending := c.version, at_ := c.at_ } : StV).pending, .int .u64 ({ s with pending := c.version, at_ := c.at_ } : StV).at_, .int .i64 ({ s with pending := c.version, at_ := c.at_ } : StV).shadow, .pointer (some ⟨q, 0, none⟩), .int .i64 n, .slice A2 K.length c2]) (by repeat constructor))⟩ (fun w hI => q_build (qs := [(0, 1), (1, 1), (2, 1), (3, 1), (4, 1), (5, 1), (6, 1), (7, 1), (8, 1), (9, 1), (10, 1), (11, 1)]) [(.int _ _), (.int _ _), (.int _ _), (.int _ _), (.int _ _), (.int _ _), (.int _ _), (.int _ _), (.int _ _), (.int _ _), (.int _ _), (.int _ _)] Try.zeroValue55 Try.runUnderlying55 ⟨rfl, Try.sizeOf3, rfl, Try.sizeOf3, rfl, Try.sizeOf26, rfl, Try.sizeOf26, rfl, Try.sizeOf3, rfl, Try.sizeOf2, rfl, Try.sizeOf2, rfl, Try.sizeOf2, rfl, Try.sizeOf2, rfl, Try.sizeOf53, rfl, Try.sizeOf3, rfl, Try.sizeOf26, trivial⟩ rfl rfl) ?_
            refine p_one 6 rfl (by kernel_rfl) ?_
            refine t_store (v := (.agg _)) Try.sizeOf41 hS (by repeat constructor) rfl rfl rfl rfl rfl rfl (fun w hS => ?_)
            replace hS := hS.recast (congrArg (blkA g6 41) (rset_full (vs := [.int .i64 ({ s with pending := c.version, at_ := c.at_ } : StV).active, .int .i64 ({ s with pending := c.version, at_ := c.at_ } : StV).previous, .int .i64 ({ s with pending := c.version, at_ := c.at_ } : StV).pending, .int .u64 ({ s with pending := c.version, at_ := c.at_ } : StV).at_, .int .i64 ({ s with pending := c.version, at_ := c.at_ } : StV).shadow, .pointer (some ⟨q, 0, none⟩), .int .i64 n, .slice A2 K.length c2]) rfl))
            refine t_nil ?_
            refine ⟨.inr ⟨_, ((hS.pick (A := blkA g4 49 (cmC c)) (by repeat constructor)).pick (A := blkA g3 41 [.int .i64 ({ s with pending := c.version, at_ := c.at_ } : StV).active, .int .i64 ({ s with pending := c.version, at_ := c.at_ } : StV).previous, .int .i64 ({ s with pending := c.version, at_ := c.at_ } : StV).pending, .int .u64 ({ s with pending := c.version, at_ := c.at_ } : StV).at_, .int .i64 ({ s with pending := c.version, at_ := c.at_ } : StV).shadow, .pointer (some ⟨q, 0, none⟩), .int .i64 n, .slice A2 K.length c2]) (by repeat constructor))⟩, ?_⟩
            refine p_one 7 rfl (by kernel_rfl) ?_
            refine t_store (v := (.agg _)) Try.sizeOf55 hS (by repeat constructor) rfl rfl rfl rfl rfl rfl (fun w hS => ?_)
            replace hS := hS.recast (congrArg (blkA g7 55) (rset_full (vs := [.int .i64 12, .int .i64 0, .int .u64 0, .int .u64 0, .int .i64 0, .int .i64 0, .int .i64 0, .int .i64 0, .int .i64 0, .int .i64 0, .int .i64 c.version, .int .u64 c.at_]) rfl))
            refine t_nil ?_
            refine ⟨.inr ⟨_, ((hS.pick (A := blkA g4 49 (cmC c)) (by repeat constructor)).pick (A := blkA g3 41 [.int .i64 ({ s with pending := c.version, at_ := c.at_ } : StV).active, .int .i64 ({ s with pending := c.version, at_ := c.at_ } : StV).previous, .int .i64 ({ s with pending := c.version, at_ := c.at_ } : StV).pending, .int .u64 ({ s with pending := c.version, at_ := c.at_ } : StV).at_, .int .i64 ({ s with pending := c.version, at_ := c.at_ } : StV).shadow, .pointer (some ⟨q, 0, none⟩), .int .i64 n, .slice A2 K.length c2]) (by repeat constructor))⟩, ?_⟩
            refine p_q hap hsel 8 rfl rfl ⟨_, ((hS.pick (A := blkA g4 49 (cmC c)) (by repeat constructor)).pick (A := blkA g3 41 [.int .i64 ({ s with pending := c.version, at_ := c.at_ } : StV).active, .int .i64 ({ s with pending := c.version, at_ := c.at_ } : StV).previous, .int .i64 ({ s with pending := c.version, at_ := c.at_ } : StV).pending, .int .u64 ({ s with pending := c.version, at_ := c.at_ } : StV).at_, .int .i64 ({ s with pending := c.version, at_ := c.at_ } : StV).shadow, .pointer (some ⟨q, 0, none⟩), .int .i64 n, .slice A2 K.length c2]) (by repeat constructor))⟩ (fun w hI => q_assign) ?_
            refine p_end (by kernel_rfl) ?_
            refine c_ret ?_
            refine r_three rfl (res1_cellN Try.isAgg41 Try.sizeOf41 rfl (hS.blk (by repeat constructor)) rfl) (res1_cellN Try.isAgg55 Try.sizeOf55 rfl (hS.blk (by repeat constructor)) rfl) rfl ?_
            first
              | (have hX := hne
                 obtain ⟨e1, e2, e3, e4⟩ := ap_err h0
                 exact ⟨q, A, c1, Y, A2, c2, K, (by first | (rw [e1, e3, he]; done) | (rw [e1, e3, he]; rfl)), hok, by omega, by rw [e2], e4.symm, (fun y hy => .inr hy), ((((((((((hS.pick (A := blkA g3 41 _) (by repeat constructor)).drop.pick (A := blkA g4 49 (cmC c)) (by repeat constructor)).drop.pick (A := blkA g6 41 _) (by repeat constructor)).drop.pick (A := blkA g7 55 _) (by repeat constructor)).drop.pick (A := blkA g10 35 _) (by repeat constructor)).drop.pick (A := blkA g33 141 [.slice A Y.length c1]) (by repeat constructor)).drop.pick (A := rdsA ps) (by repeat constructor)).pick (A := rowA 199 2 A2 K.length c2 (K.flatMap ackC)) (by repeat constructor)).pick (A := rowA 47 9 A Y.length c1 (Y.flatMap RuV.cells)) (by repeat constructor)).pick (A := blkA q 141 [.slice A Y.length c1]) (by repeat constructor))⟩)
              | (have hX := hno
                 obtain ⟨e1, e2, e3, e4⟩ := ap_err h0
                 exact ⟨q, A, c1, Y, A2, c2, K, (by first | (rw [e1, e3, he]; done) | (rw [e1, e3, he]; rfl)), hok, by omega, by rw [e2], e4.symm, (fun y hy => .inr hy), ((((((((((hS.pick (A := blkA g3 41 _) (by repeat constructor)).drop.pick (A := blkA g4 49 (cmC c)) (by repeat constructor)).drop.pick (A := blkA g6 41 _) (by repeat constructor)).drop.pick (A := blkA g7 55 _) (by repeat constructor)).drop.pick (A := blkA g10 35 _) (by repeat constructor)).drop.pick (A := blkA g13 39 _) (by repeat constructor)).drop.pick (A := rdsA ps) (by repeat constructor)).pick (A := rowA 199 2 A2 K.length c2 (K.flatMap ackC)) (by repeat constructor)).pick (A := rowA 47 9 A Y.length c1 (Y.flatMap RuV.cells)) (by repeat constructor)).pick (A := blkA q 141 [.slice A Y.length c1]) (by repeat constructor))⟩)
              | (have hX := h0
                 obtain ⟨e1, e2, e3, e4⟩ := ap_err h0
                 exact ⟨q, A, c1, Y, A2, c2, K, (by first | (rw [e1, e3, he]; done) | (rw [e1, e3, he]; rfl)), hok, by omega, by rw [e2], e4.symm, (fun y hy => .inr hy), (((((((((hS.pick (A := blkA g3 41 _) (by repeat constructor)).drop.pick (A := blkA g4 49 (cmC c)) (by repeat constructor)).drop.pick (A := blkA g6 41 _) (by repeat constructor)).drop.pick (A := blkA g7 55 _) (by repeat constructor)).drop.pick (A := blkA g10 35 _) (by repeat constructor)).drop.pick (A := rdsA ps) (by repeat constructor)).pick (A := rowA 199 2 A2 K.length c2 (K.flatMap ackC)) (by repeat constructor)).pick (A := rowA 47 9 A Y.length c1 (Y.flatMap RuV.cells)) (by repeat constructor)).pick (A := blkA q 141 [.slice A Y.length c1]) (by repeat constructor))⟩)
              | (have hX := hg0
                 obtain ⟨e1, e2, e3⟩ := ap_ok he
                 exact ⟨g33, A', c', Y', A2, c2, K, (by first | (rw [e1, e3, he, hr]; done) | (rw [e1, e3, he, hr]; rfl)), hok, by omega, by rw [e2, hr], by rw [hr]; exact hY', hsub', ((((((((((hS.pick (A := blkA g3 41 _) (by repeat constructor)).drop.pick (A := blkA g4 49 (cmC c)) (by repeat constructor)).drop.pick (A := blkA g6 41 _) (by repeat constructor)).drop.pick (A := blkA g7 55 _) (by repeat constructor)).drop.pick (A := blkA g10 35 _) (by repeat constructor)).drop.pick (A := blkA q 141 [.slice A Y.length c1]) (by repeat constructor)).drop.pick (A := rdsA ps) (by repeat constructor)).pick (A := rowA 199 2 A2 K.length c2 (K.flatMap ackC)) (by repeat constructor)).pick (A := rowA 47 9 A' Y'.length c' (Y'.flatMap RuV.cells)) (by repeat constructor)).pick (A := blkA g33 141 [.slice A' Y'.length c']) (by repeat constructor))⟩)
              | (have hX := hin
                 obtain ⟨e1, e2, e3⟩ := ap_ok he
                 exact ⟨q, A, c1, Y, A4, c4, (K ++ [(c.replica, c.version)]), (by first | (rw [e1, e3, he, hr]; done) | (rw [e1, e3, he, hr]; rfl)), hok.snoc6 hin, by rw [List.length_append]; exact Nat.le_refl _, by rw [e2, hr]; exact (congrArg (tcs n) (if_pos hin)).trans (ofF_add6 hin.1.1), by rw [hr], (fun y hy => .inr hy), ((((((((((hS.pick (A := blkA g3 41 _) (by repeat constructor)).drop.pick (A := blkA g4 49 (cmC c)) (by repeat constructor)).drop.pick (A := blkA g6 41 _) (by repeat constructor)).drop.pick (A := blkA g7 55 _) (by repeat constructor)).drop.pick (A := blkA g10 35 _) (by repeat constructor)).drop.pick (A := blkA g13 39 _) (by repeat constructor)).drop.pick (A := rdsA ps) (by repeat constructor)).pick (A := rowA 199 2 A4 (K ++ [(c.replica, c.version)]).length c4 ((K ++ [(c.replica, c.version)]).flatMap ackC)) (by repeat constructor)).pick (A := rowA 47 9 A Y.length c1 (Y.flatMap RuV.cells)) (by repeat constructor)).pick (A := blkA q 141 [.slice A Y.length c1]) (by repeat constructor))⟩)
              | (have hX := he
                 obtain ⟨e1, e2, e3⟩ := ap_ok he
                 exact ⟨q, A, c1, Y, A2, c2, K, (by first | (rw [e1, e3, he, hr]; done) | (rw [e1, e3, he, hr]; rfl)), hok, by omega, by rw [e2, hr], by rw [hr], (fun y hy => .inr hy), (((((((((hS.pick (A := blkA g3 41 _) (by repeat constructor)).drop.pick (A := blkA g4 49 (cmC c)) (by repeat constructor)).drop.pick (A := blkA g6 41 _) (by repeat constructor)).drop.pick (A := blkA g7 55 _) (by repeat constructor)).drop.pick (A := blkA g10 35 _) (by repeat constructor)).drop.pick (A := rdsA ps) (by repeat constructor)).pick (A := rowA 199 2 A2 K.length c2 (K.flatMap ackC)) (by repeat constructor)).pick (A := rowA 47 9 A Y.length c1 (Y.flatMap RuV.cells)) (by repeat constructor)).pick (A := blkA q 141 [.slice A Y.length c1]) (by repeat constructor))⟩)
     ·
      intro hc30
      have hc30d := of_decide_eq_false hc30
      refine c_seq (c_region ?_)
      refine t_q (q_eql rfl rfl) ?_
      refine t_q (q_as (.bool _) rfl) ?_
      refine t_nil ?_
      refine c_cond rfl ?_ ?_
      ·
       intro hc43
       have hc43d := of_decide_eq_true hc43
       have hk := hc43d
       refine c_seq (c_seq (c_region ?_))
       refine t_q (q_fieldAddr 2 Try.runUnderlying35 rfl Try.sizeOf3 (by decide) rfl rfl) ?_
       refine t_q (q_load1 Try.isAgg3 rfl (hS.cell (by repeat constructor) rfl)) ?_
       refine t_q (q_neq rfl rfl) ?_
       refine t_nil ?_
       refine c_cond rfl ?_ ?_
       ·
        intro hc45
        have hc45d := of_decide_eq_true hc45
        have hb := backV_1 (s := s) (by omega)
        have hr := ap_14 (s := s) (M := (Y.map nf)) (n := n) (a := ofF K) (i := i) hk
        have he : (apV s (Y.map nf) n (ofF K) c i).e = 0 := by rw [hr]; show (backV s).2 = 0; rw [hb]
        refine c_seq (c_region ?_)
        refine t_q (q_fieldAddr 0 Try.runUnderlying41 rfl Try.sizeOf35 (by decide) rfl rfl) ?_
        refine t_q (q_fieldAddr 2 Try.runUnderlying35 rfl Try.sizeOf3 (by decide) rfl rfl) ?_
        refine t_store (v := (.int _ _)) Try.sizeOf3 hS (by repeat constructor) rfl rfl rfl rfl rfl rfl (fun w hS => ?_)
        replace hS := hS.recast (show blkA g3 41 _ = blkA g3 41 [.int .i64 ({ s with pending := 0 } : StV).active, .int .i64 ({ s with pending := 0 } : StV).previous, .int .i64 ({ s with pending := 0 } : StV).pending, .int .u64 ({ s with pending := 0 } : StV).at_, .int .i64 ({ s with pending := 0 } : StV).shadow, .pointer (some ⟨q, 0, none⟩), .int .i64 n, .slice A2 K.length c2] from rfl)
        refine t_nil (c_region ?_)
        refine t_q (q_fieldAddr 0 Try.runUnderlying41 rfl Try.sizeOf35 (by decide) rfl rfl) ?_
        refine t_q (q_fieldAddr 3 Try.runUnderlying35 rfl Try.sizeOf26 (by decide) rfl rfl) ?_
        refine t_store (v := (.int _ _)) Try.sizeOf26 hS (by repeat constructor) rfl rfl rfl rfl rfl rfl (fun w hS => ?_)
        replace hS := hS.recast (show blkA g3 41 _ = blkA g3 41 [.int .i64 (backV s).1.active, .int .i64 (backV s).1.previous, .int .i64 (backV s).1.pending, .int .u64 (backV s).1.at_, .int .i64 (backV s).1.shadow, .pointer (some ⟨q, 0, none⟩), .int .i64 n, .slice A2 K.length c2] from congrArg (blkA g3 41) (by rw [hb] <;> rfl))
        refine t_nil (c_seq (c_draw ?_))
        refine d_keep (blkA g3 41 [.int .i64 (backV s).1.active, .int .i64 (backV s).1.previous, .int .i64 (backV s).1.pending, .int .u64 (backV s).1.at_, .int .i64 (backV s).1.shadow, .pointer (some ⟨q, 0, none⟩), .int .i64 n, .slice A2 K.length c2]) 8 [0, 1, 2, 3, 4, 5, 6, 7] [0, 5, 1, 2, 3, 4, 6, 7] hS rfl (by kernel_rfl) (by kernel_rfl) (by kernel_rfl) (by kernel_rfl) (fun hap hsel w hS => ?_)
        refine p_q hap hsel 0 rfl rfl ⟨_, hS.pick (by repeat constructor)⟩ (fun w hI => (q_cast (v' := .agg (([.int .i64 (backV s).1.active, .int .i64 (backV s).1.previous, .int .i64 (backV s).1.pending, .int .u64 (backV s).1.at_, .int .i64 (backV s).1.shadow, .pointer (some ⟨q, 0, none⟩), .int .i64 n, .slice A2 K.length c2] : List Value)).toArray) (q_load_blk Try.isAgg41 Try.sizeOf41 rfl (hI.choose_spec.blk (by repeat constructor)) rfl) (by rfl))) ?_
        refine p_q hap hsel 1 rfl rfl ⟨_, hS.pick (by repeat constructor)⟩ (fun w hI => q_fieldAddr 0 Try.runUnderlying41 rfl Try.sizeOf35 (by decide) rfl rfl) ?_
        refine p_q hap hsel 2 rfl rfl ⟨_, hS.pick (by repeat constructor)⟩ (fun w hI => q_fieldAddr 0 Try.runUnderlying35 rfl Try.sizeOf3 (by decide) rfl rfl) ?_
        refine p_q hap hsel 3 rfl rfl ⟨_, hS.pick (by repeat constructor)⟩ (fun w hI => q_load1 Try.isAgg3 rfl (hI.choose_spec.cell (by repeat constructor) rfl)) ?_
        refine p_q hap hsel 4 rfl rfl ⟨_, hS.pick (by repeat constructor)⟩ (fun w hI => q_build (qs := [(0, 1), (1, 1), (2, 1), (3, 1), (4, 1), (5, 1), (6, 1), (7, 1), (8, 1), (9, 1), (10, 1), (11, 1)]) [(.int _ _), (.int _ _), (.int _ _), (.int _ _), (.int _ _), (.int _ _), (.int _ _), (.int _ _), (.int _ _), (.int _ _), (.int _ _), (.int _ _)] Try.zeroValue55 Try.runUnderlying55 ⟨rfl, Try.sizeOf3, rfl, Try.sizeOf3, rfl, Try.sizeOf26, rfl, Try.sizeOf26, rfl, Try.sizeOf3, rfl, Try.sizeOf2, rfl, Try.sizeOf2, rfl, Try.sizeOf2, rfl, Try.sizeOf2, rfl, Try.sizeOf53, rfl, Try.sizeOf3, rfl, Try.sizeOf26, trivial⟩ rfl rfl) ?_
        refine p_one 5 rfl (by kernel_rfl) ?_
        refine t_store (v := (.agg _)) Try.sizeOf41 hS (by repeat constructor) rfl rfl rfl rfl rfl rfl (fun w hS => ?_)
        replace hS := hS.recast (congrArg (blkA g6 41) (rset_full (vs := [.int .i64 (backV s).1.active, .int .i64 (backV s).1.previous, .int .i64 (backV s).1.pending, .int .u64 (backV s).1.at_, .int .i64 (backV s).1.shadow, .pointer (some ⟨q, 0, none⟩), .int .i64 n, .slice A2 K.length c2]) rfl))
        refine t_nil ?_
        refine ⟨.inr ⟨_, hS.pick (by repeat constructor)⟩, ?_⟩
        refine p_one 6 rfl (by kernel_rfl) ?_
        refine t_store (v := (.agg _)) Try.sizeOf55 hS (by repeat constructor) rfl rfl rfl rfl rfl rfl (fun w hS => ?_)
        replace hS := hS.recast (congrArg (blkA g7 55) (rset_full (vs := [.int .i64 14, .int .i64 0, .int .u64 0, .int .u64 0, .int .i64 0, .int .i64 0, .int .i64 0, .int .i64 0, .int .i64 0, .int .i64 0, .int .i64 (backV s).1.active, .int .u64 0]) rfl))
        refine t_nil ?_
        refine ⟨.inr ⟨_, hS.pick (by repeat constructor)⟩, ?_⟩
        refine p_q hap hsel 7 rfl rfl ⟨_, hS.pick (by repeat constructor)⟩ (fun w hI => q_assign) ?_
        refine p_end (by kernel_rfl) ?_
        refine c_ret ?_
        refine r_three rfl (res1_cellN Try.isAgg41 Try.sizeOf41 rfl (hS.blk (by repeat constructor)) rfl) (res1_cellN Try.isAgg55 Try.sizeOf55 rfl (hS.blk (by repeat constructor)) rfl) rfl ?_
        first
          | (have hX := hne
             obtain ⟨e1, e2, e3, e4⟩ := ap_err h0
             exact ⟨q, A, c1, Y, A2, c2, K, (by first | (rw [e1, e3, he]; done) | (rw [e1, e3, he]; rfl)), hok, by omega, by rw [e2], e4.symm, (fun y hy => .inr hy), ((((((((((hS.pick (A := blkA g3 41 _) (by repeat constructor)).drop.pick (A := blkA g4 49 (cmC c)) (by repeat constructor)).drop.pick (A := blkA g6 41 _) (by repeat constructor)).drop.pick (A := blkA g7 55 _) (by repeat constructor)).drop.pick (A := blkA g10 35 _) (by repeat constructor)).drop.pick (A := blkA g33 141 [.slice A Y.length c1]) (by repeat constructor)).drop.pick (A := rdsA ps) (by repeat constructor)).pick (A := rowA 199 2 A2 K.length c2 (K.flatMap ackC)) (by repeat constructor)).pick (A := rowA 47 9 A Y.length c1 (Y.flatMap RuV.cells)) (by repeat constructor)).pick (A := blkA q 141 [.slice A Y.length c1]) (by repeat constructor))⟩)
          | (have hX := hno
             obtain ⟨e1, e2, e3, e4⟩ := ap_err h0
             exact ⟨q, A, c1, Y, A2, c2, K, (by first | (rw [e1, e3, he]; done) | (rw [e1, e3, he]; rfl)), hok, by omega, by rw [e2], e4.symm, (fun y hy => .inr hy), ((((((((((hS.pick (A := blkA g3 41 _) (by repeat constructor)).drop.pick (A := blkA g4 49 (cmC c)) (by repeat constructor)).drop.pick (A := blkA g6 41 _) (by repeat constructor)).drop.pick (A := blkA g7 55 _) (by repeat constructor)).drop.pick (A := blkA g10 35 _) (by repeat constructor)).drop.pick (A := blkA g13 39 _) (by repeat constructor)).drop.pick (A := rdsA ps) (by repeat constructor)).pick (A := rowA 199 2 A2 K.length c2 (K.flatMap ackC)) (by repeat constructor)).pick (A := rowA 47 9 A Y.length c1 (Y.flatMap RuV.cells)) (by repeat constructor)).pick (A := blkA q 141 [.slice A Y.length c1]) (by repeat constructor))⟩)
          | (have hX := h0
             obtain ⟨e1, e2, e3, e4⟩ := ap_err h0
             exact ⟨q, A, c1, Y, A2, c2, K, (by first | (rw [e1, e3, he]; done) | (rw [e1, e3, he]; rfl)), hok, by omega, by rw [e2], e4.symm, (fun y hy => .inr hy), (((((((((hS.pick (A := blkA g3 41 _) (by repeat constructor)).drop.pick (A := blkA g4 49 (cmC c)) (by repeat constructor)).drop.pick (A := blkA g6 41 _) (by repeat constructor)).drop.pick (A := blkA g7 55 _) (by repeat constructor)).drop.pick (A := blkA g10 35 _) (by repeat constructor)).drop.pick (A := rdsA ps) (by repeat constructor)).pick (A := rowA 199 2 A2 K.length c2 (K.flatMap ackC)) (by repeat constructor)).pick (A := rowA 47 9 A Y.length c1 (Y.flatMap RuV.cells)) (by repeat constructor)).pick (A := blkA q 141 [.slice A Y.length c1]) (by repeat constructor))⟩)
          | (have hX := hg0
             obtain ⟨e1, e2, e3⟩ := ap_ok he
             exact ⟨g33, A', c', Y', A2, c2, K, (by first | (rw [e1, e3, he, hr]; done) | (rw [e1, e3, he, hr]; rfl)), hok, by omega, by rw [e2, hr], by rw [hr]; exact hY', hsub', ((((((((((hS.pick (A := blkA g3 41 _) (by repeat constructor)).drop.pick (A := blkA g4 49 (cmC c)) (by repeat constructor)).drop.pick (A := blkA g6 41 _) (by repeat constructor)).drop.pick (A := blkA g7 55 _) (by repeat constructor)).drop.pick (A := blkA g10 35 _) (by repeat constructor)).drop.pick (A := blkA q 141 [.slice A Y.length c1]) (by repeat constructor)).drop.pick (A := rdsA ps) (by repeat constructor)).pick (A := rowA 199 2 A2 K.length c2 (K.flatMap ackC)) (by repeat constructor)).pick (A := rowA 47 9 A' Y'.length c' (Y'.flatMap RuV.cells)) (by repeat constructor)).pick (A := blkA g33 141 [.slice A' Y'.length c']) (by repeat constructor))⟩)
          | (have hX := hin
             obtain ⟨e1, e2, e3⟩ := ap_ok he
             exact ⟨q, A, c1, Y, A4, c4, (K ++ [(c.replica, c.version)]), (by first | (rw [e1, e3, he, hr]; done) | (rw [e1, e3, he, hr]; rfl)), hok.snoc6 hin, by rw [List.length_append]; exact Nat.le_refl _, by rw [e2, hr]; exact (congrArg (tcs n) (if_pos hin)).trans (ofF_add6 hin.1.1), by rw [hr], (fun y hy => .inr hy), ((((((((((hS.pick (A := blkA g3 41 _) (by repeat constructor)).drop.pick (A := blkA g4 49 (cmC c)) (by repeat constructor)).drop.pick (A := blkA g6 41 _) (by repeat constructor)).drop.pick (A := blkA g7 55 _) (by repeat constructor)).drop.pick (A := blkA g10 35 _) (by repeat constructor)).drop.pick (A := blkA g13 39 _) (by repeat constructor)).drop.pick (A := rdsA ps) (by repeat constructor)).pick (A := rowA 199 2 A4 (K ++ [(c.replica, c.version)]).length c4 ((K ++ [(c.replica, c.version)]).flatMap ackC)) (by repeat constructor)).pick (A := rowA 47 9 A Y.length c1 (Y.flatMap RuV.cells)) (by repeat constructor)).pick (A := blkA q 141 [.slice A Y.length c1]) (by repeat constructor))⟩)
          | (have hX := he
             obtain ⟨e1, e2, e3⟩ := ap_ok he
             exact ⟨q, A, c1, Y, A2, c2, K, (by first | (rw [e1, e3, he, hr]; done) | (rw [e1, e3, he, hr]; rfl)), hok, by omega, by rw [e2, hr], by rw [hr], (fun y hy => .inr hy), (((((((((hS.pick (A := blkA g3 41 _) (by repeat constructor)).drop.pick (A := blkA g4 49 (cmC c)) (by repeat constructor)).drop.pick (A := blkA g6 41 _) (by repeat constructor)).drop.pick (A := blkA g7 55 _) (by repeat constructor)).drop.pick (A := blkA g10 35 _) (by repeat constructor)).drop.pick (A := rdsA ps) (by repeat constructor)).pick (A := rowA 199 2 A2 K.length c2 (K.flatMap ackC)) (by repeat constructor)).pick (A := rowA 47 9 A Y.length c1 (Y.flatMap RuV.cells)) (by repeat constructor)).pick (A := blkA q 141 [.slice A Y.length c1]) (by repeat constructor))⟩)
       ·
        intro hc45
        have hc45d := of_decide_eq_false hc45
        have hp0 : ¬ s.pending ≠ 0 := by omega
        refine c_seq (c_seq (c_region ?_))
        refine t_q (q_fieldAddr 1 Try.runUnderlying35 rfl Try.sizeOf3 (by decide) rfl rfl) ?_
        refine t_q (q_load1 Try.isAgg3 rfl (hS.cell (by repeat constructor) rfl)) ?_
        refine t_q (q_eql rfl rfl) ?_
        refine t_nil ?_
        refine c_cond rfl ?_ ?_
        ·
         intro hc47
         have hc47d := of_decide_eq_true hc47
         have hb := backV_2 (s := s) hp0 (by omega)
         have he : (apV s (Y.map nf) n (ofF K) c i).e = 54 := by rw [ap_14 hk]; show (backV s).2 = 54; rw [hb]
         have h0 : (apV s (Y.map nf) n (ofF K) c i).e ≠ 0 := by rw [he]; decide
         refine c_seq (c_region ?_)
         refine t_q (q_cast (v' := .agg (([.int .i64 s.active, .int .i64 s.previous, .int .i64 s.pending, .int .u64 s.at_, .int .i64 s.shadow, .pointer (some ⟨q, 0, none⟩), .int .i64 n, .slice A2 K.length c2] : List Value)).toArray) (q_load_blk Try.isAgg41 Try.sizeOf41 rfl (hS.blk (by repeat constructor)) rfl) (by rfl)) ?_
         refine t_q (q_build (qs := [(0, 1), (1, 1), (2, 1), (3, 1), (4, 1), (5, 1), (6, 1), (7, 1), (8, 1), (9, 1), (10, 1), (11, 1)]) [(.int _ _), (.int _ _), (.int _ _), (.int _ _), (.int _ _), (.int _ _), (.int _ _), (.int _ _), (.int _ _), (.int _ _), (.int _ _), (.int _ _)] Try.zeroValue55 Try.runUnderlying55 ⟨rfl, Try.sizeOf3, rfl, Try.sizeOf3, rfl, Try.sizeOf26, rfl, Try.sizeOf26, rfl, Try.sizeOf3, rfl, Try.sizeOf2, rfl, Try.sizeOf2, rfl, Try.sizeOf2, rfl, Try.sizeOf2, rfl, Try.sizeOf53, rfl, Try.sizeOf3, rfl, Try.sizeOf26, trivial⟩ rfl rfl) ?_
         refine t_store (v := (.agg _)) Try.sizeOf41 hS (by repeat constructor) rfl rfl rfl rfl rfl rfl (fun w hS => ?_)
         replace hS := hS.recast (congrArg (blkA g6 41) (rset_full (vs := [.int .i64 s.active, .int .i64 s.previous, .int .i64 s.pending, .int .u64 s.at_, .int .i64 s.shadow, .pointer (some ⟨q, 0, none⟩), .int .i64 n, .slice A2 K.length c2]) rfl))
         refine t_store (v := (.agg _)) Try.sizeOf55 hS (by repeat constructor) rfl rfl rfl rfl rfl rfl (fun w hS => ?_)
         replace hS := hS.recast (congrArg (blkA g7 55) (rset_full (vs := evZ.cells) rfl))
         refine t_q (q_assign) ?_
         refine t_nil (c_ret ?_)
         refine r_three rfl (res1_cellN Try.isAgg41 Try.sizeOf41 rfl (hS.blk (by repeat constructor)) rfl) (res1_cellN Try.isAgg55 Try.sizeOf55 rfl (hS.blk (by repeat constructor)) rfl) rfl ?_
         first
           | (have hX := hne
              obtain ⟨e1, e2, e3, e4⟩ := ap_err h0
              exact ⟨q, A, c1, Y, A2, c2, K, (by first | (rw [e1, e3, he]; done) | (rw [e1, e3, he]; rfl)), hok, by omega, by rw [e2], e4.symm, (fun y hy => .inr hy), ((((((((((hS.pick (A := blkA g3 41 _) (by repeat constructor)).drop.pick (A := blkA g4 49 (cmC c)) (by repeat constructor)).drop.pick (A := blkA g6 41 _) (by repeat constructor)).drop.pick (A := blkA g7 55 _) (by repeat constructor)).drop.pick (A := blkA g10 35 _) (by repeat constructor)).drop.pick (A := blkA g33 141 [.slice A Y.length c1]) (by repeat constructor)).drop.pick (A := rdsA ps) (by repeat constructor)).pick (A := rowA 199 2 A2 K.length c2 (K.flatMap ackC)) (by repeat constructor)).pick (A := rowA 47 9 A Y.length c1 (Y.flatMap RuV.cells)) (by repeat constructor)).pick (A := blkA q 141 [.slice A Y.length c1]) (by repeat constructor))⟩)
           | (have hX := hno
              obtain ⟨e1, e2, e3, e4⟩ := ap_err h0
              exact ⟨q, A, c1, Y, A2, c2, K, (by first | (rw [e1, e3, he]; done) | (rw [e1, e3, he]; rfl)), hok, by omega, by rw [e2], e4.symm, (fun y hy => .inr hy), ((((((((((hS.pick (A := blkA g3 41 _) (by repeat constructor)).drop.pick (A := blkA g4 49 (cmC c)) (by repeat constructor)).drop.pick (A := blkA g6 41 _) (by repeat constructor)).drop.pick (A := blkA g7 55 _) (by repeat constructor)).drop.pick (A := blkA g10 35 _) (by repeat constructor)).drop.pick (A := blkA g13 39 _) (by repeat constructor)).drop.pick (A := rdsA ps) (by repeat constructor)).pick (A := rowA 199 2 A2 K.length c2 (K.flatMap ackC)) (by repeat constructor)).pick (A := rowA 47 9 A Y.length c1 (Y.flatMap RuV.cells)) (by repeat constructor)).pick (A := blkA q 141 [.slice A Y.length c1]) (by repeat constructor))⟩)
           | (have hX := h0
              obtain ⟨e1, e2, e3, e4⟩ := ap_err h0
              exact ⟨q, A, c1, Y, A2, c2, K, (by first | (rw [e1, e3, he]; done) | (rw [e1, e3, he]; rfl)), hok, by omega, by rw [e2], e4.symm, (fun y hy => .inr hy), (((((((((hS.pick (A := blkA g3 41 _) (by repeat constructor)).drop.pick (A := blkA g4 49 (cmC c)) (by repeat constructor)).drop.pick (A := blkA g6 41 _) (by repeat constructor)).drop.pick (A := blkA g7 55 _) (by repeat constructor)).drop.pick (A := blkA g10 35 _) (by repeat constructor)).drop.pick (A := rdsA ps) (by repeat constructor)).pick (A := rowA 199 2 A2 K.length c2 (K.flatMap ackC)) (by repeat constructor)).pick (A := rowA 47 9 A Y.length c1 (Y.flatMap RuV.cells)) (by repeat constructor)).pick (A := blkA q 141 [.slice A Y.length c1]) (by repeat constructor))⟩)
           | (have hX := hg0
              obtain ⟨e1, e2, e3⟩ := ap_ok he
              exact ⟨g33, A', c', Y', A2, c2, K, (by first | (rw [e1, e3, he, hr]; done) | (rw [e1, e3, he, hr]; rfl)), hok, by omega, by rw [e2, hr], by rw [hr]; exact hY', hsub', ((((((((((hS.pick (A := blkA g3 41 _) (by repeat constructor)).drop.pick (A := blkA g4 49 (cmC c)) (by repeat constructor)).drop.pick (A := blkA g6 41 _) (by repeat constructor)).drop.pick (A := blkA g7 55 _) (by repeat constructor)).drop.pick (A := blkA g10 35 _) (by repeat constructor)).drop.pick (A := blkA q 141 [.slice A Y.length c1]) (by repeat constructor)).drop.pick (A := rdsA ps) (by repeat constructor)).pick (A := rowA 199 2 A2 K.length c2 (K.flatMap ackC)) (by repeat constructor)).pick (A := rowA 47 9 A' Y'.length c' (Y'.flatMap RuV.cells)) (by repeat constructor)).pick (A := blkA g33 141 [.slice A' Y'.length c']) (by repeat constructor))⟩)
           | (have hX := hin
              obtain ⟨e1, e2, e3⟩ := ap_ok he
              exact ⟨q, A, c1, Y, A4, c4, (K ++ [(c.replica, c.version)]), (by first | (rw [e1, e3, he, hr]; done) | (rw [e1, e3, he, hr]; rfl)), hok.snoc6 hin, by rw [List.length_append]; exact Nat.le_refl _, by rw [e2, hr]; exact (congrArg (tcs n) (if_pos hin)).trans (ofF_add6 hin.1.1), by rw [hr], (fun y hy => .inr hy), ((((((((((hS.pick (A := blkA g3 41 _) (by repeat constructor)).drop.pick (A := blkA g4 49 (cmC c)) (by repeat constructor)).drop.pick (A := blkA g6 41 _) (by repeat constructor)).drop.pick (A := blkA g7 55 _) (by repeat constructor)).drop.pick (A := blkA g10 35 _) (by repeat constructor)).drop.pick (A := blkA g13 39 _) (by repeat constructor)).drop.pick (A := rdsA ps) (by repeat constructor)).pick (A := rowA 199 2 A4 (K ++ [(c.replica, c.version)]).length c4 ((K ++ [(c.replica, c.version)]).flatMap ackC)) (by repeat constructor)).pick (A := rowA 47 9 A Y.length c1 (Y.flatMap RuV.cells)) (by repeat constructor)).pick (A := blkA q 141 [.slice A Y.length c1]) (by repeat constructor))⟩)
           | (have hX := he
              obtain ⟨e1, e2, e3⟩ := ap_ok he
              exact ⟨q, A, c1, Y, A2, c2, K, (by first | (rw [e1, e3, he, hr]; done) | (rw [e1, e3, he, hr]; rfl)), hok, by omega, by rw [e2, hr], by rw [hr], (fun y hy => .inr hy), (((((((((hS.pick (A := blkA g3 41 _) (by repeat constructor)).drop.pick (A := blkA g4 49 (cmC c)) (by repeat constructor)).drop.pick (A := blkA g6 41 _) (by repeat constructor)).drop.pick (A := blkA g7 55 _) (by repeat constructor)).drop.pick (A := blkA g10 35 _) (by repeat constructor)).drop.pick (A := rdsA ps) (by repeat constructor)).pick (A := rowA 199 2 A2 K.length c2 (K.flatMap ackC)) (by repeat constructor)).pick (A := rowA 47 9 A Y.length c1 (Y.flatMap RuV.cells)) (by repeat constructor)).pick (A := blkA q 141 [.slice A Y.length c1]) (by repeat constructor))⟩)
        ·
         intro hc47
         have hc47d := of_decide_eq_false hc47
         have hb := backV_3 (s := s) hp0 (by omega)
         have hr := ap_14 (s := s) (M := (Y.map nf)) (n := n) (a := ofF K) (i := i) hk
         have he : (apV s (Y.map nf) n (ofF K) c i).e = 0 := by rw [hr]; show (backV s).2 = 0; rw [hb]
         refine c_skip (c_region ?_)
         refine t_q (q_fieldAddr 1 Try.runUnderlying35 rfl Try.sizeOf3 (by decide) rfl rfl) ?_
         refine t_q (q_load1 Try.isAgg3 rfl (hS.cell (by repeat constructor) rfl)) ?_
         refine t_q (q_build (qs := [(0, 1), (1, 1), (2, 1), (3, 1), (4, 1)]) [(.int _ _), (.int _ _), (.int _ _), (.int _ _), (.int _ _)] Try.zeroValue35 Try.runUnderlying35 ⟨rfl, Try.sizeOf3, rfl, Try.sizeOf3, rfl, Try.sizeOf3, rfl, Try.sizeOf26, rfl, Try.sizeOf3, trivial⟩ rfl rfl) ?_
         refine t_q (q_fieldAddr 0 Try.runUnderlying41 rfl Try.sizeOf35 (by decide) rfl rfl) ?_
         refine t_store (v := (.agg _)) Try.sizeOf35 hS (by repeat constructor) rfl rfl rfl rfl rfl rfl (fun w hS => ?_)
         replace hS := hS.recast (show blkA g3 41 _ = blkA g3 41 [.int .i64 (backV s).1.active, .int .i64 (backV s).1.previous, .int .i64 (backV s).1.pending, .int .u64 (backV s).1.at_, .int .i64 (backV s).1.shadow, .pointer (some ⟨q, 0, none⟩), .int .i64 n, .slice A2 K.length c2] from congrArg (blkA g3 41) (by rw [hb] <;> rfl))
         refine t_nil (c_seq (c_draw ?_))
         refine d_keep (blkA g3 41 [.int .i64 (backV s).1.active, .int .i64 (backV s).1.previous, .int .i64 (backV s).1.pending, .int .u64 (backV s).1.at_, .int .i64 (backV s).1.shadow, .pointer (some ⟨q, 0, none⟩), .int .i64 n, .slice A2 K.length c2]) 8 [0, 1, 2, 3, 4, 5, 6, 7] [0, 5, 1, 2, 3, 4, 6, 7] hS rfl (by kernel_rfl) (by kernel_rfl) (by kernel_rfl) (by kernel_rfl) (fun hap hsel w hS => ?_)
         refine p_q hap hsel 0 rfl rfl ⟨_, hS.pick (by repeat constructor)⟩ (fun w hI => (q_cast (v' := .agg (([.int .i64 (backV s).1.active, .int .i64 (backV s).1.previous, .int .i64 (backV s).1.pending, .int .u64 (backV s).1.at_, .int .i64 (backV s).1.shadow, .pointer (some ⟨q, 0, none⟩), .int .i64 n, .slice A2 K.length c2] : List Value)).toArray) (q_load_blk Try.isAgg41 Try.sizeOf41 rfl (hI.choose_spec.blk (by repeat constructor)) rfl) (by rfl))) ?_
         refine p_q hap hsel 1 rfl rfl ⟨_, hS.pick (by repeat constructor)⟩ (fun w hI => q_fieldAddr 0 Try.runUnderlying41 rfl Try.sizeOf35 (by decide) rfl rfl) ?_
         refine p_q hap hsel 2 rfl rfl ⟨_, hS.pick (by repeat constructor)⟩ (fun w hI => q_fieldAddr 0 Try.runUnderlying35 rfl Try.sizeOf3 (by decide) rfl rfl) ?_
         refine p_q hap hsel 3 rfl rfl ⟨_, hS.pick (by repeat constructor)⟩ (fun w hI => q_load1 Try.isAgg3 rfl (hI.choose_spec.cell (by repeat constructor) rfl)) ?_
         refine p_q hap hsel 4 rfl rfl ⟨_, hS.pick (by repeat constructor)⟩ (fun w hI => q_build (qs := [(0, 1), (1, 1), (2, 1), (3, 1), (4, 1), (5, 1), (6, 1), (7, 1), (8, 1), (9, 1), (10, 1), (11, 1)]) [(.int _ _), (.int _ _), (.int _ _), (.int _ _), (.int _ _), (.int _ _), (.int _ _), (.int _ _), (.int _ _), (.int _ _), (.int _ _), (.int _ _)] Try.zeroValue55 Try.runUnderlying55 ⟨rfl, Try.sizeOf3, rfl, Try.sizeOf3, rfl, Try.sizeOf26, rfl, Try.sizeOf26, rfl, Try.sizeOf3, rfl, Try.sizeOf2, rfl, Try.sizeOf2, rfl, Try.sizeOf2, rfl, Try.sizeOf2, rfl, Try.sizeOf53, rfl, Try.sizeOf3, rfl, Try.sizeOf26, trivial⟩ rfl rfl) ?_
         refine p_one 5 rfl (by kernel_rfl) ?_
         refine t_store (v := (.agg _)) Try.sizeOf41 hS (by repeat constructor) rfl rfl rfl rfl rfl rfl (fun w hS => ?_)
         replace hS := hS.recast (congrArg (blkA g6 41) (rset_full (vs := [.int .i64 (backV s).1.active, .int .i64 (backV s).1.previous, .int .i64 (backV s).1.pending, .int .u64 (backV s).1.at_, .int .i64 (backV s).1.shadow, .pointer (some ⟨q, 0, none⟩), .int .i64 n, .slice A2 K.length c2]) rfl))
         refine t_nil ?_
         refine ⟨.inr ⟨_, hS.pick (by repeat constructor)⟩, ?_⟩
         refine p_one 6 rfl (by kernel_rfl) ?_
         refine t_store (v := (.agg _)) Try.sizeOf55 hS (by repeat constructor) rfl rfl rfl rfl rfl rfl (fun w hS => ?_)
         replace hS := hS.recast (congrArg (blkA g7 55) (rset_full (vs := [.int .i64 14, .int .i64 0, .int .u64 0, .int .u64 0, .int .i64 0, .int .i64 0, .int .i64 0, .int .i64 0, .int .i64 0, .int .i64 0, .int .i64 (backV s).1.active, .int .u64 0]) rfl))
         refine t_nil ?_
         refine ⟨.inr ⟨_, hS.pick (by repeat constructor)⟩, ?_⟩
         refine p_q hap hsel 7 rfl rfl ⟨_, hS.pick (by repeat constructor)⟩ (fun w hI => q_assign) ?_
         refine p_end (by kernel_rfl) ?_
         refine c_ret ?_
         refine r_three rfl (res1_cellN Try.isAgg41 Try.sizeOf41 rfl (hS.blk (by repeat constructor)) rfl) (res1_cellN Try.isAgg55 Try.sizeOf55 rfl (hS.blk (by repeat constructor)) rfl) rfl ?_
         first
           | (have hX := hne
              obtain ⟨e1, e2, e3, e4⟩ := ap_err h0
              exact ⟨q, A, c1, Y, A2, c2, K, (by first | (rw [e1, e3, he]; done) | (rw [e1, e3, he]; rfl)), hok, by omega, by rw [e2], e4.symm, (fun y hy => .inr hy), ((((((((((hS.pick (A := blkA g3 41 _) (by repeat constructor)).drop.pick (A := blkA g4 49 (cmC c)) (by repeat constructor)).drop.pick (A := blkA g6 41 _) (by repeat constructor)).drop.pick (A := blkA g7 55 _) (by repeat constructor)).drop.pick (A := blkA g10 35 _) (by repeat constructor)).drop.pick (A := blkA g33 141 [.slice A Y.length c1]) (by repeat constructor)).drop.pick (A := rdsA ps) (by repeat constructor)).pick (A := rowA 199 2 A2 K.length c2 (K.flatMap ackC)) (by repeat constructor)).pick (A := rowA 47 9 A Y.length c1 (Y.flatMap RuV.cells)) (by repeat constructor)).pick (A := blkA q 141 [.slice A Y.length c1]) (by repeat constructor))⟩)
           | (have hX := hno
              obtain ⟨e1, e2, e3, e4⟩ := ap_err h0
              exact ⟨q, A, c1, Y, A2, c2, K, (by first | (rw [e1, e3, he]; done) | (rw [e1, e3, he]; rfl)), hok, by omega, by rw [e2], e4.symm, (fun y hy => .inr hy), ((((((((((hS.pick (A := blkA g3 41 _) (by repeat constructor)).drop.pick (A := blkA g4 49 (cmC c)) (by repeat constructor)).drop.pick (A := blkA g6 41 _) (by repeat constructor)).drop.pick (A := blkA g7 55 _) (by repeat constructor)).drop.pick (A := blkA g10 35 _) (by repeat constructor)).drop.pick (A := blkA g13 39 _) (by repeat constructor)).drop.pick (A := rdsA ps) (by repeat constructor)).pick (A := rowA 199 2 A2 K.length c2 (K.flatMap ackC)) (by repeat constructor)).pick (A := rowA 47 9 A Y.length c1 (Y.flatMap RuV.cells)) (by repeat constructor)).pick (A := blkA q 141 [.slice A Y.length c1]) (by repeat constructor))⟩)
           | (have hX := h0
              obtain ⟨e1, e2, e3, e4⟩ := ap_err h0
              exact ⟨q, A, c1, Y, A2, c2, K, (by first | (rw [e1, e3, he]; done) | (rw [e1, e3, he]; rfl)), hok, by omega, by rw [e2], e4.symm, (fun y hy => .inr hy), (((((((((hS.pick (A := blkA g3 41 _) (by repeat constructor)).drop.pick (A := blkA g4 49 (cmC c)) (by repeat constructor)).drop.pick (A := blkA g6 41 _) (by repeat constructor)).drop.pick (A := blkA g7 55 _) (by repeat constructor)).drop.pick (A := blkA g10 35 _) (by repeat constructor)).drop.pick (A := rdsA ps) (by repeat constructor)).pick (A := rowA 199 2 A2 K.length c2 (K.flatMap ackC)) (by repeat constructor)).pick (A := rowA 47 9 A Y.length c1 (Y.flatMap RuV.cells)) (by repeat constructor)).pick (A := blkA q 141 [.slice A Y.length c1]) (by repeat constructor))⟩)
           | (have hX := hg0
              obtain ⟨e1, e2, e3⟩ := ap_ok he
              exact ⟨g33, A', c', Y', A2, c2, K, (by first | (rw [e1, e3, he, hr]; done) | (rw [e1, e3, he, hr]; rfl)), hok, by omega, by rw [e2, hr], by rw [hr]; exact hY', hsub', ((((((((((hS.pick (A := blkA g3 41 _) (by repeat constructor)).drop.pick (A := blkA g4 49 (cmC c)) (by repeat constructor)).drop.pick (A := blkA g6 41 _) (by repeat constructor)).drop.pick (A := blkA g7 55 _) (by repeat constructor)).drop.pick (A := blkA g10 35 _) (by repeat constructor)).drop.pick (A := blkA q 141 [.slice A Y.length c1]) (by repeat constructor)).drop.pick (A := rdsA ps) (by repeat constructor)).pick (A := rowA 199 2 A2 K.length c2 (K.flatMap ackC)) (by repeat constructor)).pick (A := rowA 47 9 A' Y'.length c' (Y'.flatMap RuV.cells)) (by repeat constructor)).pick (A := blkA g33 141 [.slice A' Y'.length c']) (by repeat constructor))⟩)
           | (have hX := hin
              obtain ⟨e1, e2, e3⟩ := ap_ok he
              exact ⟨q, A, c1, Y, A4, c4, (K ++ [(c.replica, c.version)]), (by first | (rw [e1, e3, he, hr]; done) | (rw [e1, e3, he, hr]; rfl)), hok.snoc6 hin, by rw [List.length_append]; exact Nat.le_refl _, by rw [e2, hr]; exact (congrArg (tcs n) (if_pos hin)).trans (ofF_add6 hin.1.1), by rw [hr], (fun y hy => .inr hy), ((((((((((hS.pick (A := blkA g3 41 _) (by repeat constructor)).drop.pick (A := blkA g4 49 (cmC c)) (by repeat constructor)).drop.pick (A := blkA g6 41 _) (by repeat constructor)).drop.pick (A := blkA g7 55 _) (by repeat constructor)).drop.pick (A := blkA g10 35 _) (by repeat constructor)).drop.pick (A := blkA g13 39 _) (by repeat constructor)).drop.pick (A := rdsA ps) (by repeat constructor)).pick (A := rowA 199 2 A4 (K ++ [(c.replica, c.version)]).length c4 ((K ++ [(c.replica, c.version)]).flatMap ackC)) (by repeat constructor)).pick (A := rowA 47 9 A Y.length c1 (Y.flatMap RuV.cells)) (by repeat constructor)).pick (A := blkA q 141 [.slice A Y.length c1]) (by repeat constructor))⟩)
           | (have hX := he
              obtain ⟨e1, e2, e3⟩ := ap_ok he
              exact ⟨q, A, c1, Y, A2, c2, K, (by first | (rw [e1, e3, he, hr]; done) | (rw [e1, e3, he, hr]; rfl)), hok, by omega, by rw [e2, hr], by rw [hr], (fun y hy => .inr hy), (((((((((hS.pick (A := blkA g3 41 _) (by repeat constructor)).drop.pick (A := blkA g4 49 (cmC c)) (by repeat constructor)).drop.pick (A := blkA g6 41 _) (by repeat constructor)).drop.pick (A := blkA g7 55 _) (by repeat constructor)).drop.pick (A := blkA g10 35 _) (by repeat constructor)).drop.pick (A := rdsA ps) (by repeat constructor)).pick (A := rowA 199 2 A2 K.length c2 (K.flatMap ackC)) (by repeat constructor)).pick (A := rowA 47 9 A Y.length c1 (Y.flatMap RuV.cells)) (by repeat constructor)).pick (A := blkA q 141 [.slice A Y.length c1]) (by repeat constructor))⟩)
      ·
       intro hc43
       have hc43d := of_decide_eq_false hc43
       have he : (apV s (Y.map nf) n (ofF K) c i).e = 2 := by rw [ap_0 (by omega)]
       have h0 : (apV s (Y.map nf) n (ofF K) c i).e ≠ 0 := by rw [he]; decide
       refine c_skip (c_seq (c_region ?_))
       refine t_q (q_cast (v' := .agg (([.int .i64 s.active, .int .i64 s.previous, .int .i64 s.pending, .int .u64 s.at_, .int .i64 s.shadow, .pointer (some ⟨q, 0, none⟩), .int .i64 n, .slice A2 K.length c2] : List Value)).toArray) (q_load_blk Try.isAgg41 Try.sizeOf41 rfl (hS.blk (by repeat constructor)) rfl) (by rfl)) ?_
       refine t_q (q_build (qs := [(0, 1), (1, 1), (2, 1), (3, 1), (4, 1), (5, 1), (6, 1), (7, 1), (8, 1), (9, 1), (10, 1), (11, 1)]) [(.int _ _), (.int _ _), (.int _ _), (.int _ _), (.int _ _), (.int _ _), (.int _ _), (.int _ _), (.int _ _), (.int _ _), (.int _ _), (.int _ _)] Try.zeroValue55 Try.runUnderlying55 ⟨rfl, Try.sizeOf3, rfl, Try.sizeOf3, rfl, Try.sizeOf26, rfl, Try.sizeOf26, rfl, Try.sizeOf3, rfl, Try.sizeOf2, rfl, Try.sizeOf2, rfl, Try.sizeOf2, rfl, Try.sizeOf2, rfl, Try.sizeOf53, rfl, Try.sizeOf3, rfl, Try.sizeOf26, trivial⟩ rfl rfl) ?_
       refine t_store (v := (.agg _)) Try.sizeOf41 hS (by repeat constructor) rfl rfl rfl rfl rfl rfl (fun w hS => ?_)
       replace hS := hS.recast (congrArg (blkA g6 41) (rset_full (vs := [.int .i64 s.active, .int .i64 s.previous, .int .i64 s.pending, .int .u64 s.at_, .int .i64 s.shadow, .pointer (some ⟨q, 0, none⟩), .int .i64 n, .slice A2 K.length c2]) rfl))
       refine t_store (v := (.agg _)) Try.sizeOf55 hS (by repeat constructor) rfl rfl rfl rfl rfl rfl (fun w hS => ?_)
       replace hS := hS.recast (congrArg (blkA g7 55) (rset_full (vs := evZ.cells) rfl))
       refine t_q (q_assign) ?_
       refine t_nil (c_ret ?_)
       refine r_three rfl (res1_cellN Try.isAgg41 Try.sizeOf41 rfl (hS.blk (by repeat constructor)) rfl) (res1_cellN Try.isAgg55 Try.sizeOf55 rfl (hS.blk (by repeat constructor)) rfl) rfl ?_
       first
         | (have hX := hne
            obtain ⟨e1, e2, e3, e4⟩ := ap_err h0
            exact ⟨q, A, c1, Y, A2, c2, K, (by first | (rw [e1, e3, he]; done) | (rw [e1, e3, he]; rfl)), hok, by omega, by rw [e2], e4.symm, (fun y hy => .inr hy), ((((((((((hS.pick (A := blkA g3 41 _) (by repeat constructor)).drop.pick (A := blkA g4 49 (cmC c)) (by repeat constructor)).drop.pick (A := blkA g6 41 _) (by repeat constructor)).drop.pick (A := blkA g7 55 _) (by repeat constructor)).drop.pick (A := blkA g10 35 _) (by repeat constructor)).drop.pick (A := blkA g33 141 [.slice A Y.length c1]) (by repeat constructor)).drop.pick (A := rdsA ps) (by repeat constructor)).pick (A := rowA 199 2 A2 K.length c2 (K.flatMap ackC)) (by repeat constructor)).pick (A := rowA 47 9 A Y.length c1 (Y.flatMap RuV.cells)) (by repeat constructor)).pick (A := blkA q 141 [.slice A Y.length c1]) (by repeat constructor))⟩)
         | (have hX := hno
            obtain ⟨e1, e2, e3, e4⟩ := ap_err h0
            exact ⟨q, A, c1, Y, A2, c2, K, (by first | (rw [e1, e3, he]; done) | (rw [e1, e3, he]; rfl)), hok, by omega, by rw [e2], e4.symm, (fun y hy => .inr hy), ((((((((((hS.pick (A := blkA g3 41 _) (by repeat constructor)).drop.pick (A := blkA g4 49 (cmC c)) (by repeat constructor)).drop.pick (A := blkA g6 41 _) (by repeat constructor)).drop.pick (A := blkA g7 55 _) (by repeat constructor)).drop.pick (A := blkA g10 35 _) (by repeat constructor)).drop.pick (A := blkA g13 39 _) (by repeat constructor)).drop.pick (A := rdsA ps) (by repeat constructor)).pick (A := rowA 199 2 A2 K.length c2 (K.flatMap ackC)) (by repeat constructor)).pick (A := rowA 47 9 A Y.length c1 (Y.flatMap RuV.cells)) (by repeat constructor)).pick (A := blkA q 141 [.slice A Y.length c1]) (by repeat constructor))⟩)
         | (have hX := h0
            obtain ⟨e1, e2, e3, e4⟩ := ap_err h0
            exact ⟨q, A, c1, Y, A2, c2, K, (by first | (rw [e1, e3, he]; done) | (rw [e1, e3, he]; rfl)), hok, by omega, by rw [e2], e4.symm, (fun y hy => .inr hy), (((((((((hS.pick (A := blkA g3 41 _) (by repeat constructor)).drop.pick (A := blkA g4 49 (cmC c)) (by repeat constructor)).drop.pick (A := blkA g6 41 _) (by repeat constructor)).drop.pick (A := blkA g7 55 _) (by repeat constructor)).drop.pick (A := blkA g10 35 _) (by repeat constructor)).drop.pick (A := rdsA ps) (by repeat constructor)).pick (A := rowA 199 2 A2 K.length c2 (K.flatMap ackC)) (by repeat constructor)).pick (A := rowA 47 9 A Y.length c1 (Y.flatMap RuV.cells)) (by repeat constructor)).pick (A := blkA q 141 [.slice A Y.length c1]) (by repeat constructor))⟩)
         | (have hX := hg0
            obtain ⟨e1, e2, e3⟩ := ap_ok he
            exact ⟨g33, A', c', Y', A2, c2, K, (by first | (rw [e1, e3, he, hr]; done) | (rw [e1, e3, he, hr]; rfl)), hok, by omega, by rw [e2, hr], by rw [hr]; exact hY', hsub', ((((((((((hS.pick (A := blkA g3 41 _) (by repeat constructor)).drop.pick (A := blkA g4 49 (cmC c)) (by repeat constructor)).drop.pick (A := blkA g6 41 _) (by repeat constructor)).drop.pick (A := blkA g7 55 _) (by repeat constructor)).drop.pick (A := blkA g10 35 _) (by repeat constructor)).drop.pick (A := blkA q 141 [.slice A Y.length c1]) (by repeat constructor)).drop.pick (A := rdsA ps) (by repeat constructor)).pick (A := rowA 199 2 A2 K.length c2 (K.flatMap ackC)) (by repeat constructor)).pick (A := rowA 47 9 A' Y'.length c' (Y'.flatMap RuV.cells)) (by repeat constructor)).pick (A := blkA g33 141 [.slice A' Y'.length c']) (by repeat constructor))⟩)
         | (have hX := hin
            obtain ⟨e1, e2, e3⟩ := ap_ok he
            exact ⟨q, A, c1, Y, A4, c4, (K ++ [(c.replica, c.version)]), (by first | (rw [e1, e3, he, hr]; done) | (rw [e1, e3, he, hr]; rfl)), hok.snoc6 hin, by rw [List.length_append]; exact Nat.le_refl _, by rw [e2, hr]; exact (congrArg (tcs n) (if_pos hin)).trans (ofF_add6 hin.1.1), by rw [hr], (fun y hy => .inr hy), ((((((((((hS.pick (A := blkA g3 41 _) (by repeat constructor)).drop.pick (A := blkA g4 49 (cmC c)) (by repeat constructor)).drop.pick (A := blkA g6 41 _) (by repeat constructor)).drop.pick (A := blkA g7 55 _) (by repeat constructor)).drop.pick (A := blkA g10 35 _) (by repeat constructor)).drop.pick (A := blkA g13 39 _) (by repeat constructor)).drop.pick (A := rdsA ps) (by repeat constructor)).pick (A := rowA 199 2 A4 (K ++ [(c.replica, c.version)]).length c4 ((K ++ [(c.replica, c.version)]).flatMap ackC)) (by repeat constructor)).pick (A := rowA 47 9 A Y.length c1 (Y.flatMap RuV.cells)) (by repeat constructor)).pick (A := blkA q 141 [.slice A Y.length c1]) (by repeat constructor))⟩)
         | (have hX := he
            obtain ⟨e1, e2, e3⟩ := ap_ok he
            exact ⟨q, A, c1, Y, A2, c2, K, (by first | (rw [e1, e3, he, hr]; done) | (rw [e1, e3, he, hr]; rfl)), hok, by omega, by rw [e2, hr], by rw [hr], (fun y hy => .inr hy), (((((((((hS.pick (A := blkA g3 41 _) (by repeat constructor)).drop.pick (A := blkA g4 49 (cmC c)) (by repeat constructor)).drop.pick (A := blkA g6 41 _) (by repeat constructor)).drop.pick (A := blkA g7 55 _) (by repeat constructor)).drop.pick (A := blkA g10 35 _) (by repeat constructor)).drop.pick (A := rdsA ps) (by repeat constructor)).pick (A := rowA 199 2 A2 K.length c2 (K.flatMap ackC)) (by repeat constructor)).pick (A := rowA 47 9 A Y.length c1 (Y.flatMap RuV.cells)) (by repeat constructor)).pick (A := blkA q 141 [.slice A Y.length c1]) (by repeat constructor))⟩)
end Go.Proofs.Ytmgobaojioaioaa
