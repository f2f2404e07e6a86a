/- Any rule set has the document's bytes, and is read as it was: the walk. -/
import Derived.Test.YtmgobaojioaioaaDoorLB
namespace Go.Proofs.YtmgobaojioaioaaDoor
open Go Go.RowKit Go.Lib
variable {W : World}
theorem enc_same {a b : Nat} {u v : List UInt8} (h : enc a ++ u = enc b ++ v) (ha : a ≤ 1000000) (hb : b ≤ 1000000) : a = b := by
  have h1 := Rs.nat_enc (most := 1000000) ha (by decide) u false
  have h2 := Rs.nat_enc (most := 1000000) hb (by decide) v false
  rw [h, h2] at h1
  exact (congrArg Prod.fst h1).symm
/-- a rule set that may not be is not read -/
theorem ru_no {w : World} {x : RuV} (hx : x.Gd w) (ht : x.ticks.l.length ≤ 20) (hf : x.fees.l.length ≤ 20) (hg : goodR x = false) (rest : List UInt8) : ruOk ⟨ruB x ++ rest, false⟩ = false := by
  cases hb : ruOk ⟨ruB x ++ rest, false⟩ with
  | false => rfl
  | true =>
    exfalso
    obtain ⟨s, hs⟩ : ∃ s : Rs, s = ⟨ruB x ++ rest, false⟩ := ⟨_, rfl⟩
    have hs0 := hs
    rw [← hs] at hb
    unfold ruOk at hb
    rw [Bool.and_eq_true, Bool.not_eq_true'] at hb
    obtain ⟨h, hgy⟩ := hb
    obtain ⟨e10, g9⟩ := Rs.int_only (s := (q9 s).2) h
    obtain ⟨e9, g8⟩ := Rs.int_only (s := (q8 s).2) g9
    obtain ⟨e8, g7⟩ := Rs.int_only (s := (q7 s).2) g8
    obtain ⟨e7, g6⟩ := Rs.int_only (s := (q6 s).2) g7
    obtain ⟨e6, g5⟩ := trk_only (s := (q5 s).2) g6
    obtain ⟨e5, g4⟩ := Rs.nat_only (s := (q4 s).2) g5
    obtain ⟨e4, g3⟩ := Rs.int_only (s := (q3 s).2) g4
    obtain ⟨e3, g2⟩ := Rs.int_only (s := (q2 s).2) g3
    obtain ⟨e2, g1⟩ := tkk_only (s := (q1 s).2) g2
    obtain ⟨e1, g0⟩ := Rs.nat_only (s := (q0 s).2) g1
    change (q4 s).2.left = enc (q5 s).1 ++ (q5 s).2.left at e5
    change (q0 s).2.left = enc (q1 s).1 ++ (q1 s).2.left at e1
    have n1 : (q1 s).1 ≤ 8 := Rs.nat_le _ _
    have n5 : (q5 s).1 ≤ 8 := Rs.nat_le _ _
    rw [ruB_flat] at hs
    simp only [List.append_assoc] at hs
    have z0 := int_go hs hx.version
    change q0 s = _ at z0
    have h1 : x.ticks.l.length ≤ 8 := by
      rw [congrArg Prod.snd z0] at e1
      have := enc_same e1 (by omega) (by omega)
      omega
    have z1 := nat_go (m := 8) (congrArg Prod.snd z0) h1 (by decide)
    change q1 s = _ at z1
    have z2 := tkk_go (congrArg Prod.fst z1) (congrArg Prod.snd z1) hx.tin
    change q2 s = _ at z2
    have z3 := int_go (congrArg Prod.snd z2) hx.lot
    change q3 s = _ at z3
    have z4 := int_go (congrArg Prod.snd z3) hx.band
    change q4 s = _ at z4
    have h2 : x.fees.l.length ≤ 8 := by
      rw [congrArg Prod.snd z4] at e5
      have := enc_same e5 (by omega) (by omega)
      omega
    have hv := (ru_back hx h1 h2 rest none 0 none 0).1
    rw [← hs0] at hv
    rw [goodR_vw hv, hg] at hgy
    cases hgy
attribute [local irreducible] Rs.nat Rs.int
attribute [local irreducible] blkA rowA rdsA wrA rdrA ruS ruT ruOk ruB
set_option maxHeartbeats 4000000 in
set_option maxRecDepth 100000 in
theorem rwrites_yes {x : RuV} {B : Option Addr} {d : Nat} {more : List UInt8} (hE : EtOk W) (hx : x.Ok W) (hg : goodR x = true) (hmore : RdB W B more) (hd : more.length ≤ 9223372036854775807) : Calls Tryd.prog 6 #[.agg x.cells.toArray, .slice B more.length d] W fun e w' => e = .returned (.bool true) ∧ St W w' [] := by
  have hS := St.init W
  refine calls_of_wpE (args := [_, _]) Tryd.func6 rfl rfl rfl ?_
  refine c_seq ?_
  refine c_region ?_
  refine t_box (v := (.agg _)) rfl rfl hS (fun g2 w hS => ?_)
  replace hS := hS.recast (show _ = blkA g2 25 [.int .i64 x.version, .slice x.ticks.A x.ticks.l.length x.ticks.c, .int .i64 x.lot, .int .i64 x.band, .slice x.fees.A x.fees.l.length x.fees.c, .int .i64 x.round, .int .i64 x.priority, .int .i64 x.self, .int .i64 x.layout] from rfl)
  refine t_q (q_assign) ?_
  refine t_nil ?_
  refine c_seq ?_
  refine c_seq ?_
  refine c_region ?_
  refine t_q (q_cast (v' := .agg x.cells.toArray) (q_load_blk Tryd.isAgg25 Tryd.sizeOf25 rfl (hS.blk (by repeat first | exact .here _ _ | assumption | apply Pick.there)) rfl) (by rfl)) ?_
  refine t_call Tryd.call8 (rlight_calls (x := x)) rfl ?_
  rintro e w ⟨rfl, hT⟩
  refine ⟨_, rfl, ?_⟩
  replace hS := hS.after hT
  refine t_q (q_not rfl) ?_
  refine t_q (q_mv (.bool _) rfl) ?_
  refine t_case 13 rfl ?_ ?_
  · intro hg2
    refine t_no rfl rfl (by rw [(congrArg not (not_back hg2))]; decide) ?_
    refine t_no rfl rfl (by rw [(congrArg not (not_back hg2))]; decide) ?_
    refine t_no rfl rfl (by rw [(congrArg not (not_back hg2))]; decide) ?_
    refine t_q (q_pick_t rfl (congrArg not (not_back hg2))) ?_
    refine t_nil ?_
    refine c_cond_t rfl rfl ?_
    refine c_seq ?_
    refine c_region ?_
    refine t_call Tryd.call9 (r9lives_calls (hE.st hS)) rfl ?_
    rintro e w ⟨rfl, hT⟩
    refine ⟨_, rfl, ?_⟩
    replace hS := hS.after hT
    refine t_q (q_as (.bool _) rfl) ?_
    refine t_nil ?_
    refine c_ret ?_
    refine r_one rfl rfl ?_
    exact ⟨rfl, hS.nil⟩
  · intro hg2
    refine t_yes rfl rfl (congrArg not (not_back hg2)) ?_
    refine t_q (q_mv (.slice _ _ _) rfl) ?_
    refine t_yes rfl rfl (congrArg not (not_back hg2)) ?_
    refine t_q (q_len_slice Tryd.runUnderlying43 rfl) ?_
    refine t_yes rfl rfl (congrArg not (not_back hg2)) ?_
    refine t_q (q_gtr rfl rfl) ?_
    refine t_q (q_pick_f rfl (congrArg not (not_back hg2))) ?_
    refine t_nil ?_
    refine c_cond rfl ?_ ?_
    · intro hc5
      have hc5d := of_decide_eq_true hc5
      refine c_seq ?_
      refine c_region ?_
      refine t_call Tryd.call9 (r9lives_calls (hE.st hS)) rfl ?_
      rintro e w ⟨rfl, hT⟩
      refine ⟨_, rfl, ?_⟩
      replace hS := hS.after hT
      refine t_q (q_as (.bool _) rfl) ?_
      refine t_nil ?_
      refine c_ret ?_
      refine r_one rfl rfl ?_
      exact ⟨rfl, hS.nil⟩
    · intro hc5
      have hc5d := of_decide_eq_false hc5
      have hlx : lightR x = true := bnf (by assumption : (!lightR x) = false)
      have hgx : x.Gd W := light_rgd hx hlx
      obtain ⟨_, _, _, _, _, hl6⟩ := ru_lens hgx
      have h100 : more.length ≤ 100 := by omega
      have hok : ruOk (⟨ruB x ++ more, false⟩ : Rs) = true := (ru_yes hgx hg more none 0 none 0).1
      have hrs : ruS (⟨ruB x ++ more, false⟩ : Rs) = ⟨more, false⟩ := (ru_yes hgx hg more none 0 none 0).2.2
      refine c_skip ?_
      refine c_seq ?_
      refine c_region ?_
      refine t_q (q_cast (v' := .agg x.cells.toArray) (q_load_blk Tryd.isAgg25 Tryd.sizeOf25 rfl (hS.blk (by repeat first | exact .here _ _ | assumption | apply Pick.there)) rfl) (by rfl)) ?_
      refine t_call Tryd.call18 (rbytes9_calls (x := x) (hgx.st hS)) rfl ?_
      rintro e w ⟨A20, c20, rfl, hT⟩
      refine ⟨_, rfl, ?_⟩
      have hS : St W w (_ :: _) := hS.lift hT
      refine t_q (q_as (.slice _ _ _) rfl) ?_
      refine t_nil ?_
      refine c_seq ?_
      refine c_region ?_
      refine t_alloc Tryd.zeroValue46 rfl hS (fun g6 w hS => ?_)
      replace hS := hS.wr0
      refine t_nil ?_
      refine c_seq ?_
      refine c_region ?_
      refine t_q (q_cast (v' := .agg x.cells.toArray) (q_load_blk Tryd.isAgg25 Tryd.sizeOf25 rfl (hS.blk (by repeat first | exact .here _ _ | assumption | apply Pick.there)) rfl) (by rfl)) ?_
      refine t_call Tryd.call19 (rput_calls (x := x) hS (by repeat first | exact .here _ _ | assumption | apply Pick.there) hgx (by simp)) rfl ?_
      rintro e w ⟨rfl, hS⟩
      refine ⟨_, rfl, ?_⟩
      replace hS := hS.recast (congrArg (wrA g6) (List.nil_append (ruB x)))
      refine t_nil ?_
      refine c_seq ?_
      refine c_seq ?_
      refine c_draw ?_
      refine d_keep2 (rowA 5 1 A20 (ruB x).length c20 ((ruB x).map bv)) (blkA g2 25 [.int .i64 x.version, .slice x.ticks.A x.ticks.l.length x.ticks.c, .int .i64 x.lot, .int .i64 x.band, .slice x.fees.A x.fees.l.length x.fees.c, .int .i64 x.round, .int .i64 x.priority, .int .i64 x.self, .int .i64 x.layout]) 13 [0, 1, 2, 3, 4, 5, 6, 7, 8, 9, 10, 11, 12] [0, 1, 2, 3, 4, 5, 6, 7, 8, 9, 10, 11, 12] hS rfl (by kernel_rfl) (by kernel_rfl) (by kernel_rfl) (by kernel_rfl) (fun hap hsel w hS => ?_)
      refine p_q hap hsel 0 rfl rfl ⟨_, ((hS.pick (A := blkA g2 25 [.int .i64 x.version, .slice x.ticks.A x.ticks.l.length x.ticks.c, .int .i64 x.lot, .int .i64 x.band, .slice x.fees.A x.fees.l.length x.fees.c, .int .i64 x.round, .int .i64 x.priority, .int .i64 x.self, .int .i64 x.layout]) (by repeat first | exact .here _ _ | assumption | apply Pick.there)).pick (A := rowA 5 1 A20 (ruB x).length c20 ((ruB x).map bv)) (by repeat first | exact .here _ _ | assumption | apply Pick.there))⟩ (fun w hI => q_mv (.slice _ _ _) rfl) ?_
      refine p_q hap hsel 1 rfl rfl ⟨_, ((hS.pick (A := blkA g2 25 [.int .i64 x.version, .slice x.ticks.A x.ticks.l.length x.ticks.c, .int .i64 x.lot, .int .i64 x.band, .slice x.fees.A x.fees.l.length x.fees.c, .int .i64 x.round, .int .i64 x.priority, .int .i64 x.self, .int .i64 x.layout]) (by repeat first | exact .here _ _ | assumption | apply Pick.there)).pick (A := rowA 5 1 A20 (ruB x).length c20 ((ruB x).map bv)) (by repeat first | exact .here _ _ | assumption | apply Pick.there))⟩ (fun w hI => q_string Tryd.runUnderlying43 Tryd.runUnderlying5 Tryd.runUnderlying9 rfl rfl (hI.choose_spec.rowRd (A := A20) (c := c20) (bs := ruB x) (by repeat first | exact .here _ _ | assumption | apply Pick.there) rfl)) ?_
      refine p_q hap hsel 2 rfl rfl ⟨_, ((hS.pick (A := blkA g2 25 [.int .i64 x.version, .slice x.ticks.A x.ticks.l.length x.ticks.c, .int .i64 x.lot, .int .i64 x.band, .slice x.fees.A x.fees.l.length x.fees.c, .int .i64 x.round, .int .i64 x.priority, .int .i64 x.self, .int .i64 x.layout]) (by repeat first | exact .here _ _ | assumption | apply Pick.there)).pick (A := rowA 5 1 A20 (ruB x).length c20 ((ruB x).map bv)) (by repeat first | exact .here _ _ | assumption | apply Pick.there))⟩ (fun w hI => (q_cast (v' := .agg x.cells.toArray) (q_load_blk Tryd.isAgg25 Tryd.sizeOf25 rfl (hI.choose_spec.blk (by repeat first | exact .here _ _ | assumption | apply Pick.there)) rfl) (by rfl))) ?_
      refine p_one 3 rfl (by kernel_rfl) ?_
      refine t_call Tryd.call20 (qrbytes_calls (x := x) (hgx.st hS)) rfl ?_
      rintro e w ⟨A26, m26, c26, rfl, hm26, hT⟩
      refine ⟨_, rfl, ?_⟩
      have hS : St W w (_ :: _) := hS.lift hT
      subst hm26
      refine t_nil ?_
      refine ⟨.inr ⟨_, ((hS.pick (A := blkA g2 25 [.int .i64 x.version, .slice x.ticks.A x.ticks.l.length x.ticks.c, .int .i64 x.lot, .int .i64 x.band, .slice x.fees.A x.fees.l.length x.fees.c, .int .i64 x.round, .int .i64 x.priority, .int .i64 x.self, .int .i64 x.layout]) (by repeat first | exact .here _ _ | assumption | apply Pick.there)).pick (A := rowA 5 1 A20 (ruB x).length c20 ((ruB x).map bv)) (by repeat first | exact .here _ _ | assumption | apply Pick.there))⟩, ?_⟩
      refine p_one 4 rfl (by kernel_rfl) ?_
      refine t_q (q_string Tryd.runUnderlying43 Tryd.runUnderlying5 Tryd.runUnderlying9 rfl rfl (hS.rowRd (A := A26) (c := c26) (bs := ruB x) (by repeat first | exact .here _ _ | assumption | apply Pick.there) rfl)) ?_
      refine t_nil ?_
      refine ⟨.inr ⟨_, ((hS.pick (A := blkA g2 25 [.int .i64 x.version, .slice x.ticks.A x.ticks.l.length x.ticks.c, .int .i64 x.lot, .int .i64 x.band, .slice x.fees.A x.fees.l.length x.fees.c, .int .i64 x.round, .int .i64 x.priority, .int .i64 x.self, .int .i64 x.layout]) (by repeat first | exact .here _ _ | assumption | apply Pick.there)).pick (A := rowA 5 1 A20 (ruB x).length c20 ((ruB x).map bv)) (by repeat first | exact .here _ _ | assumption | apply Pick.there))⟩, ?_⟩
      refine p_q hap hsel 5 rfl rfl ⟨_, ((hS.pick (A := blkA g2 25 [.int .i64 x.version, .slice x.ticks.A x.ticks.l.length x.ticks.c, .int .i64 x.lot, .int .i64 x.band, .slice x.fees.A x.fees.l.length x.fees.c, .int .i64 x.round, .int .i64 x.priority, .int .i64 x.self, .int .i64 x.layout]) (by repeat first | exact .here _ _ | assumption | apply Pick.there)).pick (A := rowA 5 1 A20 (ruB x).length c20 ((ruB x).map bv)) (by repeat first | exact .here _ _ | assumption | apply Pick.there))⟩ (fun w hI => (q_cast (v' := .bool false) (q_neq_string rfl rfl) (by simp))) ?_
      refine p_q hap hsel 6 rfl rfl ⟨_, ((hS.pick (A := blkA g2 25 [.int .i64 x.version, .slice x.ticks.A x.ticks.l.length x.ticks.c, .int .i64 x.lot, .int .i64 x.band, .slice x.fees.A x.fees.l.length x.fees.c, .int .i64 x.round, .int .i64 x.priority, .int .i64 x.self, .int .i64 x.layout]) (by repeat first | exact .here _ _ | assumption | apply Pick.there)).pick (A := rowA 5 1 A20 (ruB x).length c20 ((ruB x).map bv)) (by repeat first | exact .here _ _ | assumption | apply Pick.there))⟩ (fun w hI => q_mv (.bool _) rfl) ?_
      refine p_yes hap hsel 9 rfl rfl ⟨_, ((hS.pick (A := blkA g2 25 [.int .i64 x.version, .slice x.ticks.A x.ticks.l.length x.ticks.c, .int .i64 x.lot, .int .i64 x.band, .slice x.fees.A x.fees.l.length x.fees.c, .int .i64 x.round, .int .i64 x.priority, .int .i64 x.self, .int .i64 x.layout]) (by repeat first | exact .here _ _ | assumption | apply Pick.there)).pick (A := rowA 5 1 A20 (ruB x).length c20 ((ruB x).map bv)) (by repeat first | exact .here _ _ | assumption | apply Pick.there))⟩ rfl rfl rfl (fun w hI => q_mv (.slice _ _ _) rfl) ?_
      refine p_yes hap hsel 10 rfl rfl ⟨_, ((hS.pick (A := blkA g2 25 [.int .i64 x.version, .slice x.ticks.A x.ticks.l.length x.ticks.c, .int .i64 x.lot, .int .i64 x.band, .slice x.fees.A x.fees.l.length x.fees.c, .int .i64 x.round, .int .i64 x.priority, .int .i64 x.self, .int .i64 x.layout]) (by repeat first | exact .here _ _ | assumption | apply Pick.there)).pick (A := rowA 5 1 A20 (ruB x).length c20 ((ruB x).map bv)) (by repeat first | exact .here _ _ | assumption | apply Pick.there))⟩ rfl rfl rfl (fun w hI => q_string Tryd.runUnderlying43 Tryd.runUnderlying5 Tryd.runUnderlying9 rfl rfl (hI.choose_spec.rowRd (A := A20) (c := c20) (bs := ruB x) (by repeat first | exact .here _ _ | assumption | apply Pick.there) rfl)) ?_
      refine p_one 7 rfl (by kernel_rfl) ?_
      refine t_yes rfl rfl rfl ?_
      refine t_call Tryd.call21 (Bytes_calls hS (by repeat first | exact .here _ _ | assumption | apply Pick.there) (by omega)) rfl ?_
      rintro e w ⟨A30, c30, rfl, hc30, hS⟩
      refine ⟨_, rfl, ?_⟩
      refine t_nil ?_
      refine ⟨.inr ⟨_, ((hS.pick (A := blkA g2 25 [.int .i64 x.version, .slice x.ticks.A x.ticks.l.length x.ticks.c, .int .i64 x.lot, .int .i64 x.band, .slice x.fees.A x.fees.l.length x.fees.c, .int .i64 x.round, .int .i64 x.priority, .int .i64 x.self, .int .i64 x.layout]) (by repeat first | exact .here _ _ | assumption | apply Pick.there)).pick (A := rowA 5 1 A20 (ruB x).length c20 ((ruB x).map bv)) (by repeat first | exact .here _ _ | assumption | apply Pick.there))⟩, ?_⟩
      refine p_one 8 rfl (by kernel_rfl) ?_
      refine t_yes rfl rfl rfl ?_
      refine t_q (q_string Tryd.runUnderlying43 Tryd.runUnderlying5 Tryd.runUnderlying9 rfl rfl (hS.rowRd (A := A30) (c := c30) (bs := ruB x) (by repeat first | exact .here _ _ | assumption | apply Pick.there) rfl)) ?_
      refine t_nil ?_
      refine ⟨.inr ⟨_, ((hS.pick (A := blkA g2 25 [.int .i64 x.version, .slice x.ticks.A x.ticks.l.length x.ticks.c, .int .i64 x.lot, .int .i64 x.band, .slice x.fees.A x.fees.l.length x.fees.c, .int .i64 x.round, .int .i64 x.priority, .int .i64 x.self, .int .i64 x.layout]) (by repeat first | exact .here _ _ | assumption | apply Pick.there)).pick (A := rowA 5 1 A20 (ruB x).length c20 ((ruB x).map bv)) (by repeat first | exact .here _ _ | assumption | apply Pick.there))⟩, ?_⟩
      refine p_yes hap hsel 11 rfl rfl ⟨_, ((hS.pick (A := blkA g2 25 [.int .i64 x.version, .slice x.ticks.A x.ticks.l.length x.ticks.c, .int .i64 x.lot, .int .i64 x.band, .slice x.fees.A x.fees.l.length x.fees.c, .int .i64 x.round, .int .i64 x.priority, .int .i64 x.self, .int .i64 x.layout]) (by repeat first | exact .here _ _ | assumption | apply Pick.there)).pick (A := rowA 5 1 A20 (ruB x).length c20 ((ruB x).map bv)) (by repeat first | exact .here _ _ | assumption | apply Pick.there))⟩ rfl rfl rfl (fun w hI => (q_cast (v' := .bool false) (q_neq_string rfl rfl) (by simp))) ?_
      refine p_q hap hsel 12 rfl rfl ⟨_, ((hS.pick (A := blkA g2 25 [.int .i64 x.version, .slice x.ticks.A x.ticks.l.length x.ticks.c, .int .i64 x.lot, .int .i64 x.band, .slice x.fees.A x.fees.l.length x.fees.c, .int .i64 x.round, .int .i64 x.priority, .int .i64 x.self, .int .i64 x.layout]) (by repeat first | exact .here _ _ | assumption | apply Pick.there)).pick (A := rowA 5 1 A20 (ruB x).length c20 ((ruB x).map bv)) (by repeat first | exact .here _ _ | assumption | apply Pick.there))⟩ (fun w hI => q_pick_f rfl rfl) ?_
      refine p_end (by kernel_rfl) ?_
      refine c_cond_f rfl rfl ?_
      refine c_skip ?_
      refine c_seq ?_
      refine c_region ?_
      refine t_build_bytes [] Tryd.runUnderlying43 Tryd.sizeOf5 Tryd.zeroValue5 rfl rfl (by simp; try omega) (by decide) hS (fun g36 w hS => ?_)
      refine t_q (q_mv (.slice _ _ _) rfl) ?_
      refine t_append (size := 1) (bytes := 1) Tryd.underlying43 (info_of Tryd.type5) rfl rfl rfl rfl (by decide) hS (by repeat first | exact .here _ _ | assumption | apply Pick.there) (hS.rowRd (A := A20) (c := c20) (bs := ruB x) (by repeat first | exact .here _ _ | assumption | apply Pick.there) rfl) rfl rfl (fun _ _ => rfl) (by unfold maxLen; omega) (by omega) (fun A38 c38 w hS => ?_)
      rw [flat_bsf] at hS
      refine t_q (q_mv (.slice _ _ _) rfl) ?_
      refine t_append (size := 1) (bytes := 1) Tryd.underlying43 (info_of Tryd.type5) rfl rfl rfl rfl (by decide) hS (by repeat first | exact .here _ _ | assumption | apply Pick.there) (hmore.st hS) rfl rfl (fun _ _ => rfl) (by unfold maxLen; omega) (by omega) (fun A40 c40 w hS => ?_)
      rw [flat_bsf] at hS
      replace hS := hS.recast (congrArg (rowA 5 1 A40 _ c40) (show _ = (ruB x ++ more).map bv from by rw [List.map_append]; rfl))
      have hcap := hS.row_le (.here _ _)
      have hlen : 0 + (ruB x).length + more.length = (ruB x ++ more).length := by rw [List.length_append, Nat.zero_add]
      rw [hlen] at hcap
      have hS0 := hS
      obtain ⟨w1, hw1⟩ : ∃ x, x = w := ⟨_, rfl⟩
      subst hw1
      have hb1 := hS.rowRd (bs := ruB x ++ more) (.here _ _) hlen
      replace hS := St.init w1
      refine t_call Tryd.call22 (Open_calls (bs := ruB x ++ more) hS hb1 ⟨hcap, by rw [List.length_append]; omega⟩) (congrArg (fun n => [Value.slice A40 n c40]) hlen) ?_
      rintro e w ⟨gR, rfl, hS⟩
      refine ⟨_, rfl, ?_⟩
      refine t_q (q_as (.pointer _) rfl) ?_
      refine t_nil ?_
      refine c_seq ?_
      refine c_region ?_
      refine t_q (q_mv (.pointer _) rfl) ?_
      refine t_call Tryd.call23 (rread_calls (s := (⟨ruB x ++ more, false⟩ : Rs)) hS (.here _ _)) rfl ?_
      rintro e w ⟨y, rfl, hY, hS⟩
      refine ⟨_, rfl, ?_⟩
      rw [hok]
      rw [hrs] at hS
      have hyv : y.vw = x.vw := by
        obtain ⟨a1, a2, a3, a4, e1⟩ := hY
        rw [e1]
        exact (ru_yes hgx hg more a1 a2 a3 a4).2.1
      replace hS := hS0.lift hS
      refine t_q (q_mv (.tuple _) rfl) ?_
      refine t_q (q_extract rfl rfl) ?_
      refine t_q (q_extract rfl rfl) ?_
      refine t_alloc Tryd.zeroValue25 rfl hS (fun g8 w hS => ?_)
      refine t_store (v := (.agg _)) Tryd.sizeOf25 hS (by repeat first | exact .here _ _ | assumption | apply Pick.there) rfl rfl rfl rfl rfl rfl (fun w hS => ?_)
      replace hS := hS.recast (congrArg (blkA g8 25) (rset_full (vs := y.cells) rfl))
      replace hS := hS.recast (show _ = blkA g8 25 [.int .i64 y.version, .slice y.ticks.A y.ticks.l.length y.ticks.c, .int .i64 y.lot, .int .i64 y.band, .slice y.fees.A y.fees.l.length y.fees.c, .int .i64 y.round, .int .i64 y.priority, .int .i64 y.self, .int .i64 y.layout] from rfl)
      refine t_q (q_as (.bool _) rfl) ?_
      refine t_nil ?_
      refine c_seq ?_
      refine c_seq ?_
      refine c_region ?_
      refine t_q (q_cast (v' := .agg x.cells.toArray) (q_load_blk Tryd.isAgg25 Tryd.sizeOf25 rfl (hS.blk (by repeat first | exact .here _ _ | assumption | apply Pick.there)) rfl) (by rfl)) ?_
      refine t_call Tryd.call24 (qgoodr_calls (x := x) (hgx.st hS)) rfl ?_
      rintro e w ⟨rfl, hT⟩
      refine ⟨_, rfl, ?_⟩
      replace hS := hS.after hT
      rw [hg]
      refine t_q (q_not rfl) ?_
      refine t_nil ?_
      refine c_cond_f rfl rfl ?_
      refine c_skip ?_
      refine c_seq ?_
      refine c_region ?_
      refine t_q (q_mv (.bool _) rfl) ?_
      refine t_q (q_mv (.bool _) rfl) ?_
      refine t_yes rfl rfl rfl ?_
      refine t_q (q_cast (v' := .agg y.cells.toArray) (q_load_blk Tryd.isAgg25 Tryd.sizeOf25 rfl (hS.blk (by repeat first | exact .here _ _ | assumption | apply Pick.there)) rfl) (by rfl)) ?_
      refine t_yes rfl rfl rfl ?_
      refine t_q (q_cast (v' := .agg x.cells.toArray) (q_load_blk Tryd.isAgg25 Tryd.sizeOf25 rfl (hS.blk (by repeat first | exact .here _ _ | assumption | apply Pick.there)) rfl) (by rfl)) ?_
      refine t_yes rfl rfl rfl ?_
      refine t_call Tryd.call17 (qrsame_calls (x := y) (y := x) (rt_gd hY (rowRdTk (A := y.ticks.A) (l := y.ticks.l) (c := y.ticks.c) (m := y.ticks.l.length) hS (by repeat first | exact .here _ _ | assumption | apply Pick.there) rfl) (rowRdTr (A := y.fees.A) (l := y.fees.l) (c := y.fees.c) (m := y.fees.l.length) hS (by repeat first | exact .here _ _ | assumption | apply Pick.there) rfl)) (hgx.st hS)) rfl ?_
      rintro e w ⟨rfl, hT⟩
      refine ⟨_, rfl, ?_⟩
      replace hS := hS.after hT
      rw [show decide (y.vw = x.vw) = true from decide_eq_true hyv]
      refine t_q (q_pick_t rfl rfl) ?_
      refine t_q (q_mv (.bool _) rfl) ?_
      refine t_yes rfl rfl rfl ?_
      refine t_q (q_mv (.pointer _) rfl) ?_
      refine t_yes rfl rfl rfl ?_
      refine t_call Tryd.call26 (rLeft hS (by repeat first | exact .here _ _ | assumption | apply Pick.there)) rfl ?_
      rintro e w ⟨rfl, hS⟩
      refine ⟨_, rfl, ?_⟩
      refine t_yes rfl rfl rfl ?_
      refine t_q (q_mv (.slice _ _ _) rfl) ?_
      refine t_yes rfl rfl rfl ?_
      refine t_q (q_len_slice Tryd.runUnderlying43 rfl) ?_
      refine t_yes rfl rfl rfl ?_
      refine t_q (q_cast (v' := .bool true) (q_eql rfl rfl) (by simp)) ?_
      refine t_q (q_pick_t rfl rfl) ?_
      refine t_q (q_mv (.bool _) rfl) ?_
      refine t_yes rfl rfl rfl ?_
      refine t_call Tryd.call9 (r9lives_calls (hE.st hS)) rfl ?_
      rintro e w ⟨rfl, hT⟩
      refine ⟨_, rfl, ?_⟩
      replace hS := hS.after hT
      refine t_q (q_pick_t rfl rfl) ?_
      refine t_q (q_as (.bool _) rfl) ?_
      refine t_nil ?_
      refine c_ret ?_
      refine r_one rfl rfl ?_
      exact ⟨rfl, hS.nil⟩
set_option maxHeartbeats 4000000 in
set_option maxRecDepth 100000 in
theorem rwrites_no {x : RuV} {B : Option Addr} {d : Nat} {more : List UInt8} (hE : EtOk W) (hx : x.Ok W) (hg : goodR x = false) (hno : lightR x = true → ruOk (⟨ruB x ++ more, false⟩ : Rs) = false) (hmore : RdB W B more) (hd : more.length ≤ 9223372036854775807) : Calls Tryd.prog 6 #[.agg x.cells.toArray, .slice B more.length d] W fun e w' => e = .returned (.bool true) ∧ St W w' [] := by
  have hS := St.init W
  refine calls_of_wpE (args := [_, _]) Tryd.func6 rfl rfl rfl ?_
  refine c_seq ?_
  refine c_region ?_
  refine t_box (v := (.agg _)) rfl rfl hS (fun g2 w hS => ?_)
  replace hS := hS.recast (show _ = blkA g2 25 [.int .i64 x.version, .slice x.ticks.A x.ticks.l.length x.ticks.c, .int .i64 x.lot, .int .i64 x.band, .slice x.fees.A x.fees.l.length x.fees.c, .int .i64 x.round, .int .i64 x.priority, .int .i64 x.self, .int .i64 x.layout] from rfl)
  refine t_q (q_assign) ?_
  refine t_nil ?_
  refine c_seq ?_
  refine c_seq ?_
  refine c_region ?_
  refine t_q (q_cast (v' := .agg x.cells.toArray) (q_load_blk Tryd.isAgg25 Tryd.sizeOf25 rfl (hS.blk (by repeat first | exact .here _ _ | assumption | apply Pick.there)) rfl) (by rfl)) ?_
  refine t_call Tryd.call8 (rlight_calls (x := x)) rfl ?_
  rintro e w ⟨rfl, hT⟩
  refine ⟨_, rfl, ?_⟩
  replace hS := hS.after hT
  refine t_q (q_not rfl) ?_
  refine t_q (q_mv (.bool _) rfl) ?_
  refine t_case 13 rfl ?_ ?_
  · intro hg2
    refine t_no rfl rfl (by rw [(congrArg not (not_back hg2))]; decide) ?_
    refine t_no rfl rfl (by rw [(congrArg not (not_back hg2))]; decide) ?_
    refine t_no rfl rfl (by rw [(congrArg not (not_back hg2))]; decide) ?_
    refine t_q (q_pick_t rfl (congrArg not (not_back hg2))) ?_
    refine t_nil ?_
    refine c_cond_t rfl rfl ?_
    refine c_seq ?_
    refine c_region ?_
    refine t_call Tryd.call9 (r9lives_calls (hE.st hS)) rfl ?_
    rintro e w ⟨rfl, hT⟩
    refine ⟨_, rfl, ?_⟩
    replace hS := hS.after hT
    refine t_q (q_as (.bool _) rfl) ?_
    refine t_nil ?_
    refine c_ret ?_
    refine r_one rfl rfl ?_
    exact ⟨rfl, hS.nil⟩
  · intro hg2
    refine t_yes rfl rfl (congrArg not (not_back hg2)) ?_
    refine t_q (q_mv (.slice _ _ _) rfl) ?_
    refine t_yes rfl rfl (congrArg not (not_back hg2)) ?_
    refine t_q (q_len_slice Tryd.runUnderlying43 rfl) ?_
    refine t_yes rfl rfl (congrArg not (not_back hg2)) ?_
    refine t_q (q_gtr rfl rfl) ?_
    refine t_q (q_pick_f rfl (congrArg not (not_back hg2))) ?_
    refine t_nil ?_
    refine c_cond rfl ?_ ?_
    · intro hc5
      have hc5d := of_decide_eq_true hc5
      refine c_seq ?_
      refine c_region ?_
      refine t_call Tryd.call9 (r9lives_calls (hE.st hS)) rfl ?_
      rintro e w ⟨rfl, hT⟩
      refine ⟨_, rfl, ?_⟩
      replace hS := hS.after hT
      refine t_q (q_as (.bool _) rfl) ?_
      refine t_nil ?_
      refine c_ret ?_
      refine r_one rfl rfl ?_
      exact ⟨rfl, hS.nil⟩
    · intro hc5
      have hc5d := of_decide_eq_false hc5
      have hlx : lightR x = true := bnf (by assumption : (!lightR x) = false)
      have hgx : x.Gd W := light_rgd hx hlx
      obtain ⟨_, _, _, _, _, hl6⟩ := ru_lens hgx
      have h100 : more.length ≤ 100 := by omega
      have hok := hno hlx
      refine c_skip ?_
      refine c_seq ?_
      refine c_region ?_
      refine t_q (q_cast (v' := .agg x.cells.toArray) (q_load_blk Tryd.isAgg25 Tryd.sizeOf25 rfl (hS.blk (by repeat first | exact .here _ _ | assumption | apply Pick.there)) rfl) (by rfl)) ?_
      refine t_call Tryd.call18 (rbytes9_calls (x := x) (hgx.st hS)) rfl ?_
      rintro e w ⟨A20, c20, rfl, hT⟩
      refine ⟨_, rfl, ?_⟩
      have hS : St W w (_ :: _) := hS.lift hT
      refine t_q (q_as (.slice _ _ _) rfl) ?_
      refine t_nil ?_
      refine c_seq ?_
      refine c_region ?_
      refine t_alloc Tryd.zeroValue46 rfl hS (fun g6 w hS => ?_)
      replace hS := hS.wr0
      refine t_nil ?_
      refine c_seq ?_
      refine c_region ?_
      refine t_q (q_cast (v' := .agg x.cells.toArray) (q_load_blk Tryd.isAgg25 Tryd.sizeOf25 rfl (hS.blk (by repeat first | exact .here _ _ | assumption | apply Pick.there)) rfl) (by rfl)) ?_
      refine t_call Tryd.call19 (rput_calls (x := x) hS (by repeat first | exact .here _ _ | assumption | apply Pick.there) hgx (by simp)) rfl ?_
      rintro e w ⟨rfl, hS⟩
      refine ⟨_, rfl, ?_⟩
      replace hS := hS.recast (congrArg (wrA g6) (List.nil_append (ruB x)))
      refine t_nil ?_
      refine c_seq ?_
      refine c_seq ?_
      refine c_draw ?_
      refine d_keep2 (rowA 5 1 A20 (ruB x).length c20 ((ruB x).map bv)) (blkA g2 25 [.int .i64 x.version, .slice x.ticks.A x.ticks.l.length x.ticks.c, .int .i64 x.lot, .int .i64 x.band, .slice x.fees.A x.fees.l.length x.fees.c, .int .i64 x.round, .int .i64 x.priority, .int .i64 x.self, .int .i64 x.layout]) 13 [0, 1, 2, 3, 4, 5, 6, 7, 8, 9, 10, 11, 12] [0, 1, 2, 3, 4, 5, 6, 7, 8, 9, 10, 11, 12] hS rfl (by kernel_rfl) (by kernel_rfl) (by kernel_rfl) (by kernel_rfl) (fun hap hsel w hS => ?_)
      refine p_q hap hsel 0 rfl rfl ⟨_, ((hS.pick (A := blkA g2 25 [.int .i64 x.version, .slice x.ticks.A x.ticks.l.length x.ticks.c, .int .i64 x.lot, .int .i64 x.band, .slice x.fees.A x.fees.l.length x.fees.c, .int .i64 x.round, .int .i64 x.priority, .int .i64 x.self, .int .i64 x.layout]) (by repeat first | exact .here _ _ | assumption | apply Pick.there)).pick (A := rowA 5 1 A20 (ruB x).length c20 ((ruB x).map bv)) (by repeat first | exact .here _ _ | assumption | apply Pick.there))⟩ (fun w hI => q_mv (.slice _ _ _) rfl) ?_
      refine p_q hap hsel 1 rfl rfl ⟨_, ((hS.pick (A := blkA g2 25 [.int .i64 x.version, .slice x.ticks.A x.ticks.l.length x.ticks.c, .int .i64 x.lot, .int .i64 x.band, .slice x.fees.A x.fees.l.length x.fees.c, .int .i64 x.round, .int .i64 x.priority, .int .i64 x.self, .int .i64 x.layout]) (by repeat first | exact .here _ _ | assumption | apply Pick.there)).pick (A := rowA 5 1 A20 (ruB x).length c20 ((ruB x).map bv)) (by repeat first | exact .here _ _ | assumption | apply Pick.there))⟩ (fun w hI => q_string Tryd.runUnderlying43 Tryd.runUnderlying5 Tryd.runUnderlying9 rfl rfl (hI.choose_spec.rowRd (A := A20) (c := c20) (bs := ruB x) (by repeat first | exact .here _ _ | assumption | apply Pick.there) rfl)) ?_
      refine p_q hap hsel 2 rfl rfl ⟨_, ((hS.pick (A := blkA g2 25 [.int .i64 x.version, .slice x.ticks.A x.ticks.l.length x.ticks.c, .int .i64 x.lot, .int .i64 x.band, .slice x.fees.A x.fees.l.length x.fees.c, .int .i64 x.round, .int .i64 x.priority, .int .i64 x.self, .int .i64 x.layout]) (by repeat first | exact .here _ _ | assumption | apply Pick.there)).pick (A := rowA 5 1 A20 (ruB x).length c20 ((ruB x).map bv)) (by repeat first | exact .here _ _ | assumption | apply Pick.there))⟩ (fun w hI => (q_cast (v' := .agg x.cells.toArray) (q_load_blk Tryd.isAgg25 Tryd.sizeOf25 rfl (hI.choose_spec.blk (by repeat first | exact .here _ _ | assumption | apply Pick.there)) rfl) (by rfl))) ?_
      refine p_one 3 rfl (by kernel_rfl) ?_
      refine t_call Tryd.call20 (qrbytes_calls (x := x) (hgx.st hS)) rfl ?_
      rintro e w ⟨A26, m26, c26, rfl, hm26, hT⟩
      refine ⟨_, rfl, ?_⟩
      have hS : St W w (_ :: _) := hS.lift hT
      subst hm26
      refine t_nil ?_
      refine ⟨.inr ⟨_, ((hS.pick (A := blkA g2 25 [.int .i64 x.version, .slice x.ticks.A x.ticks.l.length x.ticks.c, .int .i64 x.lot, .int .i64 x.band, .slice x.fees.A x.fees.l.length x.fees.c, .int .i64 x.round, .int .i64 x.priority, .int .i64 x.self, .int .i64 x.layout]) (by repeat first | exact .here _ _ | assumption | apply Pick.there)).pick (A := rowA 5 1 A20 (ruB x).length c20 ((ruB x).map bv)) (by repeat first | exact .here _ _ | assumption | apply Pick.there))⟩, ?_⟩
      refine p_one 4 rfl (by kernel_rfl) ?_
      refine t_q (q_string Tryd.runUnderlying43 Tryd.runUnderlying5 Tryd.runUnderlying9 rfl rfl (hS.rowRd (A := A26) (c := c26) (bs := ruB x) (by repeat first | exact .here _ _ | assumption | apply Pick.there) rfl)) ?_
      refine t_nil ?_
      refine ⟨.inr ⟨_, ((hS.pick (A := blkA g2 25 [.int .i64 x.version, .slice x.ticks.A x.ticks.l.length x.ticks.c, .int .i64 x.lot, .int .i64 x.band, .slice x.fees.A x.fees.l.length x.fees.c, .int .i64 x.round, .int .i64 x.priority, .int .i64 x.self, .int .i64 x.layout]) (by repeat first | exact .here _ _ | assumption | apply Pick.there)).pick (A := rowA 5 1 A20 (ruB x).length c20 ((ruB x).map bv)) (by repeat first | exact .here _ _ | assumption | apply Pick.there))⟩, ?_⟩
      refine p_q hap hsel 5 rfl rfl ⟨_, ((hS.pick (A := blkA g2 25 [.int .i64 x.version, .slice x.ticks.A x.ticks.l.length x.ticks.c, .int .i64 x.lot, .int .i64 x.band, .slice x.fees.A x.fees.l.length x.fees.c, .int .i64 x.round, .int .i64 x.priority, .int .i64 x.self, .int .i64 x.layout]) (by repeat first | exact .here _ _ | assumption | apply Pick.there)).pick (A := rowA 5 1 A20 (ruB x).length c20 ((ruB x).map bv)) (by repeat first | exact .here _ _ | assumption | apply Pick.there))⟩ (fun w hI => (q_cast (v' := .bool false) (q_neq_string rfl rfl) (by simp))) ?_
      refine p_q hap hsel 6 rfl rfl ⟨_, ((hS.pick (A := blkA g2 25 [.int .i64 x.version, .slice x.ticks.A x.ticks.l.length x.ticks.c, .int .i64 x.lot, .int .i64 x.band, .slice x.fees.A x.fees.l.length x.fees.c, .int .i64 x.round, .int .i64 x.priority, .int .i64 x.self, .int .i64 x.layout]) (by repeat first | exact .here _ _ | assumption | apply Pick.there)).pick (A := rowA 5 1 A20 (ruB x).length c20 ((ruB x).map bv)) (by repeat first | exact .here _ _ | assumption | apply Pick.there))⟩ (fun w hI => q_mv (.bool _) rfl) ?_
      refine p_yes hap hsel 9 rfl rfl ⟨_, ((hS.pick (A := blkA g2 25 [.int .i64 x.version, .slice x.ticks.A x.ticks.l.length x.ticks.c, .int .i64 x.lot, .int .i64 x.band, .slice x.fees.A x.fees.l.length x.fees.c, .int .i64 x.round, .int .i64 x.priority, .int .i64 x.self, .int .i64 x.layout]) (by repeat first | exact .here _ _ | assumption | apply Pick.there)).pick (A := rowA 5 1 A20 (ruB x).length c20 ((ruB x).map bv)) (by repeat first | exact .here _ _ | assumption | apply Pick.there))⟩ rfl rfl rfl (fun w hI => q_mv (.slice _ _ _) rfl) ?_
      refine p_yes hap hsel 10 rfl rfl ⟨_, ((hS.pick (A := blkA g2 25 [.int .i64 x.version, .slice x.ticks.A x.ticks.l.length x.ticks.c, .int .i64 x.lot, .int .i64 x.band, .slice x.fees.A x.fees.l.length x.fees.c, .int .i64 x.round, .int .i64 x.priority, .int .i64 x.self, .int .i64 x.layout]) (by repeat first | exact .here _ _ | assumption | apply Pick.there)).pick (A := rowA 5 1 A20 (ruB x).length c20 ((ruB x).map bv)) (by repeat first | exact .here _ _ | assumption | apply Pick.there))⟩ rfl rfl rfl (fun w hI => q_string Tryd.runUnderlying43 Tryd.runUnderlying5 Tryd.runUnderlying9 rfl rfl (hI.choose_spec.rowRd (A := A20) (c := c20) (bs := ruB x) (by repeat first | exact .here _ _ | assumption | apply Pick.there) rfl)) ?_
      refine p_one 7 rfl (by kernel_rfl) ?_
      refine t_yes rfl rfl rfl ?_
      refine t_call Tryd.call21 (Bytes_calls hS (by repeat first | exact .here _ _ | assumption | apply Pick.there) (by omega)) rfl ?_
      rintro e w ⟨A30, c30, rfl, hc30, hS⟩
      refine ⟨_, rfl, ?_⟩
      refine t_nil ?_
      refine ⟨.inr ⟨_, ((hS.pick (A := blkA g2 25 [.int .i64 x.version, .slice x.ticks.A x.ticks.l.length x.ticks.c, .int .i64 x.lot, .int .i64 x.band, .slice x.fees.A x.fees.l.length x.fees.c, .int .i64 x.round, .int .i64 x.priority, .int .i64 x.self, .int .i64 x.layout]) (by repeat first | exact .here _ _ | assumption | apply Pick.there)).pick (A := rowA 5 1 A20 (ruB x).length c20 ((ruB x).map bv)) (by repeat first | exact .here _ _ | assumption | apply Pick.there))⟩, ?_⟩
      refine p_one 8 rfl (by kernel_rfl) ?_
      refine t_yes rfl rfl rfl ?_
      refine t_q (q_string Tryd.runUnderlying43 Tryd.runUnderlying5 Tryd.runUnderlying9 rfl rfl (hS.rowRd (A := A30) (c := c30) (bs := ruB x) (by repeat first | exact .here _ _ | assumption | apply Pick.there) rfl)) ?_
      refine t_nil ?_
      refine ⟨.inr ⟨_, ((hS.pick (A := blkA g2 25 [.int .i64 x.version, .slice x.ticks.A x.ticks.l.length x.ticks.c, .int .i64 x.lot, .int .i64 x.band, .slice x.fees.A x.fees.l.length x.fees.c, .int .i64 x.round, .int .i64 x.priority, .int .i64 x.self, .int .i64 x.layout]) (by repeat first | exact .here _ _ | assumption | apply Pick.there)).pick (A := rowA 5 1 A20 (ruB x).length c20 ((ruB x).map bv)) (by repeat first | exact .here _ _ | assumption | apply Pick.there))⟩, ?_⟩
      refine p_yes hap hsel 11 rfl rfl ⟨_, ((hS.pick (A := blkA g2 25 [.int .i64 x.version, .slice x.ticks.A x.ticks.l.length x.ticks.c, .int .i64 x.lot, .int .i64 x.band, .slice x.fees.A x.fees.l.length x.fees.c, .int .i64 x.round, .int .i64 x.priority, .int .i64 x.self, .int .i64 x.layout]) (by repeat first | exact .here _ _ | assumption | apply Pick.there)).pick (A := rowA 5 1 A20 (ruB x).length c20 ((ruB x).map bv)) (by repeat first | exact .here _ _ | assumption | apply Pick.there))⟩ rfl rfl rfl (fun w hI => (q_cast (v' := .bool false) (q_neq_string rfl rfl) (by simp))) ?_
      refine p_q hap hsel 12 rfl rfl ⟨_, ((hS.pick (A := blkA g2 25 [.int .i64 x.version, .slice x.ticks.A x.ticks.l.length x.ticks.c, .int .i64 x.lot, .int .i64 x.band, .slice x.fees.A x.fees.l.length x.fees.c, .int .i64 x.round, .int .i64 x.priority, .int .i64 x.self, .int .i64 x.layout]) (by repeat first | exact .here _ _ | assumption | apply Pick.there)).pick (A := rowA 5 1 A20 (ruB x).length c20 ((ruB x).map bv)) (by repeat first | exact .here _ _ | assumption | apply Pick.there))⟩ (fun w hI => q_pick_f rfl rfl) ?_
      refine p_end (by kernel_rfl) ?_
      refine c_cond_f rfl rfl ?_
      refine c_skip ?_
      refine c_seq ?_
      refine c_region ?_
      refine t_build_bytes [] Tryd.runUnderlying43 Tryd.sizeOf5 Tryd.zeroValue5 rfl rfl (by simp; try omega) (by decide) hS (fun g36 w hS => ?_)
      refine t_q (q_mv (.slice _ _ _) rfl) ?_
      refine t_append (size := 1) (bytes := 1) Tryd.underlying43 (info_of Tryd.type5) rfl rfl rfl rfl (by decide) hS (by repeat first | exact .here _ _ | assumption | apply Pick.there) (hS.rowRd (A := A20) (c := c20) (bs := ruB x) (by repeat first | exact .here _ _ | assumption | apply Pick.there) rfl) rfl rfl (fun _ _ => rfl) (by unfold maxLen; omega) (by omega) (fun A38 c38 w hS => ?_)
      rw [flat_bsf] at hS
      refine t_q (q_mv (.slice _ _ _) rfl) ?_
      refine t_append (size := 1) (bytes := 1) Tryd.underlying43 (info_of Tryd.type5) rfl rfl rfl rfl (by decide) hS (by repeat first | exact .here _ _ | assumption | apply Pick.there) (hmore.st hS) rfl rfl (fun _ _ => rfl) (by unfold maxLen; omega) (by omega) (fun A40 c40 w hS => ?_)
      rw [flat_bsf] at hS
      replace hS := hS.recast (congrArg (rowA 5 1 A40 _ c40) (show _ = (ruB x ++ more).map bv from by rw [List.map_append]; rfl))
      have hcap := hS.row_le (.here _ _)
      have hlen : 0 + (ruB x).length + more.length = (ruB x ++ more).length := by rw [List.length_append, Nat.zero_add]
      rw [hlen] at hcap
      have hS0 := hS
      obtain ⟨w1, hw1⟩ : ∃ x, x = w := ⟨_, rfl⟩
      subst hw1
      have hb1 := hS.rowRd (bs := ruB x ++ more) (.here _ _) hlen
      replace hS := St.init w1
      refine t_call Tryd.call22 (Open_calls (bs := ruB x ++ more) hS hb1 ⟨hcap, by rw [List.length_append]; omega⟩) (congrArg (fun n => [Value.slice A40 n c40]) hlen) ?_
      rintro e w ⟨gR, rfl, hS⟩
      refine ⟨_, rfl, ?_⟩
      refine t_q (q_as (.pointer _) rfl) ?_
      refine t_nil ?_
      refine c_seq ?_
      refine c_region ?_
      refine t_q (q_mv (.pointer _) rfl) ?_
      refine t_call Tryd.call23 (rread_calls (s := (⟨ruB x ++ more, false⟩ : Rs)) hS (.here _ _)) rfl ?_
      rintro e w ⟨y, rfl, hY, hS⟩
      refine ⟨_, rfl, ?_⟩
      rw [hok]
      replace hS := hS.recast (congrArg (rdrA w1 93 gR) (ruT_no (A := none) (c := 0) (B := none) (d := 0) hok).2)
      replace hS := hS0.lift hS
      refine t_q (q_mv (.tuple _) rfl) ?_
      refine t_q (q_extract rfl rfl) ?_
      refine t_q (q_extract rfl rfl) ?_
      refine t_alloc Tryd.zeroValue25 rfl hS (fun g8 w hS => ?_)
      refine t_store (v := (.agg _)) Tryd.sizeOf25 hS (by repeat first | exact .here _ _ | assumption | apply Pick.there) rfl rfl rfl rfl rfl rfl (fun w hS => ?_)
      replace hS := hS.recast (congrArg (blkA g8 25) (rset_full (vs := y.cells) rfl))
      replace hS := hS.recast (show _ = blkA g8 25 [.int .i64 y.version, .slice y.ticks.A y.ticks.l.length y.ticks.c, .int .i64 y.lot, .int .i64 y.band, .slice y.fees.A y.fees.l.length y.fees.c, .int .i64 y.round, .int .i64 y.priority, .int .i64 y.self, .int .i64 y.layout] from rfl)
      refine t_q (q_as (.bool _) rfl) ?_
      refine t_nil ?_
      refine c_seq ?_
      refine c_seq ?_
      refine c_region ?_
      refine t_q (q_cast (v' := .agg x.cells.toArray) (q_load_blk Tryd.isAgg25 Tryd.sizeOf25 rfl (hS.blk (by repeat first | exact .here _ _ | assumption | apply Pick.there)) rfl) (by rfl)) ?_
      refine t_call Tryd.call24 (qgoodr_calls (x := x) (hgx.st hS)) rfl ?_
      rintro e w ⟨rfl, hT⟩
      refine ⟨_, rfl, ?_⟩
      replace hS := hS.after hT
      rw [hg]
      refine t_q (q_not rfl) ?_
      refine t_nil ?_
      refine c_cond_t rfl rfl ?_
      refine c_seq ?_
      refine c_region ?_
      refine t_q (q_mv (.bool _) rfl) ?_
      refine t_q (q_not rfl) ?_
      refine t_q (q_mv (.bool _) rfl) ?_
      refine t_yes rfl rfl rfl ?_
      refine t_q (q_mv (.pointer _) rfl) ?_
      refine t_yes rfl rfl rfl ?_
      refine t_call Tryd.call25 (rBad hS (by repeat first | exact .here _ _ | assumption | apply Pick.there)) rfl ?_
      rintro e w ⟨rfl, hS⟩
      refine ⟨_, rfl, ?_⟩
      refine t_q (q_pick_t rfl rfl) ?_
      refine t_q (q_mv (.bool _) rfl) ?_
      refine t_yes rfl rfl rfl ?_
      refine t_call Tryd.call9 (r9lives_calls (hE.st hS)) rfl ?_
      rintro e w ⟨rfl, hT⟩
      refine ⟨_, rfl, ?_⟩
      replace hS := hS.after hT
      refine t_q (q_pick_t rfl rfl) ?_
      refine t_q (q_as (.bool _) rfl) ?_
      refine t_nil ?_
      refine c_ret ?_
      refine r_one rfl rfl ?_
      exact ⟨rfl, hS.nil⟩
theorem RulesWrite_calls {x : RuV} {B : Option Addr} {d : Nat} {more : List UInt8} (hE : EtOk W) (hx : x.Ok W) (hmore : RdB W B more) (hd : more.length ≤ 9223372036854775807) : Calls Tryd.prog 6 #[.agg x.cells.toArray, .slice B more.length d] W fun e w' => e = .returned (.bool true) ∧ St W w' [] := by
  cases h : goodR x with
  | true => exact rwrites_yes hE hx h hmore hd
  | false =>
    refine rwrites_no hE hx h (fun hl => ?_) hmore hd
    have h2 := of_decide_eq_true hl
    exact ru_no (light_rgd hx hl) (by omega) (by omega) h more
end Go.Proofs.YtmgobaojioaioaaDoor
