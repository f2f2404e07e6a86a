/- Any message has the document's bytes; what is written is read as it was: the walk. -/
import Derived.Test.YtlppgpidakfnlaaXo
import Derived.Test.YtlppgpidakfnlaaXl
import Derived.Test.YtlppgpidakfnlaaCl
namespace Go.Proofs.Ytlppgpidakfnlaa
open Go Go.RowKit Go.Lib
variable {W : World}
def lightB (x : MsgV) : Bool := (x.entries.l.all fun e => decide (e.body.l.length ≤ 600)) && decide (x.entries.l.length ≤ 40 ∧ x.body.l.length ≤ 70000 ∧ x.events.l.length ≤ 300)
theorem light_no {x : MsgV} {j : Nat} (hj : j < x.entries.l.length) (h : ¬ (x.entries.l.getD j default).body.l.length ≤ 600) : lightB x = false := by
  cases hb : lightB x with
  | false => rfl
  | true =>
    unfold lightB at hb
    simp only [Bool.and_eq_true, List.all_eq_true, decide_eq_true_eq] at hb
    exact absurd (hb.1 _ (getD_mem (d := default) hj)) h
theorem light_yes {x : MsgV} (h : ∀ j, j < x.entries.l.length → (x.entries.l.getD j default).body.l.length ≤ 600) : lightB x = decide (x.entries.l.length ≤ 40 ∧ x.body.l.length ≤ 70000 ∧ x.events.l.length ≤ 300) := by
  unfold lightB
  have : (x.entries.l.all fun e => decide (e.body.l.length ≤ 600)) = true := by
    rw [List.all_eq_true]
    intro e he
    obtain ⟨j, hj, rfl⟩ := List.mem_iff_getElem.1 he
    have := h j hj
    rw [List.getD_eq_getElem?_getD, List.getElem?_eq_getElem hj] at this
    exact decide_eq_true this
  rw [this, Bool.true_and]
theorem light_gd {x : MsgV} (hx : x.Ok W) (h : lightB x = true) : x.Gd W := by
  unfold lightB at h
  simp only [Bool.and_eq_true, List.all_eq_true, decide_eq_true_eq] at h
  exact hx.gd h.2.1 h.2.2.1 h.2.2.2 h.1
theorem okst {w : World} {Q : List Asn} {x : MsgV} (h : x.Ok W) (hS : St W w Q) : x.Ok w := ⟨h.kind, h.frm, h.to, h.term, h.index, h.logTerm, h.commit, h.ok, ⟨Rd.st h.entries.rd hS, fun e he => ⟨(h.entries.el e he).index, (h.entries.el e he).term, ⟨Rd.st (h.entries.el e he).body.rd hS, (h.entries.el e he).body.el, (h.entries.el e he).body.le⟩⟩, h.entries.le⟩, ⟨Rd.st h.body.rd hS, h.body.el, h.body.le⟩, h.client, h.req, ⟨Rd.st h.events.rd hS, fun e he => (by have k := h.events.el e he; exact ⟨k.kind, k.account, k.id, k.other, k.side, k.price, k.qty, k.fee, k.fee2, k.code, k.version, k.index⟩), h.events.le⟩⟩
theorem sound_own {x : MsgV} {A : Option Addr} {c : Nat} : soundB (x.own A c) = soundB x := by
  have e : (keepV (fl x.kind) (x.own A c)).vw = (keepV (fl x.kind) x).vw := by
    unfold keepV MsgV.own MsgV.vw
    cases hasF (fl x.kind) 8 <;> rfl
  unfold soundB
  show (decide (fl x.kind ≠ 0) && (nodeB x.frm && (nodeB x.to && (decide ((keepV (fl x.kind) (x.own A c)).vw = x.vw) && fitB x)))) = _
  rw [e]
theorem wb_own {x : MsgV} {A : Option Addr} {c : Nat} : wbE (x.own A c) = wbE x ∧ wbL (x.own A c) = wbL x := by
  unfold wbE wbL
  rw [sound_own]
  exact ⟨rfl, rfl⟩
attribute [local irreducible] blkA rowA rdrA rdsA
set_option maxHeartbeats 1000000 in
set_option maxRecDepth 100000 in
theorem wlight_calls {x : MsgV} (hx : x.Ok W) : Calls Try.prog 57 #[.agg x.cells.toArray] W fun e w' => e = .returned (.bool (lightB x)) ∧ St W w' [] := by
 have hS := St.init W
 have hle := hx.entries.le
 refine calls_of_wpE (args := [_]) Try.func57 rfl rfl rfl ?_
 refine c_seq (c_region ?_)
 refine t_box (v := (.agg _)) rfl rfl hS (fun g1 w hS => ?_)
 replace hS := hS.recast (show _ = bmA g1 114 x from rfl)
 refine t_q (q_assign) ?_
 refine t_nil (c_seq (c_seq (c_region ?_)))
 refine t_q (q_fieldAddr 8 Try.runUnderlying114 rfl Try.sizeOf111 (by decide) rfl rfl) ?_
 refine t_q (q_load1 Try.isAgg111 rfl (hS.cell (by repeat constructor) rfl)) ?_
 refine t_q (q_len_slice Try.runUnderlying111 rfl) ?_
 refine t_q (q_move) ?_
 refine t_nil (c_block ?_)
 refine c_loop [2, 4, 8, 9, 10, 11, 12, 13, 14, 15, 16] (fun k σ w => ∃ j : Nat, σ 8 = .int .i64 (j : Int) ∧ j ≤ x.entries.l.length ∧ x.entries.l.length - j ≤ k ∧ (∀ i, i < j → (x.entries.l.getD i default).body.l.length ≤ 600) ∧ St W w [bmA g1 114 x]) (x.entries.l.length) rfl (⟨0, rfl, by omega, by omega, (fun i h => absurd h (by omega)), hS⟩) ?_
 skip
 rintro k σ w ⟨j, h8, hj, hk, hall, hS⟩
 refine c_know 8 h8 ?_
 clear h8
 refine c_seq (c_region ?_)
 refine t_q (q_lss rfl rfl) ?_
 refine t_nil (c_seq ?_)
 refine c_cond rfl ?_ ?_
 ·
  intro hc2
  have hc2d := of_decide_eq_true hc2
  refine c_skip (c_seq (c_block (c_seq (c_region ?_))))
  first | refine t_index_nat Try.runUnderlying111 Try.sizeOf169 (Rd.st hx.entries.rd hS) rfl rfl (by omega) (fun ad3 hl3 hx3 => ?_) | refine t_index Try.runUnderlying111 Try.sizeOf169 (Rd.st hx.entries.rd hS) rfl rfl (by omega) (fun ad3 hl3 hx3 => ?_)
  refine t_q (q_loadN Try.isAgg169 Try.sizeOf169 rfl hl3 hx3) ?_
  refine t_alloc Try.zeroValue169 rfl hS (fun g4 w hS => ?_)
  refine t_store (v := (.agg _)) Try.sizeOf169 hS (by repeat constructor) rfl rfl rfl rfl rfl rfl (fun w hS => ?_)
  replace hS := hS.recast (show blkA g4 169 _ = blkA g4 169 [.int .u64 (x.entries.l.getD j default).index, .int .u64 (x.entries.l.getD j default).term, .slice (x.entries.l.getD j default).body.A (x.entries.l.getD j default).body.l.length (x.entries.l.getD j default).body.c] from rfl)
  refine t_nil (c_seq (c_region ?_))
  refine t_q (q_fieldAddr 2 Try.runUnderlying169 rfl Try.sizeOf25 (by decide) rfl rfl) ?_
  refine t_q (q_load1 Try.isAgg25 rfl (hS.cell (by repeat constructor) rfl)) ?_
  refine t_q (q_len_slice Try.runUnderlying25 rfl) ?_
  refine t_q (q_gtr rfl rfl) ?_
  refine t_nil ?_
  refine c_cond rfl ?_ ?_
  ·
   intro hc5
   have hc5d := of_decide_eq_true hc5
   have hD : lightB x = false := light_no (j := j) (by omega) (by omega)
   refine c_seq (c_region ?_)
   refine t_q (q_assign) ?_
   refine t_nil (c_ret ?_)
   refine r_one rfl rfl ?_
   rw [hD]
   refine ⟨congrArg (fun b => Ending.returned (.bool b)) ?_, hS.nil⟩
   first
     | rfl
     | (rw [decide_eq_decide]; omega)
     | (symm; exact decide_eq_false (by omega))
  ·
   intro hc5
   have hc5d := of_decide_eq_false hc5
   refine c_skip (c_region ?_)
   refine t_q (q_add_i64 rfl rfl (by omega)) ?_
   refine t_q (q_mv (.int _ _) rfl) ?_
   refine t_nil ?_
   exact ⟨k - 1, by omega, j + 1, rfl, by omega, by omega, (fun i hi => by
     rcases Nat.lt_or_ge i j with h | h
     · exact hall i h
     · obtain rfl : i = j := by omega
       omega), ((hS.pick (A := bmA g1 114 x) (by repeat constructor))).front1⟩
 ·
  intro hc2
  have hc2d := of_decide_eq_false hc2
  obtain rfl : j = x.entries.l.length := by omega
  have hD := light_yes hall
  refine c_exit ?_
  refine ite_t rfl ?_
  refine c_seq (c_region ?_)
  refine t_q (q_fieldAddr 8 Try.runUnderlying114 rfl Try.sizeOf111 (by decide) rfl rfl) ?_
  refine t_q (q_load1 Try.isAgg111 rfl (hS.cell (by repeat constructor) rfl)) ?_
  refine t_q (q_len_slice Try.runUnderlying111 rfl) ?_
  refine t_q (q_leq rfl rfl) ?_
  refine t_q (q_mv (.bool _) rfl) ?_
  refine t_case 21 rfl ?_ ?_
  ·
   intro hg7
   have hg7d := of_decide_eq_true hg7
   refine t_yes rfl rfl hg7 ?_
   refine t_q (q_fieldAddr 9 Try.runUnderlying114 rfl Try.sizeOf25 (by decide) rfl rfl) ?_
   refine t_yes rfl rfl hg7 ?_
   refine t_q (q_load1 Try.isAgg25 rfl (hS.cell (by repeat constructor) rfl)) ?_
   refine t_yes rfl rfl hg7 ?_
   refine t_q (q_len_slice Try.runUnderlying25 rfl) ?_
   refine t_yes rfl rfl hg7 ?_
   refine t_q (q_leq rfl rfl) ?_
   refine t_q (q_pick_t rfl hg7) ?_
   refine t_q (q_mv (.bool _) rfl) ?_
   refine t_case 27 rfl ?_ ?_
   ·
    intro hg9
    have hg9d := of_decide_eq_true hg9
    refine t_yes rfl rfl hg9 ?_
    refine t_q (q_fieldAddr 12 Try.runUnderlying114 rfl Try.sizeOf112 (by decide) rfl rfl) ?_
    refine t_yes rfl rfl hg9 ?_
    refine t_q (q_load1 Try.isAgg112 rfl (hS.cell (by repeat constructor) rfl)) ?_
    refine t_yes rfl rfl hg9 ?_
    refine t_q (q_len_slice Try.runUnderlying112 rfl) ?_
    refine t_yes rfl rfl hg9 ?_
    refine t_q (q_leq rfl rfl) ?_
    refine t_q (q_pick_t rfl hg9) ?_
    refine t_q (q_as (.bool _) rfl) ?_
    refine t_nil (c_ret ?_)
    refine r_one rfl rfl ?_
    rw [hD]
    refine ⟨congrArg (fun b => Ending.returned (.bool b)) ?_, hS.nil⟩
    first
      | rfl
      | (rw [decide_eq_decide]; omega)
      | (symm; exact decide_eq_false (by omega))
   ·
    intro hg9
    have hg9d := of_decide_eq_false hg9
    refine t_no rfl rfl (by rw [hg9]; decide) ?_
    refine t_no rfl rfl (by rw [hg9]; decide) ?_
    refine t_no rfl rfl (by rw [hg9]; decide) ?_
    refine t_no rfl rfl (by rw [hg9]; decide) ?_
    refine t_q (q_pick_f rfl hg9) ?_
    refine t_q (q_as (.bool _) rfl) ?_
    refine t_nil (c_ret ?_)
    refine r_one rfl rfl ?_
    rw [hD]
    refine ⟨congrArg (fun b => Ending.returned (.bool b)) ?_, hS.nil⟩
    first
      | rfl
      | (rw [decide_eq_decide]; omega)
      | (symm; exact decide_eq_false (by omega))
  ·
   intro hg7
   have hg7d := of_decide_eq_false hg7
   refine t_no rfl rfl (by rw [hg7]; decide) ?_
   refine t_no rfl rfl (by rw [hg7]; decide) ?_
   refine t_no rfl rfl (by rw [hg7]; decide) ?_
   refine t_no rfl rfl (by rw [hg7]; decide) ?_
   refine t_q (q_pick_f rfl hg7) ?_
   refine t_q (q_mv (.bool _) rfl) ?_
   refine t_no rfl rfl (by decide) ?_
   refine t_no rfl rfl (by decide) ?_
   refine t_no rfl rfl (by decide) ?_
   refine t_no rfl rfl (by decide) ?_
   refine t_q (q_pick_f rfl rfl) ?_
   refine t_q (q_as (.bool _) rfl) ?_
   refine t_nil (c_ret ?_)
   refine r_one rfl rfl ?_
   rw [hD]
   refine ⟨congrArg (fun b => Ending.returned (.bool b)) ?_, hS.nil⟩
   first
     | rfl
     | (rw [decide_eq_decide]; omega)
     | (symm; exact decide_eq_false (by omega))
set_option maxHeartbeats 4000000 in
set_option maxRecDepth 100000 in
theorem WireWrites_calls {x : MsgV} (hx : x.Ok W) : Calls Try.prog 16 #[.agg x.cells.toArray] W fun e w' => e = .returned (.bool true) ∧ St W w' [] := by
 have hS := St.init W
 refine calls_of_wpE (args := [_]) Try.func16 rfl rfl rfl ?_
 refine c_seq (c_region ?_)
 refine t_box (v := (.agg _)) rfl rfl hS (fun g1 w hS => ?_)
 replace hS := hS.recast (show _ = bmA g1 114 x from rfl)
 refine t_q (q_assign) ?_
 refine t_nil (c_seq (c_seq (c_region ?_)))
 refine t_q (q_cast (v' := .agg x.cells.toArray) (q_load_blk Try.isAgg114 Try.sizeOf114 rfl (hS.blk (by repeat constructor)) rfl) (by rfl)) ?_
 refine t_call Try.call57 (wlight_calls (x := x) (show x.Ok w from okst hx hS)) rfl ?_
 rintro e w ⟨rfl, hT⟩
 refine ⟨_, rfl, ?_⟩
 replace hS := hS.after hT
 refine t_q (q_not rfl) ?_
 refine t_nil ?_
 refine c_cond rfl ?_ ?_
 ·
  intro hc2
  refine c_seq (c_region ?_)
  refine t_call Try.call58 (wlives_calls) rfl ?_
  rintro e w ⟨rfl, hT⟩
  refine ⟨_, rfl, ?_⟩
  replace hS := hS.after hT
  refine t_q (q_as (.bool _) rfl) ?_
  refine t_nil (c_ret ?_)
  refine r_one rfl rfl ?_
  exact ⟨rfl, hS.nil⟩
 ·
  intro hc2
  have hgx : x.Gd W := light_gd hx (bnf (by assumption))
  refine c_skip (c_seq (c_region ?_))
  refine t_q (q_cast (v' := .agg x.cells.toArray) (q_load_blk Try.isAgg114 Try.sizeOf114 rfl (hS.blk (by repeat constructor)) rfl) (by rfl)) ?_
  refine t_call Try.call64 (wbytes_calls (x := x) (hgx.st hS)) rfl ?_
  rintro e w ⟨A15, m15, c15, rfl, hm15, hT⟩
  refine ⟨_, rfl, ?_⟩
  have hS : St W w (_ :: _) := hS.lift hT
  subst hm15
  refine t_q (q_mv (.tuple _) rfl) ?_
  refine t_q (q_extract rfl rfl) ?_
  refine t_q (q_extract rfl rfl) ?_
  refine t_q (q_as (.slice _ _ _) rfl) ?_
  refine t_q (q_as (.int _ _) rfl) ?_
  refine t_nil (c_seq (c_region ?_))
  refine t_q (q_cast (v' := .agg x.cells.toArray) (q_load_blk Try.isAgg114 Try.sizeOf114 rfl (hS.blk (by repeat constructor)) rfl) (by rfl)) ?_
  refine t_call Try.call61 (wplain_calls (x := x) (hgx.st hS)) rfl ?_
  rintro e w ⟨A20, c20, rfl, hT⟩
  refine ⟨_, rfl, ?_⟩
  have hS : St W w (_ :: _) := hS.lift hT
  refine t_call Try.call65 (qwbytes_calls (x := x.own A20 c20) ((hgx.st hS).own (rowRdN hS (A := A20) (c := c20) (l := x.entries.l) (by repeat constructor) rfl))) rfl ?_
  rintro e w ⟨A21, m21, c21, rfl, hm21, hT⟩
  refine ⟨_, rfl, ?_⟩
  have hS : St W w (_ :: _) := hS.lift hT
  rw [wb_own.1]
  rw [wb_own.2] at hm21 hS
  subst hm21
  refine t_q (q_mv (.tuple _) rfl) ?_
  refine t_q (q_extract rfl rfl) ?_
  refine t_q (q_extract rfl rfl) ?_
  refine t_q (q_as (.slice _ _ _) rfl) ?_
  refine t_q (q_as (.int _ _) rfl) ?_
  refine t_nil (c_seq (c_seq (c_region ?_)))
  refine t_q (q_mv (.slice _ _ _) rfl) ?_
  refine t_q (q_string Try.runUnderlying25 Try.runUnderlying5 Try.runUnderlying9 rfl rfl (hS.rowRd (A := A15) (c := c15) (bs := wbL x) (by repeat constructor) rfl)) ?_
  refine t_q (q_mv (.slice _ _ _) rfl) ?_
  refine t_q (q_string Try.runUnderlying25 Try.runUnderlying5 Try.runUnderlying9 rfl rfl (hS.rowRd (A := A21) (c := c21) (bs := wbL x) (by repeat constructor) rfl)) ?_
  refine t_q (q_cast (v' := .bool false) (q_neq_string rfl rfl) (by simp)) ?_
  refine t_q (q_mv (.bool _) rfl) ?_
  refine t_yes rfl rfl rfl ?_
  refine t_q (q_mv (.int _ _) rfl) ?_
  refine t_yes rfl rfl rfl ?_
  refine t_q (q_mv (.int _ _) rfl) ?_
  refine t_yes rfl rfl rfl ?_
  refine t_q (q_cast (v' := .bool false) (q_neq rfl rfl) (by simp)) ?_
  refine t_q (q_pick_f rfl rfl) ?_
  refine t_nil ?_
  refine c_cond_f rfl rfl ?_
  refine c_skip (c_seq (c_seq (c_region ?_)))
  refine t_q (q_mv (.int _ _) rfl) ?_
  refine t_q (q_neq rfl rfl) ?_
  refine t_nil ?_
  refine c_cond rfl ?_ ?_
  ·
   intro hc14
   have hc14d := of_decide_eq_true hc14
   refine c_seq (c_region ?_)
   refine t_call Try.call58 (wlives_calls) rfl ?_
   rintro e w ⟨rfl, hT⟩
   refine ⟨_, rfl, ?_⟩
   replace hS := hS.after hT
   refine t_q (q_as (.bool _) rfl) ?_
   refine t_nil (c_ret ?_)
   refine r_one rfl rfl ?_
   exact ⟨rfl, hS.nil⟩
  ·
   intro hc14
   have hc14d := of_decide_eq_false hc14
   have hsy : soundB x = true := by
     cases hb : soundB x with
     | true => rfl
     | false =>
       exfalso
       have h2 : wbE x = 2 := by unfold wbE; rw [hb]; rfl
       omega
   have hwl : (wbL x).length ≤ 100000000 := by
     have h8 := wb8_len hgx (snd_of hsy) (fl x.kind)
     have h := wm_len _ (wb8 (fl x.kind) x) (Nat.le_refl _)
     unfold wbL
     rw [hsy]
     show (wm _).length ≤ _
     omega
   refine c_skip (c_seq (c_region ?_))
   refine t_q (q_mv (.slice _ _ _) rfl) ?_
   refine t_call Try.call66 (read_calls (hS.rowRd (A := A15) (c := c15) (bs := wbL x) (by repeat constructor) rfl) ⟨hS.row_le (t := 5) (size := 1) (A := A15) (c := c15) (by repeat constructor), hwl⟩) rfl ?_
   rintro e w ⟨y, er, rfl, hby, hout, hT⟩
   refine ⟨_, rfl, ?_⟩
   have hS : St W w (_ :: _) := hS.lift hT
   obtain ⟨he, hv⟩ := out_back (x := x) hgx hsy (by unfold wbL at hout; rw [hsy] at hout; exact hout)
   subst he
   refine t_q (q_mv (.tuple _) rfl) ?_
   refine t_q (q_extract rfl rfl) ?_
   refine t_q (q_extract rfl rfl) ?_
   refine t_alloc Try.zeroValue114 rfl hS (fun g7 w hS => ?_)
   refine t_store (v := (.agg _)) Try.sizeOf114 hS (by repeat constructor) rfl rfl rfl rfl rfl rfl (fun w hS => ?_)
   replace hS := hS.recast (show blkA g7 114 _ = bmA g7 114 y from rfl)
   refine t_q (q_as (.int _ _) rfl) ?_
   refine t_nil (c_seq (c_draw ?_))
   refine d_keep2 (bmA g1 114 x) (bmA g7 114 y) 13 [0, 1, 2, 3, 4, 5, 6, 7, 8, 9, 10, 11, 12] [0, 1, 2, 3, 4, 5, 6, 7, 8, 9, 10, 11, 12] hS rfl (by kernel_rfl) (by kernel_rfl) (by kernel_rfl) (by kernel_rfl) (fun hap hsel w hS => ?_)
   refine p_q hap hsel 0 rfl rfl ⟨_, ((hS.pick (A := bmA g7 114 y) (by repeat constructor)).pick (A := bmA g1 114 x) (by repeat constructor))⟩ (fun w hI => q_mv (.int _ _) rfl) ?_
   refine p_q hap hsel 1 rfl rfl ⟨_, ((hS.pick (A := bmA g7 114 y) (by repeat constructor)).pick (A := bmA g1 114 x) (by repeat constructor))⟩ (fun w hI => (q_cast (v' := .bool true) (q_eql rfl rfl) (by rfl))) ?_
   refine p_q hap hsel 2 rfl rfl ⟨_, ((hS.pick (A := bmA g7 114 y) (by repeat constructor)).pick (A := bmA g1 114 x) (by repeat constructor))⟩ (fun w hI => q_mv (.bool _) rfl) ?_
   refine p_yes hap hsel 3 rfl rfl ⟨_, ((hS.pick (A := bmA g7 114 y) (by repeat constructor)).pick (A := bmA g1 114 x) (by repeat constructor))⟩ rfl rfl rfl (fun w hI => (q_cast (v' := .agg y.cells.toArray) (q_load_blk Try.isAgg114 Try.sizeOf114 rfl (hI.choose_spec.blk (by repeat constructor)) rfl) (by rfl))) ?_
   refine p_yes hap hsel 5 rfl rfl ⟨_, ((hS.pick (A := bmA g7 114 y) (by repeat constructor)).pick (A := bmA g1 114 x) (by repeat constructor))⟩ rfl rfl rfl (fun w hI => (q_cast (v' := .agg x.cells.toArray) (q_load_blk Try.isAgg114 Try.sizeOf114 rfl (hI.choose_spec.blk (by repeat constructor)) rfl) (by rfl))) ?_
   refine p_one 4 rfl (by kernel_rfl) ?_
   refine t_yes rfl rfl rfl ?_
   refine t_call Try.call61 (wplain_calls (x := y) (hby hS (by repeat constructor))) rfl ?_
   rintro e w ⟨A46, c46, rfl, hT⟩
   refine ⟨_, rfl, ?_⟩
   have hS : St W w (_ :: _) := hS.lift hT
   refine t_nil ?_
   refine ⟨.inr ⟨_, ((hS.pick (A := bmA g7 114 y) (by repeat constructor)).pick (A := bmA g1 114 x) (by repeat constructor))⟩, ?_⟩
   refine p_one 6 rfl (by kernel_rfl) ?_
   refine t_yes rfl rfl rfl ?_
   refine t_call Try.call61 (wplain_calls (x := x) (hgx.st hS)) rfl ?_
   rintro e w ⟨A48, c48, rfl, hT⟩
   refine ⟨_, rfl, ?_⟩
   have hS : St W w (_ :: _) := hS.lift hT
   refine t_nil ?_
   refine ⟨.inr ⟨_, ((hS.pick (A := bmA g7 114 y) (by repeat constructor)).pick (A := bmA g1 114 x) (by repeat constructor))⟩, ?_⟩
   refine p_one 7 rfl (by kernel_rfl) ?_
   refine t_yes rfl rfl rfl ?_
   refine t_call Try.call63 (qwsame_calls (x := y.own A46 c46) (y := x.own A48 c48) ((hby hS (by repeat constructor)).own (rowRdN hS (A := A46) (c := c46) (l := y.entries.l) (by repeat constructor) rfl)) ((hgx.st hS).own (rowRdN hS (A := A48) (c := c48) (l := x.entries.l) (by repeat constructor) rfl))) rfl ?_
   rintro e w ⟨rfl, hT⟩
   refine ⟨_, rfl, ?_⟩
   replace hS := hS.after hT
   rw [show decide ((y.own A46 c46).vw = (x.own A48 c48).vw) = true from decide_eq_true hv]
   refine t_nil ?_
   refine ⟨.inr ⟨_, ((hS.pick (A := bmA g7 114 y) (by repeat constructor)).pick (A := bmA g1 114 x) (by repeat constructor))⟩, ?_⟩
   refine p_q hap hsel 8 rfl rfl ⟨_, ((hS.pick (A := bmA g7 114 y) (by repeat constructor)).pick (A := bmA g1 114 x) (by repeat constructor))⟩ (fun w hI => q_pick_t rfl rfl) ?_
   refine p_q hap hsel 9 rfl rfl ⟨_, ((hS.pick (A := bmA g7 114 y) (by repeat constructor)).pick (A := bmA g1 114 x) (by repeat constructor))⟩ (fun w hI => q_mv (.bool _) rfl) ?_
   refine p_one 10 rfl (by kernel_rfl) ?_
   refine t_yes rfl rfl rfl ?_
   refine t_call Try.call58 (wlives_calls) rfl ?_
   rintro e w ⟨rfl, hT⟩
   refine ⟨_, rfl, ?_⟩
   replace hS := hS.after hT
   refine t_nil ?_
   refine ⟨.inr ⟨_, ((hS.pick (A := bmA g7 114 y) (by repeat constructor)).pick (A := bmA g1 114 x) (by repeat constructor))⟩, ?_⟩
   refine p_q hap hsel 11 rfl rfl ⟨_, ((hS.pick (A := bmA g7 114 y) (by repeat constructor)).pick (A := bmA g1 114 x) (by repeat constructor))⟩ (fun w hI => q_pick_t rfl rfl) ?_
   refine p_q hap hsel 12 rfl rfl ⟨_, ((hS.pick (A := bmA g7 114 y) (by repeat constructor)).pick (A := bmA g1 114 x) (by repeat constructor))⟩ (fun w hI => q_as (.bool _) rfl) ?_
   refine p_end (by kernel_rfl) ?_
   refine c_ret ?_
   refine r_one rfl rfl ?_
   exact ⟨rfl, hS.nil⟩
end Go.Proofs.Ytlppgpidakfnlaa
