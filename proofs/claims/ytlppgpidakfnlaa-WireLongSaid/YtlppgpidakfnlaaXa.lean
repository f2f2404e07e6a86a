/- Messages: plain, and what they tell. -/
import Derived.Test.YtlppgpidakfnlaaEy
import Derived.Test.YtlppgpidakfnlaaCl
import Derived.Test.YtlppgpidakfnlaaPd
namespace Go.Proofs.Ytlppgpidakfnlaa
open Go Go.RowKit Go.Lib
variable {W : World}
structure EntV where
  index : Int
  term : Int
  body : Sl UInt8
instance : Inhabited EntV := ⟨⟨0, 0, default⟩⟩
def EntV.cells (x : EntV) : List Value := [.int .u64 x.index, .int .u64 x.term, .slice x.body.A x.body.l.length x.body.c]
structure EntV.Ok (w : World) (x : EntV) : Prop where
  index : 0 ≤ x.index ∧ x.index < 18446744073709551616
  term : 0 ≤ x.term ∧ x.term < 18446744073709551616
  body : (Sl.Ok 1 (fun b : UInt8 => [bv b]) (fun _ => True) w) x.body
structure MsgV where
  kind : Int
  frm : Int
  to : Int
  term : Int
  index : Int
  logTerm : Int
  commit : Int
  ok : Bool
  entries : Sl EntV
  body : Sl UInt8
  client : Int
  req : Int
  events : Sl Ev
instance : Inhabited MsgV := ⟨⟨0, 0, 0, 0, 0, 0, 0, false, default, default, 0, 0, default⟩⟩
def MsgV.cells (x : MsgV) : List Value := [.int .i64 x.kind, .int .i64 x.frm, .int .i64 x.to, .int .u64 x.term, .int .u64 x.index, .int .u64 x.logTerm, .int .u64 x.commit, .bool x.ok, .slice x.entries.A x.entries.l.length x.entries.c, .slice x.body.A x.body.l.length x.body.c, .int .u64 x.client, .int .u64 x.req, .slice x.events.A x.events.l.length x.events.c]
structure MsgV.Ok (w : World) (x : MsgV) : Prop where
  kind : -9223372036854775808 ≤ x.kind ∧ x.kind ≤ 9223372036854775807
  frm : -9223372036854775808 ≤ x.frm ∧ x.frm ≤ 9223372036854775807
  to : -9223372036854775808 ≤ x.to ∧ x.to ≤ 9223372036854775807
  term : 0 ≤ x.term ∧ x.term < 18446744073709551616
  index : 0 ≤ x.index ∧ x.index < 18446744073709551616
  logTerm : 0 ≤ x.logTerm ∧ x.logTerm < 18446744073709551616
  commit : 0 ≤ x.commit ∧ x.commit < 18446744073709551616
  ok : True
  entries : (Sl.Ok 3 EntV.cells (EntV.Ok w) w) x.entries
  body : (Sl.Ok 1 (fun b : UInt8 => [bv b]) (fun _ => True) w) x.body
  client : 0 ≤ x.client ∧ x.client < 18446744073709551616
  req : 0 ≤ x.req ∧ x.req < 18446744073709551616
  events : (Sl.Ok 12 Ev.cells (Ev.Ok w) w) x.events
/-- what a message tells -/
structure Mg where
  kind : Int
  frm : Int
  to : Int
  term : Int
  index : Int
  lt : Int
  cm : Int
  ok : Bool
  ents : List (Int × Int × List UInt8)
  body : List UInt8
  cl : Int
  rq : Int
  evs : List (List Int)
deriving DecidableEq
def EntV.vw (e : EntV) : Int × Int × List UInt8 := (e.index, e.term, e.body.l)
def MsgV.vw (x : MsgV) : Mg := ⟨x.kind, x.frm, x.to, x.term, x.index, x.logTerm, x.commit, x.ok, x.entries.l.map EntV.vw, x.body.l, x.client, x.req, x.events.l.map Ev.ints⟩
theorem vw_iff {x y : MsgV} : x.vw = y.vw ↔ (x.kind = y.kind ∧ x.frm = y.frm ∧ x.to = y.to ∧ x.term = y.term ∧ x.index = y.index ∧ x.logTerm = y.logTerm ∧ x.commit = y.commit ∧ x.ok = y.ok ∧ x.entries.l.map EntV.vw = y.entries.l.map EntV.vw ∧ x.body.l = y.body.l ∧ x.client = y.client ∧ x.req = y.req ∧ x.events.l.map Ev.ints = y.events.l.map Ev.ints) := by
  unfold MsgV.vw
  rw [Mg.mk.injEq]
/-- lists that agree up to j -/
def agree (a b : List EntV) (j : Nat) : Prop := ∀ i, i < j → (a.getD i default).vw = (b.getD i default).vw
theorem agree_all {a b : List EntV} (hl : a.length = b.length) (h : agree a b a.length) : a.map EntV.vw = b.map EntV.vw := by
  apply List.ext_getElem (by rw [List.length_map, List.length_map, hl])
  intro i h1 h2
  rw [List.getElem_map, List.getElem_map]
  rw [List.length_map] at h1 h2
  have := h i h1
  rw [List.getD_eq_getElem?_getD, List.getD_eq_getElem?_getD, List.getElem?_eq_getElem h1, List.getElem?_eq_getElem h2] at this
  exact this
theorem agree_not {a b : List EntV} {j : Nat} (hl : a.length = b.length) (hj : j < a.length) (h : (a.getD j default).vw ≠ (b.getD j default).vw) : a.map EntV.vw ≠ b.map EntV.vw := by
  intro e
  apply h
  have e1 := congrArg (fun l => l[j]?) e
  simp only [List.getElem?_map] at e1
  rw [List.getD_eq_getElem?_getD, List.getD_eq_getElem?_getD]
  rw [List.getElem?_eq_getElem hj, List.getElem?_eq_getElem (by omega)] at e1 ⊢
  simpa using e1
theorem agree_succ {a b : List EntV} {j : Nat} (h : agree a b j) (h2 : (a.getD j default).vw = (b.getD j default).vw) : agree a b (j + 1) := by
  intro i hi
  rcases Nat.lt_or_ge i j with h3 | h3
  · exact h i h3
  · obtain rfl : i = j := by omega
    exact h2
theorem agree_len {a b : List EntV} (h : a.length ≠ b.length) : a.map EntV.vw ≠ b.map EntV.vw := fun e => h (by have := congrArg List.length e; simpa using this)
def bmA (g t : Nat) (x : MsgV) : Asn := blkA g t (x.cells)
def RdEn (w : World) (A : Option Addr) (l : List EntV) : Prop := Rd w 3 A l.length (fun i => (l.getD i default).cells)
theorem RdEn.st {w : World} {Q : List Asn} {A : Option Addr} {l : List EntV} (h : RdEn W A l) (hS : St W w Q) : RdEn w A l := Rd.st h hS
theorem rowRdN {w : World} {Q R : List Asn} {t : Nat} {A : Option Addr} {m c : Nat} {l : List EntV} (hS : St W w Q) (pk : Pick Q (rowA t 3 A m c (l.flatMap EntV.cells)) R) (hm : m = l.length) : RdEn w A l := hS.rowRdL pk hm (fun _ => rfl)
structure EntV.Gd (w : World) (e : EntV) : Prop where
  index : 0 ≤ e.index ∧ e.index < 18446744073709551616
  term : 0 ≤ e.term ∧ e.term < 18446744073709551616
  rd : RdB w e.body.A e.body.l
  le : e.body.l.length ≤ e.body.c ∧ e.body.l.length ≤ 1000000000
structure MsgV.Gd (w : World) (x : MsgV) : Prop where
  kind : -9223372036854775808 ≤ x.kind ∧ x.kind ≤ 9223372036854775807
  frm : -9223372036854775808 ≤ x.frm ∧ x.frm ≤ 9223372036854775807
  to : -9223372036854775808 ≤ x.to ∧ x.to ≤ 9223372036854775807
  term : 0 ≤ x.term ∧ x.term < 18446744073709551616
  index : 0 ≤ x.index ∧ x.index < 18446744073709551616
  logTerm : 0 ≤ x.logTerm ∧ x.logTerm < 18446744073709551616
  commit : 0 ≤ x.commit ∧ x.commit < 18446744073709551616
  client : 0 ≤ x.client ∧ x.client < 18446744073709551616
  req : 0 ≤ x.req ∧ x.req < 18446744073709551616
  erd : RdEn w x.entries.A x.entries.l
  eok : ∀ e ∈ x.entries.l, e.Gd w
  ele : x.entries.l.length ≤ 1000
  brd : RdB w x.body.A x.body.l
  ble : x.body.l.length ≤ x.body.c ∧ x.body.l.length ≤ 1000000000
  vrd : RdEv w x.events.A x.events.l
  vin : ∀ e ∈ x.events.l, e.In
  vle : x.events.l.length ≤ 1000000
theorem EntV.Gd.st {w : World} {Q : List Asn} {e : EntV} (h : e.Gd W) (hS : St W w Q) : e.Gd w := { h with rd := Rd.st h.rd hS }
theorem MsgV.Gd.st {w : World} {Q : List Asn} {x : MsgV} (h : x.Gd W) (hS : St W w Q) : x.Gd w := { h with erd := Rd.st h.erd hS, eok := fun e he => (h.eok e he).st hS, brd := Rd.st h.brd hS, vrd := Rd.st h.vrd hS }
theorem MsgV.Ok.gd {x : MsgV} (h : x.Ok W) (h1 : x.entries.l.length ≤ 40) (h2 : x.body.l.length ≤ 70000) (h3 : x.events.l.length ≤ 300) (h4 : ∀ e ∈ x.entries.l, e.body.l.length ≤ 600) : x.Gd W where
  kind := h.kind
  frm := h.frm
  to := h.to
  term := h.term
  index := h.index
  logTerm := h.logTerm
  commit := h.commit
  client := h.client
  req := h.req
  erd := h.entries.rd
  eok := fun e he => ⟨(h.entries.el e he).index, (h.entries.el e he).term, (h.entries.el e he).body.rd, (h.entries.el e he).body.le.1, by have := h4 e he; omega⟩
  ele := by omega
  brd := h.body.rd
  ble := ⟨h.body.le.1, by omega⟩
  vrd := h.events.rd
  vin := fun e he => (h.events.el e he).in
  vle := by omega
attribute [local irreducible] blkA rowA
set_option maxRecDepth 100000 in
theorem wsm_calls {a b : EntV} (ha : a.Gd W) (hb : b.Gd W) : Calls Try.prog 111 #[.agg a.cells.toArray, .agg b.cells.toArray] W fun e w' => e = .returned (.bool (decide (a.vw = b.vw))) ∧ St W w' [] := by
 have hS := St.init W
 refine calls_of_wpE (args := [_, _]) Try.func111 rfl rfl rfl ?_
 refine c_seq (c_region ?_)
 refine t_box (v := (.agg _)) rfl rfl hS (fun g2 w hS => ?_)
 replace hS := hS.recast (show _ = blkA g2 169 [.int .u64 a.index, .int .u64 a.term, .slice a.body.A a.body.l.length a.body.c] from rfl)
 refine t_box (v := (.agg _)) rfl rfl hS (fun g3 w hS => ?_)
 replace hS := hS.recast (show _ = blkA g3 169 [.int .u64 b.index, .int .u64 b.term, .slice b.body.A b.body.l.length b.body.c] from rfl)
 refine t_q (q_assign) ?_
 refine t_nil (c_seq (c_region ?_))
 refine t_q (q_fieldAddr 0 Try.runUnderlying169 rfl Try.sizeOf43 (by decide) rfl rfl) ?_
 refine t_q (q_load1 Try.isAgg43 rfl (hS.cell (by repeat constructor) rfl)) ?_
 refine t_q (q_fieldAddr 0 Try.runUnderlying169 rfl Try.sizeOf43 (by decide) rfl rfl) ?_
 refine t_q (q_load1 Try.isAgg43 rfl (hS.cell (by repeat constructor) rfl)) ?_
 refine t_q (q_eql rfl rfl) ?_
 refine t_q (q_mv (.bool _) rfl) ?_
 refine t_case 10 rfl ?_ ?_
 ·
  intro hg2
  have hg2d := of_decide_eq_true hg2
  refine t_yes rfl rfl hg2 ?_
  refine t_q (q_fieldAddr 1 Try.runUnderlying169 rfl Try.sizeOf43 (by decide) rfl rfl) ?_
  refine t_yes rfl rfl hg2 ?_
  refine t_q (q_load1 Try.isAgg43 rfl (hS.cell (by repeat constructor) rfl)) ?_
  refine t_yes rfl rfl hg2 ?_
  refine t_q (q_fieldAddr 1 Try.runUnderlying169 rfl Try.sizeOf43 (by decide) rfl rfl) ?_
  refine t_yes rfl rfl hg2 ?_
  refine t_q (q_load1 Try.isAgg43 rfl (hS.cell (by repeat constructor) rfl)) ?_
  refine t_yes rfl rfl hg2 ?_
  refine t_q (q_eql rfl rfl) ?_
  refine t_q (q_pick_t rfl hg2) ?_
  refine t_q (q_mv (.bool _) rfl) ?_
  refine t_case 17 rfl ?_ ?_
  ·
   intro hg4
   have hg4d := of_decide_eq_true hg4
   refine t_yes rfl rfl hg4 ?_
   refine t_q (q_fieldAddr 2 Try.runUnderlying169 rfl Try.sizeOf25 (by decide) rfl rfl) ?_
   refine t_yes rfl rfl hg4 ?_
   refine t_q (q_load1 Try.isAgg25 rfl (hS.cell (by repeat constructor) rfl)) ?_
   refine t_yes rfl rfl hg4 ?_
   refine t_q (q_fieldAddr 2 Try.runUnderlying169 rfl Try.sizeOf25 (by decide) rfl rfl) ?_
   refine t_yes rfl rfl hg4 ?_
   refine t_q (q_load1 Try.isAgg25 rfl (hS.cell (by repeat constructor) rfl)) ?_
   refine t_yes rfl rfl hg4 ?_
   refine t_call Try.call109 (equal_calls (Rd.st ha.rd hS) (Rd.st hb.rd hS)) rfl ?_
   rintro e w ⟨rfl, hT⟩
   refine ⟨_, rfl, ?_⟩
   replace hS := hS.after hT
   refine t_q (q_pick_t rfl hg4) ?_
   refine t_q (q_as (.bool _) rfl) ?_
   refine t_nil (c_ret ?_)
   refine r_one rfl rfl ?_
   have hN := hS.nil
   clear hS
   refine ⟨congrArg (fun b => Ending.returned (.bool b)) ?_, hN⟩
   rw [Bool.eq_iff_iff, decide_eq_true_iff (p := a.vw = b.vw)]
   unfold EntV.vw
   rw [Prod.mk.injEq, Prod.mk.injEq]
   simp_all
  ·
   intro hg4
   have hg4d := of_decide_eq_false hg4
   refine t_no rfl rfl (by rw [hg4]; decide) ?_
   refine t_no rfl rfl (by rw [hg4]; decide) ?_
   refine t_no rfl rfl (by rw [hg4]; decide) ?_
   refine t_no rfl rfl (by rw [hg4]; decide) ?_
   refine t_no rfl rfl (by rw [hg4]; decide) ?_
   refine t_q (q_pick_f rfl hg4) ?_
   refine t_q (q_as (.bool _) rfl) ?_
   refine t_nil (c_ret ?_)
   refine r_one rfl rfl ?_
   have hN := hS.nil
   clear hS
   refine ⟨congrArg (fun b => Ending.returned (.bool b)) ?_, hN⟩
   rw [Bool.eq_iff_iff, decide_eq_true_iff (p := a.vw = b.vw)]
   unfold EntV.vw
   rw [Prod.mk.injEq, Prod.mk.injEq]
   simp_all
 ·
  intro hg2
  have hg2d := of_decide_eq_false hg2
  refine t_no rfl rfl (by rw [hg2]; decide) ?_
  refine t_no rfl rfl (by rw [hg2]; decide) ?_
  refine t_no rfl rfl (by rw [hg2]; decide) ?_
  refine t_no rfl rfl (by rw [hg2]; decide) ?_
  refine t_no rfl rfl (by rw [hg2]; decide) ?_
  refine t_q (q_pick_f rfl hg2) ?_
  refine t_q (q_mv (.bool _) rfl) ?_
  refine t_no rfl rfl (by decide) ?_
  refine t_no rfl rfl (by decide) ?_
  refine t_no rfl rfl (by decide) ?_
  refine t_no rfl rfl (by decide) ?_
  refine t_no rfl rfl (by decide) ?_
  refine t_q (q_pick_f rfl rfl) ?_
  refine t_q (q_as (.bool _) rfl) ?_
  refine t_nil (c_ret ?_)
  refine r_one rfl rfl ?_
  have hN := hS.nil
  clear hS
  refine ⟨congrArg (fun b => Ending.returned (.bool b)) ?_, hN⟩
  rw [Bool.eq_iff_iff, decide_eq_true_iff (p := a.vw = b.vw)]
  unfold EntV.vw
  rw [Prod.mk.injEq, Prod.mk.injEq]
  simp_all
set_option maxRecDepth 100000 in
theorem eqf_calls {A B : Option Addr} {c d : Nat} {x y : List EntV} (hx : RdEn W A x) (hy : RdEn W B y) (hxo : ∀ e ∈ x, e.Gd W) (hyo : ∀ e ∈ y, e.Gd W) (hm : x.length ≤ 1000000) : Calls Try.prog 110 #[.slice A x.length c, .slice B y.length d, .func (.func 111) #[] #[]] W fun e w' => e = .returned (.bool (decide (x.map EntV.vw = y.map EntV.vw))) ∧ St W w' [] := by
 have hS := St.init W
 refine calls_of_wpE (args := [_, _, _]) Try.func110 rfl rfl rfl ?_
 refine c_seq (c_region ?_)
 refine t_q (q_assign) ?_
 refine t_nil (c_seq (c_seq (c_region ?_)))
 refine t_q (q_mv (.slice _ _ _) rfl) ?_
 refine t_q (q_len_slice Try.runUnderlying111 rfl) ?_
 refine t_q (q_mv (.slice _ _ _) rfl) ?_
 refine t_q (q_len_slice Try.runUnderlying111 rfl) ?_
 refine t_q (q_neq rfl rfl) ?_
 refine t_nil ?_
 refine c_cond rfl ?_ ?_
 ·
  intro hc2
  have hc2d := of_decide_eq_true hc2
  have hD : decide (x.map EntV.vw = y.map EntV.vw) = false := decide_eq_false (agree_len (by omega))
  refine c_seq (c_region ?_)
  refine t_q (q_assign) ?_
  refine t_nil (c_ret ?_)
  refine r_one rfl rfl ?_
  rw [hD]
  exact ⟨rfl, hS.nil⟩
 ·
  intro hc2
  have hc2d := of_decide_eq_false hc2
  refine c_skip (c_seq (c_seq (c_region ?_)))
  refine t_q (q_mv (.slice _ _ _) rfl) ?_
  refine t_q (q_len_slice Try.runUnderlying111 rfl) ?_
  refine t_q (q_move) ?_
  refine t_nil (c_block ?_)
  refine c_loop [6, 7, 8, 9, 17, 18, 19, 20, 21, 22, 23, 24, 25, 26, 27, 28, 29, 30, 31] (fun k σ w => ∃ j : Nat, σ 17 = .int .i64 (j : Int) ∧ j ≤ x.length ∧ x.length - j ≤ k ∧ agree x y j ∧ St W w []) (x.length) rfl (⟨0, rfl, by omega, by omega, (fun i h => absurd h (by omega)), hS⟩) ?_
  skip
  rintro k σ w ⟨j, h17, hj, hk, hag, hS⟩
  refine c_know 17 h17 ?_
  clear h17
  refine c_seq (c_region ?_)
  refine t_q (q_lss rfl rfl) ?_
  refine t_nil (c_seq ?_)
  refine c_cond rfl ?_ ?_
  ·
   intro hc4
   have hc4d := of_decide_eq_true hc4
   refine c_skip (c_seq (c_block (c_seq (c_region ?_))))
   refine t_q (q_mv (.int _ _) rfl) ?_
   first | refine t_index_nat Try.runUnderlying111 Try.sizeOf169 (hx.st hS) rfl rfl (by omega) (fun ad5 hl5 hx5 => ?_) | refine t_index Try.runUnderlying111 Try.sizeOf169 (hx.st hS) rfl rfl (by omega) (fun ad5 hl5 hx5 => ?_)
   refine t_q (q_loadN Try.isAgg169 Try.sizeOf169 rfl hl5 hx5) ?_
   refine t_alloc Try.zeroValue169 rfl hS (fun g8 w hS => ?_)
   refine t_q (q_as (.int _ _) rfl) ?_
   refine t_store (v := (.agg _)) Try.sizeOf169 hS (by repeat constructor) rfl rfl rfl rfl rfl rfl (fun w hS => ?_)
   refine t_nil (c_seq (c_region ?_))
   refine t_q (q_mv (.slice _ _ _) rfl) ?_
   refine t_q (q_mv (.int _ _) rfl) ?_
   first | refine t_index_nat Try.runUnderlying111 Try.sizeOf169 (hy.st hS) rfl rfl (by omega) (fun ad6 hl6 hx6 => ?_) | refine t_index Try.runUnderlying111 Try.sizeOf169 (hy.st hS) rfl rfl (by omega) (fun ad6 hl6 hx6 => ?_)
   refine t_q (q_loadN Try.isAgg169 Try.sizeOf169 rfl hl6 hx6) ?_
   refine t_alloc Try.zeroValue169 rfl hS (fun g9 w hS => ?_)
   refine t_store (v := (.agg _)) Try.sizeOf169 hS (by repeat constructor) rfl rfl rfl rfl rfl rfl (fun w hS => ?_)
   refine t_nil (c_seq (c_region ?_))
   refine t_q (q_mv (.func _ _ _) rfl) ?_
   refine t_q (q_load_blk Try.isAgg169 Try.sizeOf169 rfl (hS.blk (by repeat constructor)) rfl) ?_
   refine t_q (q_load_blk Try.isAgg169 Try.sizeOf169 rfl (hS.blk (by repeat constructor)) rfl) ?_
   refine t_callv Try.call111 rfl (wsm_calls (a := (x.getD j default)) (b := (y.getD j default)) ((hxo _ (getD_mem (by omega))).st hS) ((hyo _ (getD_mem (by omega))).st hS)) rfl ?_
   rintro e w ⟨rfl, hT⟩
   refine ⟨_, rfl, ?_⟩
   replace hS := hS.after hT
   refine t_q (q_not rfl) ?_
   refine t_nil ?_
   refine c_cond rfl ?_ ?_
   ·
    intro hc8
    have hD : decide (x.map EntV.vw = y.map EntV.vw) = false := decide_eq_false (agree_not (by omega) (by omega) (of_decide_eq_false (not_back hc8)))
    refine c_seq (c_region ?_)
    refine t_q (q_assign) ?_
    refine t_nil (c_ret ?_)
    refine r_one rfl rfl ?_
    rw [hD]
    exact ⟨rfl, hS.nil⟩
   ·
    intro hc8
    have heq : (x.getD j default).vw = (y.getD j default).vw := of_decide_eq_true (not_back hc8)
    refine c_skip (c_region ?_)
    refine t_q (q_add_i64 rfl rfl (by omega)) ?_
    refine t_q (q_mv (.int _ _) rfl) ?_
    refine t_nil ?_
    exact ⟨k - 1, by omega, j + 1, rfl, by omega, by omega, agree_succ hag heq, hS.nil⟩
  ·
   intro hc4
   have hc4d := of_decide_eq_false hc4
   obtain rfl : j = x.length := by omega
   have hD : decide (x.map EntV.vw = y.map EntV.vw) = true := decide_eq_true (agree_all (by omega) hag)
   refine c_exit ?_
   refine ite_t rfl ?_
   refine c_seq (c_region ?_)
   refine t_q (q_assign) ?_
   refine t_nil (c_ret ?_)
   refine r_one rfl rfl ?_
   rw [hD]
   exact ⟨rfl, hS.nil⟩
set_option maxHeartbeats 1000000 in
set_option maxRecDepth 100000 in
theorem wsame_calls {x y : MsgV} (hx : x.Gd W) (hy : y.Gd W) : Calls Try.prog 62 #[.agg x.cells.toArray, .agg y.cells.toArray] W fun e w' => e = .returned (.bool (decide (x.vw = y.vw))) ∧ St W w' [] := by
 have hS := St.init W
 refine calls_of_wpE (args := [_, _]) Try.func62 rfl rfl rfl ?_
 refine c_seq (c_region ?_)
 refine t_box (v := (.agg _)) rfl rfl hS (fun g2 w hS => ?_)
 replace hS := hS.recast (show _ = bmA g2 114 x from rfl)
 refine t_box (v := (.agg _)) rfl rfl hS (fun g3 w hS => ?_)
 replace hS := hS.recast (show _ = bmA g3 114 y from rfl)
 refine t_q (q_assign) ?_
 refine t_nil (c_seq (c_seq (c_region ?_)))
 refine t_q (q_fieldAddr 0 Try.runUnderlying114 rfl Try.sizeOf3 (by decide) rfl rfl) ?_
 refine t_q (q_load1 Try.isAgg3 rfl (hS.cell (by repeat constructor) rfl)) ?_
 refine t_q (q_fieldAddr 0 Try.runUnderlying114 rfl Try.sizeOf3 (by decide) rfl rfl) ?_
 refine t_q (q_load1 Try.isAgg3 rfl (hS.cell (by repeat constructor) rfl)) ?_
 refine t_q (q_neq rfl rfl) ?_
 refine t_q (q_mv (.bool _) rfl) ?_
 refine t_case 10 rfl ?_ ?_
 ·
  intro hg2
  have hg2d := of_decide_eq_true hg2
  refine t_no rfl rfl (by rw [hg2]; decide) ?_
  refine t_no rfl rfl (by rw [hg2]; decide) ?_
  refine t_no rfl rfl (by rw [hg2]; decide) ?_
  refine t_no rfl rfl (by rw [hg2]; decide) ?_
  refine t_no rfl rfl (by rw [hg2]; decide) ?_
  refine t_q (q_pick_t rfl hg2) ?_
  refine t_q (q_mv (.bool _) rfl) ?_
  refine t_no rfl rfl (by decide) ?_
  refine t_no rfl rfl (by decide) ?_
  refine t_no rfl rfl (by decide) ?_
  refine t_no rfl rfl (by decide) ?_
  refine t_no rfl rfl (by decide) ?_
  refine t_q (q_pick_t rfl rfl) ?_
  refine t_q (q_mv (.bool _) rfl) ?_
  refine t_no rfl rfl (by decide) ?_
  refine t_no rfl rfl (by decide) ?_
  refine t_no rfl rfl (by decide) ?_
  refine t_no rfl rfl (by decide) ?_
  refine t_no rfl rfl (by decide) ?_
  refine t_q (q_pick_t rfl rfl) ?_
  refine t_q (q_mv (.bool _) rfl) ?_
  refine t_no rfl rfl (by decide) ?_
  refine t_no rfl rfl (by decide) ?_
  refine t_no rfl rfl (by decide) ?_
  refine t_no rfl rfl (by decide) ?_
  refine t_no rfl rfl (by decide) ?_
  refine t_q (q_pick_t rfl rfl) ?_
  refine t_q (q_mv (.bool _) rfl) ?_
  refine t_no rfl rfl (by decide) ?_
  refine t_no rfl rfl (by decide) ?_
  refine t_no rfl rfl (by decide) ?_
  refine t_no rfl rfl (by decide) ?_
  refine t_no rfl rfl (by decide) ?_
  refine t_q (q_pick_t rfl rfl) ?_
  refine t_nil ?_
  refine c_cond_t rfl rfl ?_
  refine c_seq (c_region ?_)
  refine t_q (q_assign) ?_
  refine t_nil (c_ret ?_)
  refine r_one rfl rfl ?_
  have hN := hS.nil
  clear hS
  refine ⟨congrArg (fun b => Ending.returned (.bool b)) ?_, hN⟩
  clear hN
  rw [Bool.eq_iff_iff, decide_eq_true_iff (p := x.vw = y.vw), vw_iff]
  clear hx hy
  simp_all [sameB]
 ·
  intro hg2
  have hg2d := of_decide_eq_false hg2
  refine t_yes rfl rfl hg2 ?_
  refine t_q (q_fieldAddr 1 Try.runUnderlying114 rfl Try.sizeOf3 (by decide) rfl rfl) ?_
  refine t_yes rfl rfl hg2 ?_
  refine t_q (q_load1 Try.isAgg3 rfl (hS.cell (by repeat constructor) rfl)) ?_
  refine t_yes rfl rfl hg2 ?_
  refine t_q (q_fieldAddr 1 Try.runUnderlying114 rfl Try.sizeOf3 (by decide) rfl rfl) ?_
  refine t_yes rfl rfl hg2 ?_
  refine t_q (q_load1 Try.isAgg3 rfl (hS.cell (by repeat constructor) rfl)) ?_
  refine t_yes rfl rfl hg2 ?_
  refine t_q (q_neq rfl rfl) ?_
  refine t_q (q_pick_f rfl hg2) ?_
  refine t_q (q_mv (.bool _) rfl) ?_
  refine t_case 17 rfl ?_ ?_
  ·
   intro hg4
   have hg4d := of_decide_eq_true hg4
   refine t_no rfl rfl (by rw [hg4]; decide) ?_
   refine t_no rfl rfl (by rw [hg4]; decide) ?_
   refine t_no rfl rfl (by rw [hg4]; decide) ?_
   refine t_no rfl rfl (by rw [hg4]; decide) ?_
   refine t_no rfl rfl (by rw [hg4]; decide) ?_
   refine t_q (q_pick_t rfl hg4) ?_
   refine t_q (q_mv (.bool _) rfl) ?_
   refine t_no rfl rfl (by decide) ?_
   refine t_no rfl rfl (by decide) ?_
   refine t_no rfl rfl (by decide) ?_
   refine t_no rfl rfl (by decide) ?_
   refine t_no rfl rfl (by decide) ?_
   refine t_q (q_pick_t rfl rfl) ?_
   refine t_q (q_mv (.bool _) rfl) ?_
   refine t_no rfl rfl (by decide) ?_
   refine t_no rfl rfl (by decide) ?_
   refine t_no rfl rfl (by decide) ?_
   refine t_no rfl rfl (by decide) ?_
   refine t_no rfl rfl (by decide) ?_
   refine t_q (q_pick_t rfl rfl) ?_
   refine t_q (q_mv (.bool _) rfl) ?_
   refine t_no rfl rfl (by decide) ?_
   refine t_no rfl rfl (by decide) ?_
   refine t_no rfl rfl (by decide) ?_
   refine t_no rfl rfl (by decide) ?_
   refine t_no rfl rfl (by decide) ?_
   refine t_q (q_pick_t rfl rfl) ?_
   refine t_nil ?_
   refine c_cond_t rfl rfl ?_
   refine c_seq (c_region ?_)
   refine t_q (q_assign) ?_
   refine t_nil (c_ret ?_)
   refine r_one rfl rfl ?_
   have hN := hS.nil
   clear hS
   refine ⟨congrArg (fun b => Ending.returned (.bool b)) ?_, hN⟩
   clear hN
   rw [Bool.eq_iff_iff, decide_eq_true_iff (p := x.vw = y.vw), vw_iff]
   clear hx hy
   simp_all [sameB]
  ·
   intro hg4
   have hg4d := of_decide_eq_false hg4
   refine t_yes rfl rfl hg4 ?_
   refine t_q (q_fieldAddr 2 Try.runUnderlying114 rfl Try.sizeOf3 (by decide) rfl rfl) ?_
   refine t_yes rfl rfl hg4 ?_
   refine t_q (q_load1 Try.isAgg3 rfl (hS.cell (by repeat constructor) rfl)) ?_
   refine t_yes rfl rfl hg4 ?_
   refine t_q (q_fieldAddr 2 Try.runUnderlying114 rfl Try.sizeOf3 (by decide) rfl rfl) ?_
   refine t_yes rfl rfl hg4 ?_
   refine t_q (q_load1 Try.isAgg3 rfl (hS.cell (by repeat constructor) rfl)) ?_
   refine t_yes rfl rfl hg4 ?_
   refine t_q (q_neq rfl rfl) ?_
   refine t_q (q_pick_f rfl hg4) ?_
   refine t_q (q_mv (.bool _) rfl) ?_
   refine t_case 24 rfl ?_ ?_
   ·
    intro hg6
    have hg6d := of_decide_eq_true hg6
    refine t_no rfl rfl (by rw [hg6]; decide) ?_
    refine t_no rfl rfl (by rw [hg6]; decide) ?_
    refine t_no rfl rfl (by rw [hg6]; decide) ?_
    refine t_no rfl rfl (by rw [hg6]; decide) ?_
    refine t_no rfl rfl (by rw [hg6]; decide) ?_
    refine t_q (q_pick_t rfl hg6) ?_
    refine t_q (q_mv (.bool _) rfl) ?_
    refine t_no rfl rfl (by decide) ?_
    refine t_no rfl rfl (by decide) ?_
    refine t_no rfl rfl (by decide) ?_
    refine t_no rfl rfl (by decide) ?_
    refine t_no rfl rfl (by decide) ?_
    refine t_q (q_pick_t rfl rfl) ?_
    refine t_q (q_mv (.bool _) rfl) ?_
    refine t_no rfl rfl (by decide) ?_
    refine t_no rfl rfl (by decide) ?_
    refine t_no rfl rfl (by decide) ?_
    refine t_no rfl rfl (by decide) ?_
    refine t_no rfl rfl (by decide) ?_
    refine t_q (q_pick_t rfl rfl) ?_
    refine t_nil ?_
    refine c_cond_t rfl rfl ?_
    refine c_seq (c_region ?_)
    refine t_q (q_assign) ?_
    refine t_nil (c_ret ?_)
    refine r_one rfl rfl ?_
    have hN := hS.nil
    clear hS
    refine ⟨congrArg (fun b => Ending.returned (.bool b)) ?_, hN⟩
    clear hN
    rw [Bool.eq_iff_iff, decide_eq_true_iff (p := x.vw = y.vw), vw_iff]
    clear hx hy
    simp_all [sameB]
   ·
    intro hg6
    have hg6d := of_decide_eq_false hg6
    refine t_yes rfl rfl hg6 ?_
    refine t_q (q_fieldAddr 3 Try.runUnderlying114 rfl Try.sizeOf43 (by decide) rfl rfl) ?_
    refine t_yes rfl rfl hg6 ?_
    refine t_q (q_load1 Try.isAgg43 rfl (hS.cell (by repeat constructor) rfl)) ?_
    refine t_yes rfl rfl hg6 ?_
    refine t_q (q_fieldAddr 3 Try.runUnderlying114 rfl Try.sizeOf43 (by decide) rfl rfl) ?_
    refine t_yes rfl rfl hg6 ?_
    refine t_q (q_load1 Try.isAgg43 rfl (hS.cell (by repeat constructor) rfl)) ?_
    refine t_yes rfl rfl hg6 ?_
    refine t_q (q_neq rfl rfl) ?_
    refine t_q (q_pick_f rfl hg6) ?_
    refine t_q (q_mv (.bool _) rfl) ?_
    refine t_case 31 rfl ?_ ?_
    ·
     intro hg8
     have hg8d := of_decide_eq_true hg8
     refine t_no rfl rfl (by rw [hg8]; decide) ?_
     refine t_no rfl rfl (by rw [hg8]; decide) ?_
     refine t_no rfl rfl (by rw [hg8]; decide) ?_
     refine t_no rfl rfl (by rw [hg8]; decide) ?_
     refine t_no rfl rfl (by rw [hg8]; decide) ?_
     refine t_q (q_pick_t rfl hg8) ?_
     refine t_q (q_mv (.bool _) rfl) ?_
     refine t_no rfl rfl (by decide) ?_
     refine t_no rfl rfl (by decide) ?_
     refine t_no rfl rfl (by decide) ?_
     refine t_no rfl rfl (by decide) ?_
     refine t_no rfl rfl (by decide) ?_
     refine t_q (q_pick_t rfl rfl) ?_
     refine t_nil ?_
     refine c_cond_t rfl rfl ?_
     refine c_seq (c_region ?_)
     refine t_q (q_assign) ?_
     refine t_nil (c_ret ?_)
     refine r_one rfl rfl ?_
     have hN := hS.nil
     clear hS
     refine ⟨congrArg (fun b => Ending.returned (.bool b)) ?_, hN⟩
     clear hN
     rw [Bool.eq_iff_iff, decide_eq_true_iff (p := x.vw = y.vw), vw_iff]
     clear hx hy
     simp_all [sameB]
    ·
     intro hg8
     have hg8d := of_decide_eq_false hg8
     refine t_yes rfl rfl hg8 ?_
     refine t_q (q_fieldAddr 4 Try.runUnderlying114 rfl Try.sizeOf43 (by decide) rfl rfl) ?_
     refine t_yes rfl rfl hg8 ?_
     refine t_q (q_load1 Try.isAgg43 rfl (hS.cell (by repeat constructor) rfl)) ?_
     refine t_yes rfl rfl hg8 ?_
     refine t_q (q_fieldAddr 4 Try.runUnderlying114 rfl Try.sizeOf43 (by decide) rfl rfl) ?_
     refine t_yes rfl rfl hg8 ?_
     refine t_q (q_load1 Try.isAgg43 rfl (hS.cell (by repeat constructor) rfl)) ?_
     refine t_yes rfl rfl hg8 ?_
     refine t_q (q_neq rfl rfl) ?_
     refine t_q (q_pick_f rfl hg8) ?_
     refine t_q (q_mv (.bool _) rfl) ?_
     refine t_case 38 rfl ?_ ?_
     ·
      intro hg10
      have hg10d := of_decide_eq_true hg10
      refine t_no rfl rfl (by rw [hg10]; decide) ?_
      refine t_no rfl rfl (by rw [hg10]; decide) ?_
      refine t_no rfl rfl (by rw [hg10]; decide) ?_
      refine t_no rfl rfl (by rw [hg10]; decide) ?_
      refine t_no rfl rfl (by rw [hg10]; decide) ?_
      refine t_q (q_pick_t rfl hg10) ?_
      refine t_nil ?_
      refine c_cond_t rfl rfl ?_
      refine c_seq (c_region ?_)
      refine t_q (q_assign) ?_
      refine t_nil (c_ret ?_)
      refine r_one rfl rfl ?_
      have hN := hS.nil
      clear hS
      refine ⟨congrArg (fun b => Ending.returned (.bool b)) ?_, hN⟩
      clear hN
      rw [Bool.eq_iff_iff, decide_eq_true_iff (p := x.vw = y.vw), vw_iff]
      clear hx hy
      simp_all [sameB]
     ·
      intro hg10
      have hg10d := of_decide_eq_false hg10
      refine t_yes rfl rfl hg10 ?_
      refine t_q (q_fieldAddr 5 Try.runUnderlying114 rfl Try.sizeOf43 (by decide) rfl rfl) ?_
      refine t_yes rfl rfl hg10 ?_
      refine t_q (q_load1 Try.isAgg43 rfl (hS.cell (by repeat constructor) rfl)) ?_
      refine t_yes rfl rfl hg10 ?_
      refine t_q (q_fieldAddr 5 Try.runUnderlying114 rfl Try.sizeOf43 (by decide) rfl rfl) ?_
      refine t_yes rfl rfl hg10 ?_
      refine t_q (q_load1 Try.isAgg43 rfl (hS.cell (by repeat constructor) rfl)) ?_
      refine t_yes rfl rfl hg10 ?_
      refine t_q (q_neq rfl rfl) ?_
      refine t_q (q_pick_f rfl hg10) ?_
      refine t_nil ?_
      refine c_cond rfl ?_ ?_
      ·
       intro hc12
       have hc12d := of_decide_eq_true hc12
       refine c_seq (c_region ?_)
       refine t_q (q_assign) ?_
       refine t_nil (c_ret ?_)
       refine r_one rfl rfl ?_
       have hN := hS.nil
       clear hS
       refine ⟨congrArg (fun b => Ending.returned (.bool b)) ?_, hN⟩
       clear hN
       rw [Bool.eq_iff_iff, decide_eq_true_iff (p := x.vw = y.vw), vw_iff]
       clear hx hy
       simp_all [sameB]
      ·
       intro hc12
       have hc12d := of_decide_eq_false hc12
       refine c_skip (c_seq (c_seq (c_region ?_)))
       refine t_q (q_fieldAddr 6 Try.runUnderlying114 rfl Try.sizeOf43 (by decide) rfl rfl) ?_
       refine t_q (q_load1 Try.isAgg43 rfl (hS.cell (by repeat constructor) rfl)) ?_
       refine t_q (q_fieldAddr 6 Try.runUnderlying114 rfl Try.sizeOf43 (by decide) rfl rfl) ?_
       refine t_q (q_load1 Try.isAgg43 rfl (hS.cell (by repeat constructor) rfl)) ?_
       refine t_q (q_neq rfl rfl) ?_
       refine t_q (q_mv (.bool _) rfl) ?_
       refine t_case 50 rfl ?_ ?_
       ·
        intro hg14
        have hg14d := of_decide_eq_true hg14
        refine t_no rfl rfl (by rw [hg14]; decide) ?_
        refine t_no rfl rfl (by rw [hg14]; decide) ?_
        refine t_no rfl rfl (by rw [hg14]; decide) ?_
        refine t_no rfl rfl (by rw [hg14]; decide) ?_
        refine t_no rfl rfl (by rw [hg14]; decide) ?_
        refine t_q (q_pick_t rfl hg14) ?_
        refine t_q (q_mv (.bool _) rfl) ?_
        refine t_no rfl rfl (by decide) ?_
        refine t_no rfl rfl (by decide) ?_
        refine t_no rfl rfl (by decide) ?_
        refine t_no rfl rfl (by decide) ?_
        refine t_no rfl rfl (by decide) ?_
        refine t_q (q_pick_t rfl rfl) ?_
        refine t_q (q_mv (.bool _) rfl) ?_
        refine t_no rfl rfl (by decide) ?_
        refine t_no rfl rfl (by decide) ?_
        refine t_no rfl rfl (by decide) ?_
        refine t_no rfl rfl (by decide) ?_
        refine t_no rfl rfl (by decide) ?_
        refine t_q (q_pick_t rfl rfl) ?_
        refine t_q (q_mv (.bool _) rfl) ?_
        refine t_no rfl rfl (by decide) ?_
        refine t_no rfl rfl (by decide) ?_
        refine t_no rfl rfl (by decide) ?_
        refine t_no rfl rfl (by decide) ?_
        refine t_no rfl rfl (by decide) ?_
        refine t_no rfl rfl (by decide) ?_
        refine t_q (q_pick_t rfl rfl) ?_
        refine t_nil ?_
        refine c_cond_t rfl rfl ?_
        refine c_seq (c_region ?_)
        refine t_q (q_assign) ?_
        refine t_nil (c_ret ?_)
        refine r_one rfl rfl ?_
        have hN := hS.nil
        clear hS
        refine ⟨congrArg (fun b => Ending.returned (.bool b)) ?_, hN⟩
        clear hN
        rw [Bool.eq_iff_iff, decide_eq_true_iff (p := x.vw = y.vw), vw_iff]
        clear hx hy
        simp_all [sameB]
       ·
        intro hg14
        have hg14d := of_decide_eq_false hg14
        refine t_yes rfl rfl hg14 ?_
        refine t_q (q_fieldAddr 7 Try.runUnderlying114 rfl Try.sizeOf4 (by decide) rfl rfl) ?_
        refine t_yes rfl rfl hg14 ?_
        refine t_q (q_load1 Try.isAgg4 rfl (hS.cell (by repeat constructor) rfl)) ?_
        refine t_yes rfl rfl hg14 ?_
        refine t_q (q_fieldAddr 7 Try.runUnderlying114 rfl Try.sizeOf4 (by decide) rfl rfl) ?_
        refine t_yes rfl rfl hg14 ?_
        refine t_q (q_load1 Try.isAgg4 rfl (hS.cell (by repeat constructor) rfl)) ?_
        refine t_yes rfl rfl hg14 ?_
        refine t_q (q_neq_bool Try.runUnderlying4 rfl rfl) ?_
        refine t_q (q_pick_f rfl hg14) ?_
        refine t_q (q_mv (.bool _) rfl) ?_
        refine t_case 57 rfl ?_ ?_
        ·
         intro hg18
         have hg18d := of_decide_eq_true hg18
         refine t_no rfl rfl (by rw [hg18]; decide) ?_
         refine t_no rfl rfl (by rw [hg18]; decide) ?_
         refine t_no rfl rfl (by rw [hg18]; decide) ?_
         refine t_no rfl rfl (by rw [hg18]; decide) ?_
         refine t_no rfl rfl (by rw [hg18]; decide) ?_
         refine t_q (q_pick_t rfl hg18) ?_
         refine t_q (q_mv (.bool _) rfl) ?_
         refine t_no rfl rfl (by decide) ?_
         refine t_no rfl rfl (by decide) ?_
         refine t_no rfl rfl (by decide) ?_
         refine t_no rfl rfl (by decide) ?_
         refine t_no rfl rfl (by decide) ?_
         refine t_q (q_pick_t rfl rfl) ?_
         refine t_q (q_mv (.bool _) rfl) ?_
         refine t_no rfl rfl (by decide) ?_
         refine t_no rfl rfl (by decide) ?_
         refine t_no rfl rfl (by decide) ?_
         refine t_no rfl rfl (by decide) ?_
         refine t_no rfl rfl (by decide) ?_
         refine t_no rfl rfl (by decide) ?_
         refine t_q (q_pick_t rfl rfl) ?_
         refine t_nil ?_
         refine c_cond_t rfl rfl ?_
         refine c_seq (c_region ?_)
         refine t_q (q_assign) ?_
         refine t_nil (c_ret ?_)
         refine r_one rfl rfl ?_
         have hN := hS.nil
         clear hS
         refine ⟨congrArg (fun b => Ending.returned (.bool b)) ?_, hN⟩
         clear hN
         rw [Bool.eq_iff_iff, decide_eq_true_iff (p := x.vw = y.vw), vw_iff]
         clear hx hy
         simp_all [sameB]
        ·
         intro hg18
         have hg18d := of_decide_eq_false hg18
         refine t_yes rfl rfl hg18 ?_
         refine t_q (q_fieldAddr 10 Try.runUnderlying114 rfl Try.sizeOf43 (by decide) rfl rfl) ?_
         refine t_yes rfl rfl hg18 ?_
         refine t_q (q_load1 Try.isAgg43 rfl (hS.cell (by repeat constructor) rfl)) ?_
         refine t_yes rfl rfl hg18 ?_
         refine t_q (q_fieldAddr 10 Try.runUnderlying114 rfl Try.sizeOf43 (by decide) rfl rfl) ?_
         refine t_yes rfl rfl hg18 ?_
         refine t_q (q_load1 Try.isAgg43 rfl (hS.cell (by repeat constructor) rfl)) ?_
         refine t_yes rfl rfl hg18 ?_
         refine t_q (q_neq rfl rfl) ?_
         refine t_q (q_pick_f rfl hg18) ?_
         refine t_q (q_mv (.bool _) rfl) ?_
         refine t_case 64 rfl ?_ ?_
         ·
          intro hg20
          have hg20d := of_decide_eq_true hg20
          refine t_no rfl rfl (by rw [hg20]; decide) ?_
          refine t_no rfl rfl (by rw [hg20]; decide) ?_
          refine t_no rfl rfl (by rw [hg20]; decide) ?_
          refine t_no rfl rfl (by rw [hg20]; decide) ?_
          refine t_no rfl rfl (by rw [hg20]; decide) ?_
          refine t_q (q_pick_t rfl hg20) ?_
          refine t_q (q_mv (.bool _) rfl) ?_
          refine t_no rfl rfl (by decide) ?_
          refine t_no rfl rfl (by decide) ?_
          refine t_no rfl rfl (by decide) ?_
          refine t_no rfl rfl (by decide) ?_
          refine t_no rfl rfl (by decide) ?_
          refine t_no rfl rfl (by decide) ?_
          refine t_q (q_pick_t rfl rfl) ?_
          refine t_nil ?_
          refine c_cond_t rfl rfl ?_
          refine c_seq (c_region ?_)
          refine t_q (q_assign) ?_
          refine t_nil (c_ret ?_)
          refine r_one rfl rfl ?_
          have hN := hS.nil
          clear hS
          refine ⟨congrArg (fun b => Ending.returned (.bool b)) ?_, hN⟩
          clear hN
          rw [Bool.eq_iff_iff, decide_eq_true_iff (p := x.vw = y.vw), vw_iff]
          clear hx hy
          simp_all [sameB]
         ·
          intro hg20
          have hg20d := of_decide_eq_false hg20
          refine t_yes rfl rfl hg20 ?_
          refine t_q (q_fieldAddr 11 Try.runUnderlying114 rfl Try.sizeOf43 (by decide) rfl rfl) ?_
          refine t_yes rfl rfl hg20 ?_
          refine t_q (q_load1 Try.isAgg43 rfl (hS.cell (by repeat constructor) rfl)) ?_
          refine t_yes rfl rfl hg20 ?_
          refine t_q (q_fieldAddr 11 Try.runUnderlying114 rfl Try.sizeOf43 (by decide) rfl rfl) ?_
          refine t_yes rfl rfl hg20 ?_
          refine t_q (q_load1 Try.isAgg43 rfl (hS.cell (by repeat constructor) rfl)) ?_
          refine t_yes rfl rfl hg20 ?_
          refine t_q (q_neq rfl rfl) ?_
          refine t_q (q_pick_f rfl hg20) ?_
          refine t_q (q_mv (.bool _) rfl) ?_
          refine t_case 71 rfl ?_ ?_
          ·
           intro hg22
           have hg22d := of_decide_eq_true hg22
           refine t_no rfl rfl (by rw [hg22]; decide) ?_
           refine t_no rfl rfl (by rw [hg22]; decide) ?_
           refine t_no rfl rfl (by rw [hg22]; decide) ?_
           refine t_no rfl rfl (by rw [hg22]; decide) ?_
           refine t_no rfl rfl (by rw [hg22]; decide) ?_
           refine t_no rfl rfl (by rw [hg22]; decide) ?_
           refine t_q (q_pick_t rfl hg22) ?_
           refine t_nil ?_
           refine c_cond_t rfl rfl ?_
           refine c_seq (c_region ?_)
           refine t_q (q_assign) ?_
           refine t_nil (c_ret ?_)
           refine r_one rfl rfl ?_
           have hN := hS.nil
           clear hS
           refine ⟨congrArg (fun b => Ending.returned (.bool b)) ?_, hN⟩
           clear hN
           rw [Bool.eq_iff_iff, decide_eq_true_iff (p := x.vw = y.vw), vw_iff]
           clear hx hy
           simp_all [sameB]
          ·
           intro hg22
           have hg22d := of_decide_eq_false hg22
           refine t_yes rfl rfl hg22 ?_
           refine t_q (q_fieldAddr 9 Try.runUnderlying114 rfl Try.sizeOf25 (by decide) rfl rfl) ?_
           refine t_yes rfl rfl hg22 ?_
           refine t_q (q_load1 Try.isAgg25 rfl (hS.cell (by repeat constructor) rfl)) ?_
           refine t_yes rfl rfl hg22 ?_
           refine t_q (q_fieldAddr 9 Try.runUnderlying114 rfl Try.sizeOf25 (by decide) rfl rfl) ?_
           refine t_yes rfl rfl hg22 ?_
           refine t_q (q_load1 Try.isAgg25 rfl (hS.cell (by repeat constructor) rfl)) ?_
           refine t_yes rfl rfl hg22 ?_
           refine t_call Try.call109 (equal_calls (a := x.body.l) (b := y.body.l) (Rd.st hx.brd hS) (Rd.st hy.brd hS)) rfl ?_
           rintro e w ⟨rfl, hT⟩
           refine ⟨_, rfl, ?_⟩
           replace hS := hS.after hT
           refine t_yes rfl rfl hg22 ?_
           refine t_q (q_not rfl) ?_
           refine t_q (q_pick_f rfl hg22) ?_
           refine t_nil ?_
           refine c_cond rfl ?_ ?_
           ·
            intro hc24
            refine c_seq (c_region ?_)
            refine t_q (q_assign) ?_
            refine t_nil (c_ret ?_)
            refine r_one rfl rfl ?_
            have hN := hS.nil
            clear hS
            refine ⟨congrArg (fun b => Ending.returned (.bool b)) ?_, hN⟩
            clear hN
            rw [Bool.eq_iff_iff, decide_eq_true_iff (p := x.vw = y.vw), vw_iff]
            clear hx hy
            simp_all [sameB]
           ·
            intro hc24
            refine c_skip (c_seq (c_region ?_))
            refine t_q (q_fieldAddr 8 Try.runUnderlying114 rfl Try.sizeOf111 (by decide) rfl rfl) ?_
            refine t_q (q_load1 Try.isAgg111 rfl (hS.cell (by repeat constructor) rfl)) ?_
            refine t_q (q_fieldAddr 8 Try.runUnderlying114 rfl Try.sizeOf111 (by decide) rfl rfl) ?_
            refine t_q (q_load1 Try.isAgg111 rfl (hS.cell (by repeat constructor) rfl)) ?_
            refine t_call Try.call110 (eqf_calls (x := x.entries.l) (y := y.entries.l) (Rd.st hx.erd hS) (Rd.st hy.erd hS) (fun e he => (hx.eok e he).st hS) (fun e he => (hy.eok e he).st hS) (by have := hx.ele; omega)) rfl ?_
            rintro e w ⟨rfl, hT⟩
            refine ⟨_, rfl, ?_⟩
            replace hS := hS.after hT
            refine t_q (q_mv (.bool _) rfl) ?_
            refine t_case 84 rfl ?_ ?_
            ·
             intro hg26
             refine t_yes rfl rfl hg26 ?_
             refine t_q (q_fieldAddr 12 Try.runUnderlying114 rfl Try.sizeOf112 (by decide) rfl rfl) ?_
             refine t_yes rfl rfl hg26 ?_
             refine t_q (q_load1 Try.isAgg112 rfl (hS.cell (by repeat constructor) rfl)) ?_
             refine t_yes rfl rfl hg26 ?_
             refine t_q (q_fieldAddr 12 Try.runUnderlying114 rfl Try.sizeOf112 (by decide) rfl rfl) ?_
             refine t_yes rfl rfl hg26 ?_
             refine t_q (q_load1 Try.isAgg112 rfl (hS.cell (by repeat constructor) rfl)) ?_
             refine t_yes rfl rfl hg26 ?_
             refine t_call Try.call112 (esame_calls (a := x.events.l) (b := y.events.l) (Rd.st hx.vrd hS) (Rd.st hy.vrd hS) hx.vin hy.vin hx.vle hy.vle) rfl ?_
             rintro e w ⟨rfl, hT⟩
             refine ⟨_, rfl, ?_⟩
             replace hS := hS.after hT
             refine t_q (q_pick_t rfl hg26) ?_
             refine t_q (q_as (.bool _) rfl) ?_
             refine t_nil (c_ret ?_)
             refine r_one rfl rfl ?_
             have hN := hS.nil
             clear hS
             refine ⟨congrArg (fun b => Ending.returned (.bool b)) ?_, hN⟩
             clear hN
             rw [Bool.eq_iff_iff, decide_eq_true_iff (p := x.vw = y.vw), vw_iff]
             clear hx hy
             simp_all [sameB]
            ·
             intro hg26
             refine t_no rfl rfl (by rw [hg26]; decide) ?_
             refine t_no rfl rfl (by rw [hg26]; decide) ?_
             refine t_no rfl rfl (by rw [hg26]; decide) ?_
             refine t_no rfl rfl (by rw [hg26]; decide) ?_
             refine t_no rfl rfl (by rw [hg26]; decide) ?_
             refine t_q (q_pick_f rfl hg26) ?_
             refine t_q (q_as (.bool _) rfl) ?_
             refine t_nil (c_ret ?_)
             refine r_one rfl rfl ?_
             have hN := hS.nil
             clear hS
             refine ⟨congrArg (fun b => Ending.returned (.bool b)) ?_, hN⟩
             clear hN
             rw [Bool.eq_iff_iff, decide_eq_true_iff (p := x.vw = y.vw), vw_iff]
             clear hx hy
             simp_all [sameB]
end Go.Proofs.Ytlppgpidakfnlaa
