/- Rule sets: plain. -/
import Derived.Test.YtcgagmojgjbfpaaDoorOp
import Derived.Test.YtcgagmojgjbfpaaDoorQ
import Derived.Test.YtcgagmojgjbfpaaDoorIf
import Derived.Test.YtcgagmojgjbfpaaDoorCl
namespace Go.Proofs.YtcgagmojgjbfpaaDoor
open Go Go.RowKit Go.Lib
variable {W : World}
theorem wf_i {n : Int} (h : -9223372036854775808 ≤ n ∧ n ≤ 9223372036854775807) : (Lit.int .i64 n).wf = true := by
  unfold Lit.wf
  simp [IntKind.min, IntKind.max, IntKind.bits, IntKind.signed]
  omega
structure Tk where
  frm : Int
  size : Int
instance : Inhabited Tk := ⟨⟨0, 0⟩⟩
def Tk.cells (x : Tk) : List Value := [.int .i64 x.frm, .int .i64 x.size]
structure Tk.Ok (w : World) (x : Tk) : Prop where
  frm : -9223372036854775808 ≤ x.frm ∧ x.frm ≤ 9223372036854775807
  size : -9223372036854775808 ≤ x.size ∧ x.size ≤ 9223372036854775807
set_option maxRecDepth 100000 in
theorem opn_Tk {H : Type} {enc : TypeId × Value → H} {w : World} : Opn enc Tryd.prog w 54 Tk.cells (Tk.Ok w) := fun _ _ _ h => by
  obtain ⟨parts, rfl, hl, hf⟩ := opn_parts Tryd.underlying54 (by kernel_rfl) (by kernel_rfl) h
  match parts, hl with
  | [p0, p1], _ =>
    obtain ⟨f0, x0, h0⟩ := hf 0 _ rfl
    obtain ⟨a0, e0, k0⟩ := (opn_i64 Tryd.underlying2) _ _ _ h0
    replace e0 : p0 = _ := e0
    obtain ⟨f1, x1, h1⟩ := hf 1 _ rfl
    obtain ⟨a1, e1, k1⟩ := (opn_i64 Tryd.underlying2) _ _ _ h1
    replace e1 : p1 = _ := e1
    subst e0 e1
    exact ⟨⟨a0, a1⟩, by simp [Tk.cells], ⟨k0, k1⟩⟩
def Tk.In (e : Tk) : Prop := (-9223372036854775808 ≤ e.frm ∧ e.frm ≤ 9223372036854775807) ∧ (-9223372036854775808 ≤ e.size ∧ e.size ≤ 9223372036854775807)
theorem Tk.Ok.in {w : World} {e : Tk} (h : e.Ok w) : e.In := ⟨h.frm, h.size⟩
def Tk.ints (e : Tk) : List Int := [e.frm, e.size]
def Tk.lits (e : Tk) : List Lit := [.int .i64 e.frm, .int .i64 e.size]
theorem Tk.lits_iff {e q : Tk} : decide (e.ints = q.ints) = true ↔ e.lits = q.lits := by
  simp [Tk.ints, Tk.lits]
set_option maxRecDepth 100000 in
theorem tk_lits {e : Tk} (h : e.In) : Tryd.prog.keyLits 2 54 e.cells = some e.lits := by
  obtain ⟨h0, h1⟩ := h
  have k0 : Tryd.prog.keyLits 1 2 [.int .i64 e.frm] = some [.int .i64 e.frm] := keyLits_int1 Tryd.underlying2 (wf_i h0)
  have k1 : Tryd.prog.keyLits 1 2 [.int .i64 e.size] = some [.int .i64 e.size] := keyLits_int1 Tryd.underlying2 (wf_i h1)
  have c2 : Tryd.prog.cellsOf 2 = 1 := by kernel_rfl
  have cE : Tryd.prog.cellsOf 54 = 2 := by kernel_rfl
  show Tryd.prog.keyLits (1 + 1) 54 _ = _
  unfold Program.keyLits
  simp only [Tryd.underlying54]
  rw [if_pos ⟨by rw [cE]; rfl, by simp⟩]
  simp only [List.mapM_cons, List.mapM_nil, c2]
  have d0 : (e.cells.drop 0).take 1 = [.int .i64 e.frm] := rfl
  have d1 : (e.cells.drop 1).take 1 = [.int .i64 e.size] := rfl
  rw [d0, k0, d1, k1]
  rfl
theorem tk_formed {e : Tk} : Value.formed Tryd.prog 54 (.agg e.cells.toArray) = true := by
  have cE : Tryd.prog.cellsOf 54 = 2 := by kernel_rfl
  simp [Value.formed, Tryd.underlying54, cE, Tk.cells]
theorem q_neq_tk {ρ : Env} {w : World} {ty yt : TypeId} {x y : Operand} {e q : Tk} (hx : ev ρ x = .agg e.cells.toArray) (hy : ev ρ y = .agg q.cells.toArray) (he : e.In) (hq : q.In) : qv Tryd.prog (.binOp .neq 54 x y yt) ty ρ w (.bool (!decide (e.ints = q.ints))) :=
  q_neq_lits (m := 2) hx hy (by kernel_rfl) (by decide) (by kernel_rfl) tk_formed tk_formed (tk_lits he) (tk_lits hq) Tk.lits_iff
def RdTk (w : World) (A : Option Addr) (l : List Tk) : Prop := Rd w 2 A l.length (fun i => (l.getD i default).cells)
theorem RdTk.st {w : World} {Q : List Asn} {A : Option Addr} {l : List Tk} (h : RdTk W A l) (hS : St W w Q) : RdTk w A l := Rd.st h hS
theorem rowRdTk {w : World} {Q R : List Asn} {t : Nat} {A : Option Addr} {m c : Nat} {l : List Tk} (hS : St W w Q) (pk : Pick Q (rowA t 2 A m c (l.flatMap Tk.cells)) R) (hm : m = l.length) : RdTk w A l := hS.rowRdL pk hm (fun _ => rfl)
theorem tk_in {l : List Tk} (h : ∀ e ∈ l, e.In) {j : Nat} (hj : j < l.length) : (l.getD j default).In := h _ (getD_mem hj)
theorem flat_tk {l : List Tk} {j : Nat} (hj : j < l.length) : (l.take (j + 1)).flatMap Tk.cells = (l.take j).flatMap Tk.cells ++ (l.getD j default).cells := by
  rw [List.take_add_one, List.flatMap_append, List.getElem?_eq_getElem hj, List.getD_eq_getElem?_getD, List.getElem?_eq_getElem hj]
  simp
structure Tr where
  frm : Int
  maker : Int
  taker : Int
instance : Inhabited Tr := ⟨⟨0, 0, 0⟩⟩
def Tr.cells (x : Tr) : List Value := [.int .i64 x.frm, .int .i64 x.maker, .int .i64 x.taker]
structure Tr.Ok (w : World) (x : Tr) : Prop where
  frm : -9223372036854775808 ≤ x.frm ∧ x.frm ≤ 9223372036854775807
  maker : -9223372036854775808 ≤ x.maker ∧ x.maker ≤ 9223372036854775807
  taker : -9223372036854775808 ≤ x.taker ∧ x.taker ≤ 9223372036854775807
set_option maxRecDepth 100000 in
theorem opn_Tr {H : Type} {enc : TypeId × Value → H} {w : World} : Opn enc Tryd.prog w 56 Tr.cells (Tr.Ok w) := fun _ _ _ h => by
  obtain ⟨parts, rfl, hl, hf⟩ := opn_parts Tryd.underlying56 (by kernel_rfl) (by kernel_rfl) h
  match parts, hl with
  | [p0, p1, p2], _ =>
    obtain ⟨f0, x0, h0⟩ := hf 0 _ rfl
    obtain ⟨a0, e0, k0⟩ := (opn_i64 Tryd.underlying2) _ _ _ h0
    replace e0 : p0 = _ := e0
    obtain ⟨f1, x1, h1⟩ := hf 1 _ rfl
    obtain ⟨a1, e1, k1⟩ := (opn_i64 Tryd.underlying2) _ _ _ h1
    replace e1 : p1 = _ := e1
    obtain ⟨f2, x2, h2⟩ := hf 2 _ rfl
    obtain ⟨a2, e2, k2⟩ := (opn_i64 Tryd.underlying2) _ _ _ h2
    replace e2 : p2 = _ := e2
    subst e0 e1 e2
    exact ⟨⟨a0, a1, a2⟩, by simp [Tr.cells], ⟨k0, k1, k2⟩⟩
def Tr.In (e : Tr) : Prop := (-9223372036854775808 ≤ e.frm ∧ e.frm ≤ 9223372036854775807) ∧ (-9223372036854775808 ≤ e.maker ∧ e.maker ≤ 9223372036854775807) ∧ (-9223372036854775808 ≤ e.taker ∧ e.taker ≤ 9223372036854775807)
theorem Tr.Ok.in {w : World} {e : Tr} (h : e.Ok w) : e.In := ⟨h.frm, h.maker, h.taker⟩
def Tr.ints (e : Tr) : List Int := [e.frm, e.maker, e.taker]
def Tr.lits (e : Tr) : List Lit := [.int .i64 e.frm, .int .i64 e.maker, .int .i64 e.taker]
theorem Tr.lits_iff {e q : Tr} : decide (e.ints = q.ints) = true ↔ e.lits = q.lits := by
  simp [Tr.ints, Tr.lits]
set_option maxRecDepth 100000 in
theorem tr_lits {e : Tr} (h : e.In) : Tryd.prog.keyLits 2 56 e.cells = some e.lits := by
  obtain ⟨h0, h1, h2⟩ := h
  have k0 : Tryd.prog.keyLits 1 2 [.int .i64 e.frm] = some [.int .i64 e.frm] := keyLits_int1 Tryd.underlying2 (wf_i h0)
  have k1 : Tryd.prog.keyLits 1 2 [.int .i64 e.maker] = some [.int .i64 e.maker] := keyLits_int1 Tryd.underlying2 (wf_i h1)
  have k2 : Tryd.prog.keyLits 1 2 [.int .i64 e.taker] = some [.int .i64 e.taker] := keyLits_int1 Tryd.underlying2 (wf_i h2)
  have c2 : Tryd.prog.cellsOf 2 = 1 := by kernel_rfl
  have cE : Tryd.prog.cellsOf 56 = 3 := by kernel_rfl
  show Tryd.prog.keyLits (1 + 1) 56 _ = _
  unfold Program.keyLits
  simp only [Tryd.underlying56]
  rw [if_pos ⟨by rw [cE]; rfl, by simp⟩]
  simp only [List.mapM_cons, List.mapM_nil, c2]
  have d0 : (e.cells.drop 0).take 1 = [.int .i64 e.frm] := rfl
  have d1 : (e.cells.drop 1).take 1 = [.int .i64 e.maker] := rfl
  have d2 : (e.cells.drop 2).take 1 = [.int .i64 e.taker] := rfl
  rw [d0, k0, d1, k1, d2, k2]
  rfl
theorem tr_formed {e : Tr} : Value.formed Tryd.prog 56 (.agg e.cells.toArray) = true := by
  have cE : Tryd.prog.cellsOf 56 = 3 := by kernel_rfl
  simp [Value.formed, Tryd.underlying56, cE, Tr.cells]
theorem q_neq_tr {ρ : Env} {w : World} {ty yt : TypeId} {x y : Operand} {e q : Tr} (hx : ev ρ x = .agg e.cells.toArray) (hy : ev ρ y = .agg q.cells.toArray) (he : e.In) (hq : q.In) : qv Tryd.prog (.binOp .neq 56 x y yt) ty ρ w (.bool (!decide (e.ints = q.ints))) :=
  q_neq_lits (m := 2) hx hy (by kernel_rfl) (by decide) (by kernel_rfl) tr_formed tr_formed (tr_lits he) (tr_lits hq) Tr.lits_iff
def RdTr (w : World) (A : Option Addr) (l : List Tr) : Prop := Rd w 3 A l.length (fun i => (l.getD i default).cells)
theorem RdTr.st {w : World} {Q : List Asn} {A : Option Addr} {l : List Tr} (h : RdTr W A l) (hS : St W w Q) : RdTr w A l := Rd.st h hS
theorem rowRdTr {w : World} {Q R : List Asn} {t : Nat} {A : Option Addr} {m c : Nat} {l : List Tr} (hS : St W w Q) (pk : Pick Q (rowA t 3 A m c (l.flatMap Tr.cells)) R) (hm : m = l.length) : RdTr w A l := hS.rowRdL pk hm (fun _ => rfl)
theorem tr_in {l : List Tr} (h : ∀ e ∈ l, e.In) {j : Nat} (hj : j < l.length) : (l.getD j default).In := h _ (getD_mem hj)
theorem flat_tr {l : List Tr} {j : Nat} (hj : j < l.length) : (l.take (j + 1)).flatMap Tr.cells = (l.take j).flatMap Tr.cells ++ (l.getD j default).cells := by
  rw [List.take_add_one, List.flatMap_append, List.getElem?_eq_getElem hj, List.getD_eq_getElem?_getD, List.getElem?_eq_getElem hj]
  simp
structure RuV where
  version : Int
  ticks : Sl Tk
  lot : Int
  band : Int
  fees : Sl Tr
  round : Int
  priority : Int
  self : Int
  layout : Int
instance : Inhabited RuV := ⟨⟨0, default, 0, 0, default, 0, 0, 0, 0⟩⟩
def RuV.cells (x : RuV) : List Value := [.int .i64 x.version, .slice x.ticks.A x.ticks.l.length x.ticks.c, .int .i64 x.lot, .int .i64 x.band, .slice x.fees.A x.fees.l.length x.fees.c, .int .i64 x.round, .int .i64 x.priority, .int .i64 x.self, .int .i64 x.layout]
structure RuV.Ok (w : World) (x : RuV) : Prop where
  version : -9223372036854775808 ≤ x.version ∧ x.version ≤ 9223372036854775807
  ticks : (Sl.Ok 2 Tk.cells (Tk.Ok w) w) x.ticks
  lot : -9223372036854775808 ≤ x.lot ∧ x.lot ≤ 9223372036854775807
  band : -9223372036854775808 ≤ x.band ∧ x.band ≤ 9223372036854775807
  fees : (Sl.Ok 3 Tr.cells (Tr.Ok w) w) x.fees
  round : -9223372036854775808 ≤ x.round ∧ x.round ≤ 9223372036854775807
  priority : -9223372036854775808 ≤ x.priority ∧ x.priority ≤ 9223372036854775807
  self : -9223372036854775808 ≤ x.self ∧ x.self ≤ 9223372036854775807
  layout : -9223372036854775808 ≤ x.layout ∧ x.layout ≤ 9223372036854775807
set_option maxRecDepth 100000 in
theorem opn_RuV {H : Type} {enc : TypeId × Value → H} {w : World} : Opn enc Tryd.prog w 42 RuV.cells (RuV.Ok w) := fun _ _ _ h => by
  obtain ⟨parts, rfl, hl, hf⟩ := opn_parts Tryd.underlying42 (by kernel_rfl) (by kernel_rfl) h
  match parts, hl with
  | [p0, p1, p2, p3, p4, p5, p6, p7, p8], _ =>
    obtain ⟨f0, x0, h0⟩ := hf 0 _ rfl
    obtain ⟨a0, e0, k0⟩ := (opn_i64 Tryd.underlying3) _ _ _ h0
    replace e0 : p0 = _ := e0
    obtain ⟨f1, x1, h1⟩ := hf 1 _ rfl
    obtain ⟨a1, e1, k1⟩ := (opn_slice (β := Tk) (size := 2) Tryd.underlying39 (by kernel_rfl) (by decide) opn_Tk) _ _ _ h1
    replace e1 : p1 = _ := e1
    obtain ⟨f2, x2, h2⟩ := hf 2 _ rfl
    obtain ⟨a2, e2, k2⟩ := (opn_i64 Tryd.underlying2) _ _ _ h2
    replace e2 : p2 = _ := e2
    obtain ⟨f3, x3, h3⟩ := hf 3 _ rfl
    obtain ⟨a3, e3, k3⟩ := (opn_i64 Tryd.underlying2) _ _ _ h3
    replace e3 : p3 = _ := e3
    obtain ⟨f4, x4, h4⟩ := hf 4 _ rfl
    obtain ⟨a4, e4, k4⟩ := (opn_slice (β := Tr) (size := 3) Tryd.underlying40 (by kernel_rfl) (by decide) opn_Tr) _ _ _ h4
    replace e4 : p4 = _ := e4
    obtain ⟨f5, x5, h5⟩ := hf 5 _ rfl
    obtain ⟨a5, e5, k5⟩ := (opn_i64 Tryd.underlying3) _ _ _ h5
    replace e5 : p5 = _ := e5
    obtain ⟨f6, x6, h6⟩ := hf 6 _ rfl
    obtain ⟨a6, e6, k6⟩ := (opn_i64 Tryd.underlying3) _ _ _ h6
    replace e6 : p6 = _ := e6
    obtain ⟨f7, x7, h7⟩ := hf 7 _ rfl
    obtain ⟨a7, e7, k7⟩ := (opn_i64 Tryd.underlying3) _ _ _ h7
    replace e7 : p7 = _ := e7
    obtain ⟨f8, x8, h8⟩ := hf 8 _ rfl
    obtain ⟨a8, e8, k8⟩ := (opn_i64 Tryd.underlying3) _ _ _ h8
    replace e8 : p8 = _ := e8
    subst e0 e1 e2 e3 e4 e5 e6 e7 e8
    exact ⟨⟨a0, a1, a2, a3, a4, a5, a6, a7, a8⟩, by simp [RuV.cells, Sl.cells], ⟨k0, k1, k2, k3, k4, k5, k6, k7, k8⟩⟩
/-- may a tick table be? -/
def TickP (l : List Tk) (i : Nat) : Prop := 1 ≤ (l.getD i default).size ∧ (l.getD i default).size ≤ 1099511627776 ∧ (l.getD i default).frm ≤ 1099511627776 ∧ (0 < i → (l.getD (i - 1) default).frm < (l.getD i default).frm)
def GoodT (l : List Tk) : Prop := 1 ≤ l.length ∧ l.length ≤ 8 ∧ (l.getD 0 default).frm = 0 ∧ ∀ i, i < l.length → TickP l i
instance (l : List Tk) (i : Nat) : Decidable (TickP l i) := by unfold TickP; infer_instance
instance (l : List Tk) : Decidable (GoodT l) := by unfold GoodT; infer_instance
/-- may a fee table be? -/
def TierP (l : List Tr) (i : Nat) : Prop := (l.getD i default).frm ≤ 4611686018427387904 ∧ (0 ≤ (l.getD i default).maker ∧ (l.getD i default).maker ≤ 100000) ∧ (0 ≤ (l.getD i default).taker ∧ (l.getD i default).taker ≤ 100000) ∧ (0 < i → (l.getD (i - 1) default).frm < (l.getD i default).frm)
def GoodF (l : List Tr) : Prop := 1 ≤ l.length ∧ l.length ≤ 8 ∧ (l.getD 0 default).frm = 0 ∧ ∀ i, i < l.length → TierP l i
instance (l : List Tr) (i : Nat) : Decidable (TierP l i) := by unfold TierP; infer_instance
instance (l : List Tr) : Decidable (GoodF l) := by unfold GoodF; infer_instance
theorem tk_zero {e : Tk} (h : (!decide (e.ints = (⟨0, e.size⟩ : Tk).ints)) = true) : e.frm ≠ 0 := by
  intro h0
  have : e.ints = (⟨0, e.size⟩ : Tk).ints := by unfold Tk.ints; rw [h0]
  rw [decide_eq_true this] at h
  cases h
theorem tk_zero' {e : Tk} (h : (!decide (e.ints = (⟨0, e.size⟩ : Tk).ints)) = false) : e.frm = 0 := by
  have h1 : decide (e.ints = (⟨0, e.size⟩ : Tk).ints) = true := by simpa using h
  have h2 := of_decide_eq_true h1
  unfold Tk.ints at h2
  simp only [List.cons.injEq] at h2
  exact h2.1
theorem tr_zero {e : Tr} (h : (!decide (e.ints = (⟨0, e.maker, e.taker⟩ : Tr).ints)) = true) : e.frm ≠ 0 := by
  intro h0
  have : e.ints = (⟨0, e.maker, e.taker⟩ : Tr).ints := by unfold Tr.ints; rw [h0]
  rw [decide_eq_true this] at h
  cases h
theorem tr_zero' {e : Tr} (h : (!decide (e.ints = (⟨0, e.maker, e.taker⟩ : Tr).ints)) = false) : e.frm = 0 := by
  have h1 : decide (e.ints = (⟨0, e.maker, e.taker⟩ : Tr).ints) = true := by simpa using h
  have h2 := of_decide_eq_true h1
  unfold Tr.ints at h2
  simp only [List.cons.injEq] at h2
  exact h2.1
def ModesP (x : RuV) : Prop := (1 ≤ x.round ∧ x.round ≤ 3) ∧ (1 ≤ x.priority ∧ x.priority ≤ 2) ∧ (1 ≤ x.self ∧ x.self ≤ 4) ∧ (1 ≤ x.layout ∧ x.layout ≤ 2)
instance (x : RuV) : Decidable (ModesP x) := by unfold ModesP; infer_instance
/-- what is wrong with a rule set first, and who finds it -/
def chk (x : RuV) : Int × Int :=
  if ¬ (1 ≤ x.version ∧ x.version ≤ 32) then (60, 9) else if ¬ GoodT x.ticks.l then (43, 6) else if ¬ (1 ≤ x.lot ∧ x.lot ≤ 1099511627776 ∧ 0 ≤ x.band ∧ x.band ≤ 1000000) then (2, 9)
  else if ¬ GoodF x.fees.l then (43, 8) else if ¬ ModesP x then (43, 9) else (0, 0)
def goodR (x : RuV) : Bool := decide ((chk x).1 = 0)
theorem chk_1 {x : RuV} (h : ¬ (1 ≤ x.version ∧ x.version ≤ 32)) : chk x = (60, 9) := by unfold chk; rw [if_pos h]
theorem chk_2 {x : RuV} (h1 : 1 ≤ x.version ∧ x.version ≤ 32) (h : ¬ GoodT x.ticks.l) : chk x = (43, 6) := by unfold chk; rw [if_neg (not_not_intro h1), if_pos h]
theorem chk_3 {x : RuV} (h1 : 1 ≤ x.version ∧ x.version ≤ 32) (h2 : GoodT x.ticks.l) (h : ¬ (1 ≤ x.lot ∧ x.lot ≤ 1099511627776 ∧ 0 ≤ x.band ∧ x.band ≤ 1000000)) : chk x = (2, 9) := by unfold chk; rw [if_neg (not_not_intro h1), if_neg (not_not_intro h2), if_pos h]
theorem chk_4 {x : RuV} (h1 : 1 ≤ x.version ∧ x.version ≤ 32) (h2 : GoodT x.ticks.l) (h3 : 1 ≤ x.lot ∧ x.lot ≤ 1099511627776 ∧ 0 ≤ x.band ∧ x.band ≤ 1000000) (h : ¬ GoodF x.fees.l) : chk x = (43, 8) := by
  unfold chk; rw [if_neg (not_not_intro h1), if_neg (not_not_intro h2), if_neg (not_not_intro h3), if_pos h]
theorem chk_5 {x : RuV} (h1 : 1 ≤ x.version ∧ x.version ≤ 32) (h2 : GoodT x.ticks.l) (h3 : 1 ≤ x.lot ∧ x.lot ≤ 1099511627776 ∧ 0 ≤ x.band ∧ x.band ≤ 1000000) (h4 : GoodF x.fees.l) (h : ¬ ModesP x) : chk x = (43, 9) := by
  unfold chk; rw [if_neg (not_not_intro h1), if_neg (not_not_intro h2), if_neg (not_not_intro h3), if_neg (not_not_intro h4), if_pos h]
theorem chk_6 {x : RuV} (h1 : 1 ≤ x.version ∧ x.version ≤ 32) (h2 : GoodT x.ticks.l) (h3 : 1 ≤ x.lot ∧ x.lot ≤ 1099511627776 ∧ 0 ≤ x.band ∧ x.band ≤ 1000000) (h4 : GoodF x.fees.l) (h5 : ModesP x) : chk x = (0, 0) := by
  unfold chk; rw [if_neg (not_not_intro h1), if_neg (not_not_intro h2), if_neg (not_not_intro h3), if_neg (not_not_intro h4), if_neg (not_not_intro h5)]
theorem goodR_iff {x : RuV} : goodR x = true ↔ (1 ≤ x.version ∧ x.version ≤ 32) ∧ GoodT x.ticks.l ∧ (1 ≤ x.lot ∧ x.lot ≤ 1099511627776 ∧ 0 ≤ x.band ∧ x.band ≤ 1000000) ∧ GoodF x.fees.l ∧ ModesP x := by
  unfold goodR
  rw [decide_eq_true_eq]
  by_cases h1 : 1 ≤ x.version ∧ x.version ≤ 32
  · by_cases h2 : GoodT x.ticks.l
    · by_cases h3 : 1 ≤ x.lot ∧ x.lot ≤ 1099511627776 ∧ 0 ≤ x.band ∧ x.band ≤ 1000000
      · by_cases h4 : GoodF x.fees.l
        · by_cases h5 : ModesP x
          · rw [chk_6 h1 h2 h3 h4 h5]; exact ⟨fun _ => ⟨h1, h2, h3, h4, h5⟩, fun _ => rfl⟩
          · rw [chk_5 h1 h2 h3 h4 h5]; exact ⟨(fun h => by cases h), fun h => absurd h.2.2.2.2 h5⟩
        · rw [chk_4 h1 h2 h3 h4]; exact ⟨(fun h => by cases h), fun h => absurd h.2.2.2.1 h4⟩
      · rw [chk_3 h1 h2 h3]; exact ⟨(fun h => by cases h), fun h => absurd h.2.2.1 h3⟩
    · rw [chk_2 h1 h2]; exact ⟨(fun h => by cases h), fun h => absurd h.2.1 h2⟩
  · rw [chk_1 h1]; exact ⟨(fun h => by cases h), fun h => absurd h.1 h1⟩
theorem dnot {p : Prop} [Decidable p] (h : (!decide p) = true) : ¬ p := by simpa using h
theorem bnt {b : Bool} (h : (!b) = true) : b = false := by simpa using h
theorem bnf {b : Bool} (h : (!b) = false) : b = true := by simpa using h
theorem bnf' {b : Bool} (h : (!b) = false) : b = true := by simpa using h
/-- a rule set that reads in a world -/
structure RuV.Gd (w : World) (x : RuV) : Prop where
  version : -9223372036854775808 ≤ x.version ∧ x.version ≤ 9223372036854775807
  lot : -9223372036854775808 ≤ x.lot ∧ x.lot ≤ 9223372036854775807
  band : -9223372036854775808 ≤ x.band ∧ x.band ≤ 9223372036854775807
  round : -9223372036854775808 ≤ x.round ∧ x.round ≤ 9223372036854775807
  priority : -9223372036854775808 ≤ x.priority ∧ x.priority ≤ 9223372036854775807
  self : -9223372036854775808 ≤ x.self ∧ x.self ≤ 9223372036854775807
  layout : -9223372036854775808 ≤ x.layout ∧ x.layout ≤ 9223372036854775807
  trd : RdTk w x.ticks.A x.ticks.l
  tin : ∀ e ∈ x.ticks.l, e.In
  tle : x.ticks.l.length ≤ 1000000
  frd : RdTr w x.fees.A x.fees.l
  fin : ∀ e ∈ x.fees.l, e.In
  fle : x.fees.l.length ≤ 1000000
theorem RuV.Gd.st {W w : World} {Q : List Asn} {x : RuV} (h : x.Gd W) (hS : St W w Q) : x.Gd w := { h with trd := Rd.st h.trd hS, frd := Rd.st h.frd hS }
theorem RuV.Ok.gd {W : World} {x : RuV} (h : x.Ok W) (h1 : x.ticks.l.length ≤ 1000000) (h2 : x.fees.l.length ≤ 1000000) : x.Gd W where
  version := h.version
  lot := h.lot
  band := h.band
  round := h.round
  priority := h.priority
  self := h.self
  layout := h.layout
  trd := h.ticks.rd
  tin := fun e he => (h.ticks.el e he).in
  tle := h1
  frd := h.fees.rd
  fin := fun e he => (h.fees.el e he).in
  fle := h2
attribute [local irreducible] blkA rowA
end Go.Proofs.YtcgagmojgjbfpaaDoor
