/- Rule sets: plain. -/
import Derived.Test.YtcgagmojgjbfpaaDoorOp
import Derived.Test.YtcgagmojgjbfpaaDoorQ
import Derived.Test.YtcgagmojgjbfpaaDoorIf
import Derived.Test.YtcgagmojgjbfpaaDoorCl
namespace Go.Proofs.YtcgagmojgjbfpaaDoor
open Go Go.RowKit Go.Lib
variable {W : World}
structure Tk where
  frm : Int
  size : Int
instance : Inhabited Tk := ⟨⟨0, 0⟩⟩
def Tk.cells (x : Tk) : List Value := [.int .i64 x.frm, .int .i64 x.size]
structure Tk.Ok (w : World) (x : Tk) : Prop where
  frm : -9223372036854775808 ≤ x.frm ∧ x.frm ≤ 9223372036854775807
  size : -9223372036854775808 ≤ x.size ∧ x.size ≤ 9223372036854775807
def Tk.In (e : Tk) : Prop := (-9223372036854775808 ≤ e.frm ∧ e.frm ≤ 9223372036854775807) ∧ (-9223372036854775808 ≤ e.size ∧ e.size ≤ 9223372036854775807)
theorem Tk.Ok.in {w : World} {e : Tk} (h : e.Ok w) : e.In := ⟨h.frm, h.size⟩
def RdTk (w : World) (A : Option Addr) (l : List Tk) : Prop := Rd w 2 A l.length (fun i => (l.getD i default).cells)
theorem RdTk.st {w : World} {Q : List Asn} {A : Option Addr} {l : List Tk} (h : RdTk W A l) (hS : St W w Q) : RdTk w A l := Rd.st h hS
structure Tr where
  frm : Int
  maker : Int
  taker : Int
instance : Inhabited Tr := ⟨⟨0, 0, 0⟩⟩
def Tr.cells (x : Tr) : List Value := [.int .i64 x.frm, .int .i64 x.maker, .int .i64 x.taker]
structure Tr.Ok (w : World) (x : Tr) : Prop where
  frm : -9223372036854775808 ≤ x.frm ∧ x.frm ≤ 9223372036854775807
  maker : -9223372036854775808 ≤ x.maker ∧ x.maker ≤ 9223372036854775807
  taker : -9223372036854775808 ≤ x.taker ∧ x.taker ≤ 9223372036854775807
def Tr.In (e : Tr) : Prop := (-9223372036854775808 ≤ e.frm ∧ e.frm ≤ 9223372036854775807) ∧ (-9223372036854775808 ≤ e.maker ∧ e.maker ≤ 9223372036854775807) ∧ (-9223372036854775808 ≤ e.taker ∧ e.taker ≤ 9223372036854775807)
theorem Tr.Ok.in {w : World} {e : Tr} (h : e.Ok w) : e.In := ⟨h.frm, h.maker, h.taker⟩
def RdTr (w : World) (A : Option Addr) (l : List Tr) : Prop := Rd w 3 A l.length (fun i => (l.getD i default).cells)
theorem RdTr.st {w : World} {Q : List Asn} {A : Option Addr} {l : List Tr} (h : RdTr W A l) (hS : St W w Q) : RdTr w A l := Rd.st h hS
structure RuV where
  version : Int
  ticks : Sl Tk
  lot : Int
  band : Int
  fees : Sl Tr
  round : Int
  priority : Int
  self : Int
  layout : Int
instance : Inhabited RuV := ⟨⟨0, default, 0, 0, default, 0, 0, 0, 0⟩⟩
def RuV.cells (x : RuV) : List Value := [.int .i64 x.version, .slice x.ticks.A x.ticks.l.length x.ticks.c, .int .i64 x.lot, .int .i64 x.band, .slice x.fees.A x.fees.l.length x.fees.c, .int .i64 x.round, .int .i64 x.priority, .int .i64 x.self, .int .i64 x.layout]
structure RuV.Ok (w : World) (x : RuV) : Prop where
  version : -9223372036854775808 ≤ x.version ∧ x.version ≤ 9223372036854775807
  ticks : (Sl.Ok 2 Tk.cells (Tk.Ok w) w) x.ticks
  lot : -9223372036854775808 ≤ x.lot ∧ x.lot ≤ 9223372036854775807
  band : -9223372036854775808 ≤ x.band ∧ x.band ≤ 9223372036854775807
  fees : (Sl.Ok 3 Tr.cells (Tr.Ok w) w) x.fees
  round : -9223372036854775808 ≤ x.round ∧ x.round ≤ 9223372036854775807
  priority : -9223372036854775808 ≤ x.priority ∧ x.priority ≤ 9223372036854775807
  self : -9223372036854775808 ≤ x.self ∧ x.self ≤ 9223372036854775807
  layout : -9223372036854775808 ≤ x.layout ∧ x.layout ≤ 9223372036854775807
/-- may a tick table be? -/
def TickP (l : List Tk) (i : Nat) : Prop := 1 ≤ (l.getD i default).size ∧ (l.getD i default).size ≤ 1099511627776 ∧ (l.getD i default).frm ≤ 1099511627776 ∧ (0 < i → (l.getD (i - 1) default).frm < (l.getD i default).frm)
def GoodT (l : List Tk) : Prop := 1 ≤ l.length ∧ l.length ≤ 8 ∧ (l.getD 0 default).frm = 0 ∧ ∀ i, i < l.length → TickP l i
instance (l : List Tk) (i : Nat) : Decidable (TickP l i) := by unfold TickP; infer_instance
instance (l : List Tk) : Decidable (GoodT l) := by unfold GoodT; infer_instance
/-- may a fee table be? -/
def TierP (l : List Tr) (i : Nat) : Prop := (l.getD i default).frm ≤ 4611686018427387904 ∧ (0 ≤ (l.getD i default).maker ∧ (l.getD i default).maker ≤ 100000) ∧ (0 ≤ (l.getD i default).taker ∧ (l.getD i default).taker ≤ 100000) ∧ (0 < i → (l.getD (i - 1) default).frm < (l.getD i default).frm)
def GoodF (l : List Tr) : Prop := 1 ≤ l.length ∧ l.length ≤ 8 ∧ (l.getD 0 default).frm = 0 ∧ ∀ i, i < l.length → TierP l i
instance (l : List Tr) (i : Nat) : Decidable (TierP l i) := by unfold TierP; infer_instance
instance (l : List Tr) : Decidable (GoodF l) := by unfold GoodF; infer_instance
def ModesP (x : RuV) : Prop := (1 ≤ x.round ∧ x.round ≤ 3) ∧ (1 ≤ x.priority ∧ x.priority ≤ 2) ∧ (1 ≤ x.self ∧ x.self ≤ 4) ∧ (1 ≤ x.layout ∧ x.layout ≤ 2)
instance (x : RuV) : Decidable (ModesP x) := by unfold ModesP; infer_instance
/-- a rule set that reads in a world -/
structure RuV.Gd (w : World) (x : RuV) : Prop where
  version : -9223372036854775808 ≤ x.version ∧ x.version ≤ 9223372036854775807
  lot : -9223372036854775808 ≤ x.lot ∧ x.lot ≤ 9223372036854775807
  band : -9223372036854775808 ≤ x.band ∧ x.band ≤ 9223372036854775807
  round : -9223372036854775808 ≤ x.round ∧ x.round ≤ 9223372036854775807
  priority : -9223372036854775808 ≤ x.priority ∧ x.priority ≤ 9223372036854775807
  self : -9223372036854775808 ≤ x.self ∧ x.self ≤ 9223372036854775807
  layout : -9223372036854775808 ≤ x.layout ∧ x.layout ≤ 9223372036854775807
  trd : RdTk w x.ticks.A x.ticks.l
  tin : ∀ e ∈ x.ticks.l, e.In
  tle : x.ticks.l.length ≤ 1000000
  frd : RdTr w x.fees.A x.fees.l
  fin : ∀ e ∈ x.fees.l, e.In
  fle : x.fees.l.length ≤ 1000000
theorem RuV.Gd.st {W w : World} {Q : List Asn} {x : RuV} (h : x.Gd W) (hS : St W w Q) : x.Gd w := { h with trd := Rd.st h.trd hS, frd := Rd.st h.frd hS }
theorem RuV.Ok.gd {W : World} {x : RuV} (h : x.Ok W) (h1 : x.ticks.l.length ≤ 1000000) (h2 : x.fees.l.length ≤ 1000000) : x.Gd W where
  version := h.version
  lot := h.lot
  band := h.band
  round := h.round
  priority := h.priority
  self := h.self
  layout := h.layout
  trd := h.ticks.rd
  tin := fun e he => (h.ticks.el e he).in
  tle := h1
  frd := h.fees.rd
  fin := fun e he => (h.fees.el e he).in
  fle := h2
attribute [local irreducible] blkA rowA
end Go.Proofs.YtcgagmojgjbfpaaDoor
