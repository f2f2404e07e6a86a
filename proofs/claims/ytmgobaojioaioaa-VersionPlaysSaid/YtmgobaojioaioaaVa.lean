/- Commands: plain; what a kind has. -/
import Derived.Test.YtmgobaojioaioaaUg
import Derived.Test.YtmgobaojioaioaaUc
import Derived.Test.YtmgobaojioaioaaDr
import Derived.Test.YtmgobaojioaioaaMk
namespace Go.Proofs.Ytmgobaojioaioaa
open Go Go.RowKit Go.Lib
variable {W : World}
structure CmdV where
  kind : Int
  client : Int
  req : Int
  account : Int
  id : Int
  side : Int
  typ : Int
  asset : Int
  price : Int
  qty : Int
  version : Int
  replica : Int
  at_ : Int
  rules : RuV
instance : Inhabited CmdV := ⟨⟨0, 0, 0, 0, 0, 0, 0, 0, 0, 0, 0, 0, 0, default⟩⟩
def CmdV.cells (x : CmdV) : List Value := [.int .i64 x.kind, .int .u64 x.client, .int .u64 x.req, .int .i64 x.account, .int .u64 x.id, .int .i64 x.side, .int .i64 x.typ, .int .i64 x.asset, .int .i64 x.price, .int .i64 x.qty, .int .i64 x.version, .int .i64 x.replica, .int .u64 x.at_] ++ (RuV.cells x.rules)
structure CmdV.Ok (w : World) (x : CmdV) : Prop where
  kind : -9223372036854775808 ≤ x.kind ∧ x.kind ≤ 9223372036854775807
  client : 0 ≤ x.client ∧ x.client < 18446744073709551616
  req : 0 ≤ x.req ∧ x.req < 18446744073709551616
  account : -9223372036854775808 ≤ x.account ∧ x.account ≤ 9223372036854775807
  id : 0 ≤ x.id ∧ x.id < 18446744073709551616
  side : -9223372036854775808 ≤ x.side ∧ x.side ≤ 9223372036854775807
  typ : -9223372036854775808 ≤ x.typ ∧ x.typ ≤ 9223372036854775807
  asset : -9223372036854775808 ≤ x.asset ∧ x.asset ≤ 9223372036854775807
  price : -9223372036854775808 ≤ x.price ∧ x.price ≤ 9223372036854775807
  qty : -9223372036854775808 ≤ x.qty ∧ x.qty ≤ 9223372036854775807
  version : -9223372036854775808 ≤ x.version ∧ x.version ≤ 9223372036854775807
  replica : -9223372036854775808 ≤ x.replica ∧ x.replica ≤ 9223372036854775807
  at_ : 0 ≤ x.at_ ∧ x.at_ < 18446744073709551616
  rules : (RuV.Ok w) x.rules
set_option maxRecDepth 100000 in
theorem opn_CmdV {H : Type} {enc : TypeId × Value → H} {w : World} : Opn enc Try.prog w 49 CmdV.cells (CmdV.Ok w) := fun _ _ _ h => by
  obtain ⟨parts, rfl, hl, hf⟩ := opn_parts Try.underlying49 (by kernel_rfl) (by kernel_rfl) h
  match parts, hl with
  | [p0, p1, p2, p3, p4, p5, p6, p7, p8, p9, p10, p11, p12, p13], _ =>
    obtain ⟨f0, x0, h0⟩ := hf 0 _ rfl
    obtain ⟨a0, e0, k0⟩ := (opn_i64 Try.underlying3) _ _ _ h0
    replace e0 : p0 = _ := e0
    obtain ⟨f1, x1, h1⟩ := hf 1 _ rfl
    obtain ⟨a1, e1, k1⟩ := (opn_u64 Try.underlying26) _ _ _ h1
    replace e1 : p1 = _ := e1
    obtain ⟨f2, x2, h2⟩ := hf 2 _ rfl
    obtain ⟨a2, e2, k2⟩ := (opn_u64 Try.underlying26) _ _ _ h2
    replace e2 : p2 = _ := e2
    obtain ⟨f3, x3, h3⟩ := hf 3 _ rfl
    obtain ⟨a3, e3, k3⟩ := (opn_i64 Try.underlying3) _ _ _ h3
    replace e3 : p3 = _ := e3
    obtain ⟨f4, x4, h4⟩ := hf 4 _ rfl
    obtain ⟨a4, e4, k4⟩ := (opn_u64 Try.underlying26) _ _ _ h4
    replace e4 : p4 = _ := e4
    obtain ⟨f5, x5, h5⟩ := hf 5 _ rfl
    obtain ⟨a5, e5, k5⟩ := (opn_i64 Try.underlying3) _ _ _ h5
    replace e5 : p5 = _ := e5
    obtain ⟨f6, x6, h6⟩ := hf 6 _ rfl
    obtain ⟨a6, e6, k6⟩ := (opn_i64 Try.underlying3) _ _ _ h6
    replace e6 : p6 = _ := e6
    obtain ⟨f7, x7, h7⟩ := hf 7 _ rfl
    obtain ⟨a7, e7, k7⟩ := (opn_i64 Try.underlying3) _ _ _ h7
    replace e7 : p7 = _ := e7
    obtain ⟨f8, x8, h8⟩ := hf 8 _ rfl
    obtain ⟨a8, e8, k8⟩ := (opn_i64 Try.underlying2) _ _ _ h8
    replace e8 : p8 = _ := e8
    obtain ⟨f9, x9, h9⟩ := hf 9 _ rfl
    obtain ⟨a9, e9, k9⟩ := (opn_i64 Try.underlying2) _ _ _ h9
    replace e9 : p9 = _ := e9
    obtain ⟨f10, x10, h10⟩ := hf 10 _ rfl
    obtain ⟨a10, e10, k10⟩ := (opn_i64 Try.underlying3) _ _ _ h10
    replace e10 : p10 = _ := e10
    obtain ⟨f11, x11, h11⟩ := hf 11 _ rfl
    obtain ⟨a11, e11, k11⟩ := (opn_i64 Try.underlying3) _ _ _ h11
    replace e11 : p11 = _ := e11
    obtain ⟨f12, x12, h12⟩ := hf 12 _ rfl
    obtain ⟨a12, e12, k12⟩ := (opn_u64 Try.underlying26) _ _ _ h12
    replace e12 : p12 = _ := e12
    obtain ⟨f13, x13, h13⟩ := hf 13 _ rfl
    obtain ⟨a13, e13, k13⟩ := opn_RuV _ _ _ h13
    replace e13 : p13 = _ := e13
    subst e0 e1 e2 e3 e4 e5 e6 e7 e8 e9 e10 e11 e12 e13
    exact ⟨⟨a0, a1, a2, a3, a4, a5, a6, a7, a8, a9, a10, a11, a12, a13⟩, by simp [CmdV.cells], ⟨k0, k1, k2, k3, k4, k5, k6, k7, k8, k9, k10, k11, k12, k13⟩⟩
/-- what a command tells -/
structure Cm where
  kind : Int
  client : Int
  req : Int
  account : Int
  id : Int
  side : Int
  typ : Int
  asset : Int
  price : Int
  qty : Int
  version : Int
  replica : Int
  at_ : Int
  rules : Ru
deriving DecidableEq
def CmdV.vw (x : CmdV) : Cm := ⟨x.kind, x.client, x.req, x.account, x.id, x.side, x.typ, x.asset, x.price, x.qty, x.version, x.replica, x.at_, x.rules.vw⟩
structure CmdV.Gd (w : World) (x : CmdV) : Prop where
  kind : -9223372036854775808 ≤ x.kind ∧ x.kind ≤ 9223372036854775807
  client : 0 ≤ x.client ∧ x.client < 18446744073709551616
  req : 0 ≤ x.req ∧ x.req < 18446744073709551616
  account : -9223372036854775808 ≤ x.account ∧ x.account ≤ 9223372036854775807
  id : 0 ≤ x.id ∧ x.id < 18446744073709551616
  side : -9223372036854775808 ≤ x.side ∧ x.side ≤ 9223372036854775807
  typ : -9223372036854775808 ≤ x.typ ∧ x.typ ≤ 9223372036854775807
  asset : -9223372036854775808 ≤ x.asset ∧ x.asset ≤ 9223372036854775807
  price : -9223372036854775808 ≤ x.price ∧ x.price ≤ 9223372036854775807
  qty : -9223372036854775808 ≤ x.qty ∧ x.qty ≤ 9223372036854775807
  version : -9223372036854775808 ≤ x.version ∧ x.version ≤ 9223372036854775807
  replica : -9223372036854775808 ≤ x.replica ∧ x.replica ≤ 9223372036854775807
  at_ : 0 ≤ x.at_ ∧ x.at_ < 18446744073709551616
  rules : x.rules.Gd w
theorem CmdV.Gd.st {W w : World} {Q : List Asn} {x : CmdV} (h : x.Gd W) (hS : St W w Q) : x.Gd w := { h with rules := h.rules.st hS }
theorem CmdV.Ok.gd {W : World} {x : CmdV} (h : x.Ok W) (h1 : x.rules.ticks.l.length ≤ 1000000) (h2 : x.rules.fees.l.length ≤ 1000000) : x.Gd W := ⟨h.kind, h.client, h.req, h.account, h.id, h.side, h.typ, h.asset, h.price, h.qty, h.version, h.replica, h.at_, h.rules.gd h1 h2⟩
theorem setN_at : ∀ (vs pre cs : List Value), cs.length = vs.length → setN (pre ++ cs) pre.length vs = pre ++ vs
  | [], pre, cs, h => by rw [List.eq_nil_of_length_eq_zero h]; rfl
  | v :: vs, pre, [], h => by cases h
  | v :: vs, pre, c :: cs, h => by
    rw [setN, List.set_append_right _ _ (Nat.le_refl _), Nat.sub_self, List.set_cons_zero]
    have ih := setN_at vs (pre ++ [v]) cs (by simpa using h)
    rw [List.length_append, List.append_assoc, List.append_assoc] at ih
    exact ih
theorem setN_full {vs cs : List Value} (h : cs.length = vs.length) : setN cs 0 vs = vs := setN_at vs [] cs h
theorem cmd_len (x : CmdV) : x.cells.length = 22 := by simp [CmdV.cells, RuV.cells, Sl.cells]
attribute [local irreducible] blkA rowA
end Go.Proofs.Ytmgobaojioaioaa
