/- Commands: plain; what a kind has. -/
import Derived.Test.YtmgobaojioaioaaUg
import Derived.Test.YtmgobaojioaioaaUc
import Derived.Test.YtmgobaojioaioaaDr
import Derived.Test.YtmgobaojioaioaaMk
namespace Go.Proofs.Ytmgobaojioaioaa
open Go Go.RowKit Go.Lib
variable {W : World}
structure CmdV where
  kind : Int
  client : Int
  req : Int
  account : Int
  id : Int
  side : Int
  typ : Int
  asset : Int
  price : Int
  qty : Int
  version : Int
  replica : Int
  at_ : Int
  rules : RuV
instance : Inhabited CmdV := ⟨⟨0, 0, 0, 0, 0, 0, 0, 0, 0, 0, 0, 0, 0, default⟩⟩
def CmdV.cells (x : CmdV) : List Value := [.int .i64 x.kind, .int .u64 x.client, .int .u64 x.req, .int .i64 x.account, .int .u64 x.id, .int .i64 x.side, .int .i64 x.typ, .int .i64 x.asset, .int .i64 x.price, .int .i64 x.qty, .int .i64 x.version, .int .i64 x.replica, .int .u64 x.at_] ++ (RuV.cells x.rules)
structure CmdV.Ok (w : World) (x : CmdV) : Prop where
  kind : -9223372036854775808 ≤ x.kind ∧ x.kind ≤ 9223372036854775807
  client : 0 ≤ x.client ∧ x.client < 18446744073709551616
  req : 0 ≤ x.req ∧ x.req < 18446744073709551616
  account : -9223372036854775808 ≤ x.account ∧ x.account ≤ 9223372036854775807
  id : 0 ≤ x.id ∧ x.id < 18446744073709551616
  side : -9223372036854775808 ≤ x.side ∧ x.side ≤ 9223372036854775807
  typ : -9223372036854775808 ≤ x.typ ∧ x.typ ≤ 9223372036854775807
  asset : -9223372036854775808 ≤ x.asset ∧ x.asset ≤ 9223372036854775807
  price : -9223372036854775808 ≤ x.price ∧ x.price ≤ 9223372036854775807
  qty : -9223372036854775808 ≤ x.qty ∧ x.qty ≤ 9223372036854775807
  version : -9223372036854775808 ≤ x.version ∧ x.version ≤ 9223372036854775807
  replica : -9223372036854775808 ≤ x.replica ∧ x.replica ≤ 9223372036854775807
  at_ : 0 ≤ x.at_ ∧ x.at_ < 18446744073709551616
  rules : (RuV.Ok w) x.rules
structure CmdV.Gd (w : World) (x : CmdV) : Prop where
  kind : -9223372036854775808 ≤ x.kind ∧ x.kind ≤ 9223372036854775807
  client : 0 ≤ x.client ∧ x.client < 18446744073709551616
  req : 0 ≤ x.req ∧ x.req < 18446744073709551616
  account : -9223372036854775808 ≤ x.account ∧ x.account ≤ 9223372036854775807
  id : 0 ≤ x.id ∧ x.id < 18446744073709551616
  side : -9223372036854775808 ≤ x.side ∧ x.side ≤ 9223372036854775807
  typ : -9223372036854775808 ≤ x.typ ∧ x.typ ≤ 9223372036854775807
  asset : -9223372036854775808 ≤ x.asset ∧ x.asset ≤ 9223372036854775807
  price : -9223372036854775808 ≤ x.price ∧ x.price ≤ 9223372036854775807
  qty : -9223372036854775808 ≤ x.qty ∧ x.qty ≤ 9223372036854775807
  version : -9223372036854775808 ≤ x.version ∧ x.version ≤ 9223372036854775807
  replica : -9223372036854775808 ≤ x.replica ∧ x.replica ≤ 9223372036854775807
  at_ : 0 ≤ x.at_ ∧ x.at_ < 18446744073709551616
  rules : x.rules.Gd w
theorem CmdV.Gd.st {W w : World} {Q : List Asn} {x : CmdV} (h : x.Gd W) (hS : St W w Q) : x.Gd w := { h with rules := h.rules.st hS }
theorem CmdV.Ok.gd {W : World} {x : CmdV} (h : x.Ok W) (h1 : x.rules.ticks.l.length ≤ 1000000) (h2 : x.rules.fees.l.length ≤ 1000000) : x.Gd W := ⟨h.kind, h.client, h.req, h.account, h.id, h.side, h.typ, h.asset, h.price, h.qty, h.version, h.replica, h.at_, h.rules.gd h1 h2⟩
attribute [local irreducible] blkA rowA
end Go.Proofs.Ytmgobaojioaioaa
