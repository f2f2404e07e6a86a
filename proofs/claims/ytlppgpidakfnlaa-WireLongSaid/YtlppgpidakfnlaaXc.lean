/- Messages: when two are the same, the document's; the program's as the document's. -/
import Derived.Test.YtlppgpidakfnlaaXa
namespace Go.Proofs.Ytlppgpidakfnlaa
open Go Go.RowKit Go.Lib
variable {W : World}
attribute [local irreducible] blkA rowA
def MsgV.own (x : MsgV) (A : Option Addr) (c : Nat) : MsgV := { x with entries := ⟨A, c, x.entries.l⟩ }
theorem MsgV.Gd.own {w : World} {x : MsgV} {A : Option Addr} {c : Nat} (h : x.Gd w) (hr : RdEn w A x.entries.l) : (x.own A c).Gd w := { h with erd := hr }
end Go.Proofs.Ytlppgpidakfnlaa
