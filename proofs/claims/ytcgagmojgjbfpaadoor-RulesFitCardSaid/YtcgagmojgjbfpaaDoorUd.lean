/- Rule sets: when two are the same; copies. -/
import Derived.Test.YtcgagmojgjbfpaaDoorUc
import Derived.Test.YtcgagmojgjbfpaaDoorR
namespace Go.Proofs.YtcgagmojgjbfpaaDoor
open Go Go.RowKit Go.Lib
variable {W : World}
attribute [local irreducible] blkA rowA
def RuV.own (x : RuV) (A : Option Addr) (c : Nat) (B : Option Addr) (d : Nat) : RuV := { x with ticks := ⟨A, c, x.ticks.l⟩, fees := ⟨B, d, x.fees.l⟩ }
theorem RuV.Gd.own {w : World} {x : RuV} {A B : Option Addr} {c d : Nat} (h : x.Gd W) (h1 : RdTk w A x.ticks.l) (h2 : RdTr w B x.fees.l) : (x.own A c B d).Gd w := ⟨h.version, h.lot, h.band, h.round, h.priority, h.self, h.layout, h1, h.tin, h.tle, h2, h.fin, h.fle⟩
end Go.Proofs.YtcgagmojgjbfpaaDoor
