/- Rule sets as bytes. -/
import Derived.Test.YtmgobaojioaioaaUd
import Derived.Test.YtmgobaojioaioaaCw
namespace Go.Proofs.Ytmgobaojioaioaa
open Go Go.RowKit Go.Lib
variable {W : World}
def tkB (e : Tk) : List UInt8 := enc (zig e.frm) ++ enc (zig e.size)
def trB (e : Tr) : List UInt8 := enc (zig e.frm) ++ (enc (zig e.maker) ++ enc (zig e.taker))
/-- a rule set's bytes -/
def ru1 (x : RuV) : List UInt8 := enc (zig x.version) ++ enc x.ticks.l.length
def ru2 (x : RuV) : List UInt8 := ru1 x ++ x.ticks.l.flatMap tkB
def ru3 (x : RuV) : List UInt8 := ru2 x ++ (enc (zig x.lot) ++ enc (zig x.band))
def ru4 (x : RuV) : List UInt8 := ru3 x ++ enc x.fees.l.length
def ru5 (x : RuV) : List UInt8 := ru4 x ++ x.fees.l.flatMap trB
def ruB (x : RuV) : List UInt8 := ru5 x ++ ints [x.round, x.priority, x.self, x.layout]
attribute [local irreducible] blkA rowA
end Go.Proofs.Ytmgobaojioaioaa
