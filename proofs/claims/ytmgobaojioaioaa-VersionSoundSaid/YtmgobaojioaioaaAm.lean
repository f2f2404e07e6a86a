/- The document's table of acks: what its functions tell. -/
import Derived.Test.YtmgobaojioaioaaAl
namespace Go.Proofs.Ytmgobaojioaioaa
open Go Go.RowKit Go.Lib
variable {W : World}
def ackC (a : Int × Int) : List Value := [.int .i64 a.1, .int .i64 a.2]
def RdA (w : World) (A : Option Addr) (L : AckL) : Prop := Rd w 2 A L.length (fun i => ackC (L.getD i default))
theorem RdA.st {w : World} {Q : List Asn} {A : Option Addr} {L : AckL} (h : RdA W A L) (hS : St W w Q) : RdA w A L := Rd.st h hS
end Go.Proofs.Ytmgobaojioaioaa
