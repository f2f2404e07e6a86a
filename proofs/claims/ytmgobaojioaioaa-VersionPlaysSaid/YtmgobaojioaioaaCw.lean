/- The codec's writer and reader, and the reference's: what each call of them does. -/
import Derived.Test.YtmgobaojioaioaaW4
import Derived.Test.YtmgobaojioaioaaEnc
import Derived.Test.YtmgobaojioaioaaProg
namespace Go.Proofs.Ytmgobaojioaioaa
open Go Go.RowKit Go.Lib
variable {W : World}
def ints (ns : List Int) : List UInt8 := ns.flatMap fun n => enc (zig n)
-- Flag_calls: no such function here
-- Text_calls: no such function here
end Go.Proofs.Ytmgobaojioaioaa
