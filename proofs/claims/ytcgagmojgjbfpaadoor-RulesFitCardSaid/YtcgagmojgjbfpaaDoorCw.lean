/- The codec's writer and reader, and the reference's: what each call of them does. -/
import Derived.Test.YtcgagmojgjbfpaaDoorW4
import Derived.Test.YtcgagmojgjbfpaaDoorEnc
import Derived.Test.YtcgagmojgjbfpaaDoorProg
namespace Go.Proofs.YtcgagmojgjbfpaaDoor
open Go Go.RowKit Go.Lib
variable {W : World}
def ints (ns : List Int) : List UInt8 := ns.flatMap fun n => enc (zig n)
-- Flag_calls: no such function here
-- Text_calls: no such function here
-- rEnd: no such function here
-- qEnd: no such function here
end Go.Proofs.YtcgagmojgjbfpaaDoor
