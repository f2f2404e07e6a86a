/- Registries: light, like. -/
import Derived.Test.YtmgobaojioaioaaWc
import Derived.Test.YtmgobaojioaioaaWe
import Derived.Test.YtmgobaojioaioaaWb
import Derived.Test.YtmgobaojioaioaaWf
import Derived.Test.YtmgobaojioaioaaVk
namespace Go.Proofs.Ytmgobaojioaioaa
open Go Go.RowKit Go.Lib
variable {W : World}
structure OpG where
  kind : Int
  v : Int
  r : RuV
instance : Inhabited OpG := ⟨⟨0, 0, default⟩⟩
def OpG.cells (x : OpG) : List Value := [.int .i64 x.kind, .int .i64 x.v] ++ (RuV.cells x.r)
structure OpG.Ok (w : World) (x : OpG) : Prop where
  kind : -9223372036854775808 ≤ x.kind ∧ x.kind ≤ 9223372036854775807
  v : -9223372036854775808 ≤ x.v ∧ x.v ≤ 9223372036854775807
  r : (RuV.Ok w) x.r
attribute [local irreducible] blkA rowA rdsA mapA regA
end Go.Proofs.Ytmgobaojioaioaa
