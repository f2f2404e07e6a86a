/- Codec: general lemmas. -/
import Derived.Test.YtcgagmojgjbfpaaDoorW4
import Derived.Test.YtcgagmojgjbfpaaDoorEnc
import Derived.Test.YtcgagmojgjbfpaaDoorProg
import Derived.Test.YtcgagmojgjbfpaaDoorOp
namespace Go.Proofs.YtcgagmojgjbfpaaDoor
open Go Go.RowKit Go.Lib
theorem getD_mem {α : Type} {l : List α} {j : Nat} {d : α} (h : j < l.length) : l.getD j d ∈ l := by
  rw [List.getD_eq_getElem?_getD, List.getElem?_eq_getElem h]; exact List.getElem_mem h
end Go.Proofs.YtcgagmojgjbfpaaDoor
