/- Registries: nobody. -/
import Derived.Test.YtmgobaojioaioaaWd
import Derived.Test.YtmgobaojioaioaaWf
namespace Go.Proofs.Ytmgobaojioaioaa
open Go Go.RowKit Go.Lib
variable {W : World}
def NoneP (w : World) (p : Option Addr) : Prop := p = none ∨ ∃ g, p = some ⟨g, 0, none⟩ ∧ g < w.heap.size ∧ w.cell? ⟨g, 0, none⟩ = some (.map none)
theorem NoneP.st {W w : World} {Q : List Asn} {p : Option Addr} (h : NoneP W p) (hS : St W w Q) : NoneP w p := by
  rcases h with h | ⟨g, h, hg, hc⟩
  · exact .inl h
  · refine .inr ⟨g, h, Nat.lt_of_lt_of_le hg hS.below.size, ?_⟩
    rw [← hc]
    unfold World.cell?
    rw [hS.below.block g hg]
attribute [local irreducible] blkA rowA rdsA mapA regA
end Go.Proofs.Ytmgobaojioaioaa
