/- Rule sets: which may be: the document's. -/
import Derived.Test.YtcgagmojgjbfpaaDoorUb
namespace Go.Proofs.YtcgagmojgjbfpaaDoor
open Go Go.RowKit Go.Lib
variable {W : World}
/-- what a rule set tells -/
structure Ru where
  version : Int
  ticks : List (List Int)
  lot : Int
  band : Int
  fees : List (List Int)
  round : Int
  priority : Int
  self : Int
  layout : Int
deriving DecidableEq
def RuV.vw (x : RuV) : Ru := ⟨x.version, x.ticks.l.map Tk.ints, x.lot, x.band, x.fees.l.map Tr.ints, x.round, x.priority, x.self, x.layout⟩
theorem ru_iff {x y : RuV} : x.vw = y.vw ↔ (x.version = y.version ∧ x.ticks.l.map Tk.ints = y.ticks.l.map Tk.ints ∧ x.lot = y.lot ∧ x.band = y.band ∧ x.fees.l.map Tr.ints = y.fees.l.map Tr.ints ∧ x.round = y.round ∧ x.priority = y.priority ∧ x.self = y.self ∧ x.layout = y.layout) := by
  unfold RuV.vw
  rw [Ru.mk.injEq]
attribute [local irreducible] blkA rowA
end Go.Proofs.YtcgagmojgjbfpaaDoor
