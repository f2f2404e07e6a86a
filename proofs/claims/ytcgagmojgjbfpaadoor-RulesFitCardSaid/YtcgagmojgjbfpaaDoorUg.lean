/- Rule sets read from bytes. -/
import Derived.Test.YtcgagmojgjbfpaaDoorUd
import Derived.Test.YtcgagmojgjbfpaaDoorCw
namespace Go.Proofs.YtcgagmojgjbfpaaDoor
open Go Go.RowKit Go.Lib
variable {W : World}
/-- what is read of a rule set, step by step -/
def tkR (s : Rs) : Tk × Rs := (⟨s.int.1, s.int.2.int.1⟩, s.int.2.int.2)
def tkk (s : Rs) : Nat → List Tk × Rs
  | 0 => ([], s)
  | k + 1 => ((tkk s k).1 ++ [(tkR (tkk s k).2).1], (tkR (tkk s k).2).2)
def q0 (s : Rs) : Int × Rs := s.int
def q1 (s : Rs) : Nat × Rs := (q0 s).2.nat 8
def q2 (s : Rs) : List Tk × Rs := tkk (q1 s).2 (q1 s).1
def q3 (s : Rs) : Int × Rs := (q2 s).2.int
def q4 (s : Rs) : Int × Rs := (q3 s).2.int
def q5 (s : Rs) : Nat × Rs := (q4 s).2.nat 8
section
attribute [local irreducible] q0 q1 q2 q3 q4 q5
end
attribute [local irreducible] blkA rowA Rs.nat Rs.int
end Go.Proofs.YtcgagmojgjbfpaaDoor
