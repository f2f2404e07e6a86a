/- Registries as bytes: plain. -/
import Derived.Test.YtmgobaojioaioaaWa
import Derived.Test.YtmgobaojioaioaaUe
namespace Go.Proofs.Ytmgobaojioaioaa
open Go Go.RowKit Go.Lib
variable {W : World}
attribute [local irreducible] Rs.nat Rs.int q0 q1 q2 q3 q4 q5 q6 q7 q8 q9 q10 goodR ruB
def ruN (s : Rs) : RuV := nf (ruT s none 0 none 0)
def gN (s : Rs) : Nat := (s.nat 16).1
structure Gk where
  s : Rs
  last : Int
  M : List RuV
def Gk.good (q : Gk) : Bool := ruOk q.s && decide (q.last < (ruN q.s).version)
def Gk.next (q : Gk) : Gk := ⟨ruS q.s, (ruN q.s).version, q.M ++ [ruN q.s]⟩
structure GkOk (s : Rs) (k : Nat) (q : Gk) : Prop where
  reg : ∀ r ∈ q.M, goodR r = true ∧ nf r = r ∧ r.version ≤ q.last
  srt : Srt q.M
  cnt : q.M.length = k
  low : 0 ≤ q.last
  zero : k = 0 → q.last = 0
  top : 0 < k → (q.M.getD (k - 1) default).version = q.last
  bytes : q.s.bad = false → s.left = enc (gN s) ++ (q.M.flatMap ruB ++ q.s.left) ∧ s.bad = false
theorem GkOk.good {s : Rs} {k : Nat} {q : Gk} (h : GkOk s k q) (hk : k ≤ 16) : GReg q.M := ⟨h.srt, fun r hr => (h.reg r hr).1, by rw [h.cnt]; exact hk, fun r hr => (h.reg r hr).2.1⟩
end Go.Proofs.Ytmgobaojioaioaa
