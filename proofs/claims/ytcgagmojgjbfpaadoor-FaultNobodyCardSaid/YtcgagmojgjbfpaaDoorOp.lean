/- Arguments opened: what a reading of a type tells of its cells. -/
import Derived.Test.YtcgagmojgjbfpaaDoorW4
import Derived.Deep.Slices
import Derived.Deep.Fields
import Derived.ChangeSame
import Derived.Below
import Derived.ProofKit
namespace Go.Proofs.YtcgagmojgjbfpaaDoor
open Go Go.RowKit Go.WideShapes Go.ChangeShapes Go.Deep
section
variable {H : Type} {enc : TypeId × Value → H} {P : Program} {w : World} {t e : TypeId}
theorem wf_range {k : IntKind} {n : Int} (h : (Lit.int k n).wf = true) : (if k.signed then -(2 ^ (k.bits - 1) : Int) ≤ n ∧ n < 2 ^ (k.bits - 1) else 0 ≤ n ∧ n < 2 ^ k.bits) := by
  unfold Lit.wf at h
  cases k <;> simp_all [IntKind.min, IntKind.max, IntKind.bits, IntKind.signed] <;> omega
structure Sl (β : Type) where
  A : Option Addr
  c : Nat
  l : List β
instance {β : Type} : Inhabited (Sl β) := ⟨⟨none, 0, []⟩⟩
def Sl.cells {β : Type} (s : Sl β) : List Value := [.slice s.A s.l.length s.c]
structure Sl.Ok {β : Type} [Inhabited β] (size : Nat) (cells : β → List Value) (ok : β → Prop) (w : World) (s : Sl β) : Prop where
  rd : Rd w size s.A s.l.length (fun i => cells (s.l.getD i default))
  el : ∀ x ∈ s.l, ok x
  le : s.l.length ≤ s.c ∧ s.c ≤ 9223372036854775807
end
end Go.Proofs.YtcgagmojgjbfpaaDoor
