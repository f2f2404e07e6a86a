/- Faults in memory of the call's own; errors.Is over a chain of faults. -/
import Derived.Test.YtcgagmojgjbfpaaDoorDc
namespace Go.Proofs.YtcgagmojgjbfpaaDoor
open Go Go.RowKit Go.Lib Go.Extern Go.Extern.ReflectliteType
variable {W : World}
/-- an error that is this chain of faults, the outermost first: layer and number -/
def ErrB (ls : List (Nat × List Value)) : Value → List (Int × Int) → Prop
  | v, [] => v = .nilIface
  | v, (l, c) :: F => ∃ g e, v = .iface 35 (.pointer (some ⟨g, 0, none⟩)) ∧ (g, fcs l c e) ∈ ls ∧ ErrB ls e F
theorem ErrB.mono {ls ls' : List (Nat × List Value)} (hs : ∀ p ∈ ls, p ∈ ls') : ∀ {F : List (Int × Int)} {v : Value}, ErrB ls v F → ErrB ls' v F
  | [], _, h => h
  | _ :: _, _, ⟨g, e, h1, h2, h3⟩ => ⟨g, e, h1, hs _ h2, h3.mono hs⟩
theorem ErrB.nil {ls : List (Nat × List Value)} {F : List (Int × Int)} (h : ErrB ls .nilIface F) : F = [] := by
  cases F with
  | nil => rfl
  | cons a F => obtain ⟨g, e, h1, _⟩ := h; cases h1
theorem ErrB.if {ls : List (Nat × List Value)} {F : List (Int × Int)} {v : Value} (h : ErrB ls v F) : IsIf v := by
  cases F with
  | nil => exact .inl h
  | cons a F => obtain ⟨g, e, h1, _⟩ := h; exact .inr ⟨_, _, h1⟩
theorem ErrB.isNil {ls : List (Nat × List Value)} {F : List (Int × Int)} {v : Value} (h : ErrB ls v F) : isNilI v = decide (F = []) := by
  cases F with
  | nil => obtain rfl : v = .nilIface := h; rfl
  | cons a F => obtain ⟨g, e, rfl, _⟩ := h; rfl
section
variable {ρ : Env} {w : World}
end
attribute [local irreducible] blkA rowA rdsA
end Go.Proofs.YtcgagmojgjbfpaaDoor
