/- A range over a function: the caller's law; calls of yield. -/
import Derived.Test.YtlppgpidakfnlaaDr
import Derived.RangeFuncIn
import Derived.RangeFuncLeaves
import Derived.RangeFuncRecord
import Derived.RangeFuncSeq
namespace Go.Proofs.Ytlppgpidakfnlaa
open Go Go.RowKit Go.Lib
/-- an object of the call's own, of whatever kind -/
def objA (g : Nat) (o : Obj) : Asn where
  holds w F := F = [g] ∧ w.heap[g]? = some o
  loc w w' F h hk := ⟨h.1, (hk g (by rw [h.1]; simp)).trans h.2⟩
  lt w F h k hk := by
    rw [h.1] at hk
    have := List.mem_singleton.1 hk
    subst this
    rcases Nat.lt_or_ge k w.heap.size with hlt | hge
    · exact hlt
    · have h2 := h.2; rw [Array.getElem?_eq_none hge] at h2; cases h2
section
variable {W w : World} {L R : List Asn} {g : Nat} {o : Obj}
theorem St.newObj (h : St W w L) (o : Obj) : St W (w.alloc o) (objA w.heap.size o :: L) :=
  h.add (Fr.alloc _ _ _) (F := [w.heap.size]) ⟨rfl, World.alloc_heap_new w o⟩ (fun k hk => by have := List.mem_singleton.1 hk; omega)
end
section
variable {P : Program} {ds : List Nat} {ρ : Env} {w : World} {N : List Nat → Env → World → Prop} {X : Nat → List Nat → Env → World → Prop} {R : List Nat → Env → World → Prop}
end
section
variable {P : Program} {ds : List Nat} {ρ : Env} {W w : World} {N : List Nat → Env → World → Prop} {X : Nat → List Nat → Env → World → Prop} {R : List Nat → Env → World → Prop}
end
section
variable {P : Program} {all : Array Oper} {ρ : Env} {w : World} {N : Env → World → Prop} {rest : List Oper}
end
section
variable {P : Program} {rs : Array ResultVar} {ρ : Env} {w : World} {K : Value → World → Prop} {D : Nat} {ds : List Nat}
end
end Go.Proofs.Ytlppgpidakfnlaa
