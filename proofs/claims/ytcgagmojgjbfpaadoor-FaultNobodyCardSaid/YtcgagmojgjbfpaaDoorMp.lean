/- Maps of the call's own, keyed by integers; rows that are only read. -/
import Derived.Test.YtcgagmojgjbfpaaDoorQ
import Derived.MapKept
import Derived.WalkSpells
namespace Go.Proofs.YtcgagmojgjbfpaaDoor
open Go Go.RowKit Go.Lib
/-- a map's entries as data: the first one with a key counts -/
abbrev MpL := List (Int × Value)
def kvs (k : IntKind) (es : List MapEntry) (E : MpL) : Prop := es.map (fun e => (e.key, e.val)) = E.map fun p => (Value.int k p.1, p.2)
def MSt (es : List MapEntry) (clock : Nat) : Prop := (∀ e ∈ es, e.born < clock) ∧ (es.map (·.born)).Nodup
def mapA (k : IntKind) (r : Nat) (E : MpL) : Asn where
  holds w F := F = [r] ∧ ∃ es clock, w.heap[r]? = some (.map es clock) ∧ kvs k es.toList E ∧ MSt es.toList clock
  loc w w' F h hk := ⟨h.1, by
    obtain ⟨es, clock, hb, rest⟩ := h.2
    exact ⟨es, clock, (hk r (by rw [h.1]; simp)).trans hb, rest⟩⟩
  lt w F h k hk := by
    obtain ⟨es, clock, hb, _⟩ := h.2
    rw [h.1] at hk
    rw [List.mem_singleton.1 hk]
    rcases Nat.lt_or_ge r w.heap.size with hlt | hge
    · exact hlt
    · rw [Array.getElem?_eq_none hge] at hb; cases hb
section
variable {P : Program} {ρ : Env} {W w : World} {L R : List Asn} {ty : TypeId}
theorem St.map {k : IntKind} {r : Nat} {E : MpL} (hS : St W w L) (pk : Pick L (mapA k r E) R) : ∃ es clock, w.heap[r]? = some (.map es clock) ∧ kvs k es.toList E ∧ MSt es.toList clock := by
  obtain ⟨F, hx, _⟩ := hS.get pk; exact hx.2
end
section
variable {P : Program} {all : Array Oper} {ρ : Env} {W w : World} {L R : List Asn} {N : Env → World → Prop} {rest : List Oper}
end
section
variable {P : Program} {all : Array Oper} {ρ : Env} {W w : World} {L R : List Asn} {N : Env → World → Prop} {rest : List Oper}
end
section
variable {P : Program} {all : Array Oper} {ρ : Env} {W w : World} {L R : List Asn} {N : Env → World → Prop} {rest : List Oper}
end
/-- rows that are only read -/
structure RdP where
  size : Nat
  A : Option Addr
  n : Nat
  f : Nat → List Value
def RdP.ok (w : World) (F : List Nat) (p : RdP) : Prop := Rd w p.size p.A p.n p.f ∧ (0 < p.n → ∀ a, p.A = some a → a.block ∈ F)
def rdsA (l : List RdP) : Asn where
  holds w F := (∀ k ∈ F, k < w.heap.size) ∧ ∀ p ∈ l, p.ok w F
  loc w w' F h hk := by
    have hlt : ∀ k ∈ F, k < w'.heap.size := fun k hkF => by
      have h1 := h.1 k hkF
      have h2 := hk k hkF
      rcases Nat.lt_or_ge k w'.heap.size with h3 | h3
      · exact h3
      · rw [Array.getElem?_eq_none h3, Array.getElem?_eq_getElem h1] at h2; cases h2
    refine ⟨hlt, fun p hp => ?_⟩
    obtain ⟨hr, hF⟩ := h.2 p hp
    refine ⟨fun hn => ?_, hF⟩
    obtain ⟨ad, hA, hl, hc⟩ := hr hn
    have hb := hF hn ad hA
    refine ⟨ad, hA, hlt _ hb, fun i hi => ⟨(hc i hi).1, fun j v hv => ?_⟩⟩
    have := (hc i hi).2 j v hv
    have hbl : ((ad.add (i * p.size)).add j).block = ad.block := by rw [add_block, add_block]
    rw [← this]
    unfold World.cell?
    rw [hbl, hk _ hb]
  lt w F h k hk := h.1 k hk
section
variable {W w : World} {L R : List Asn}
theorem St.rds0 (hS : St W w L) : St W w (rdsA [] :: L) := hS.add (Fr.refl _ _) (F := []) ⟨(fun _ h => by cases h), fun _ h => by cases h⟩ (fun _ h => by cases h)
theorem St.rds {l : List RdP} {p : RdP} (hS : St W w L) (pk : Pick L (rdsA l) R) (hp : p ∈ l) : Rd w p.size p.A p.n p.f := by
  obtain ⟨F, hx, _⟩ := hS.get pk
  exact (hx.2 p hp).1
end
end Go.Proofs.YtcgagmojgjbfpaaDoor
