/- Arguments opened: what a reading of a type tells of its cells. -/
import Derived.Test.YtcgagmojgjbfpaaDoorW4
import Derived.Deep.Slices
import Derived.Deep.Fields
import Derived.ChangeSame
import Derived.Below
import Derived.ProofKit
namespace Go.Proofs.YtcgagmojgjbfpaaDoor
open Go Go.RowKit Go.WideShapes Go.ChangeShapes Go.Deep
def Opn {H : Type} (enc : TypeId × Value → H) (P : Program) (w : World) (t : TypeId) {α : Type} (cells : α → List Value) (ok : α → Prop) : Prop :=
  ∀ (fuel : Nat) (cs : List Value) (x : DataW H × List MemPlace), DataW.trod enc P w 0 (fun _ => true) true fuel t cs = some x → ∃ a, cs = cells a ∧ ok a
section
variable {H : Type} {enc : TypeId × Value → H} {P : Program} {w : World} {t e : TypeId}
theorem wf_range {k : IntKind} {n : Int} (h : (Lit.int k n).wf = true) : (if k.signed then -(2 ^ (k.bits - 1) : Int) ≤ n ∧ n < 2 ^ (k.bits - 1) else 0 ≤ n ∧ n < 2 ^ k.bits) := by
  unfold Lit.wf at h
  cases k <;> simp_all [IntKind.min, IntKind.max, IntKind.bits, IntKind.signed] <;> omega
theorem opn_i64 (ht : P.underlying t = some (.int .i64)) : Opn enc P w t (fun n : Int => [.int .i64 n]) (fun n => -9223372036854775808 ≤ n ∧ n ≤ 9223372036854775807) := fun _ _ _ h => by
  obtain ⟨n, hc, _, hw⟩ := DataW.trod_int ht h
  have := wf_range hw
  simp [IntKind.signed, IntKind.bits] at this
  exact ⟨n, hc, by omega⟩
structure Sl (β : Type) where
  A : Option Addr
  c : Nat
  l : List β
instance {β : Type} : Inhabited (Sl β) := ⟨⟨none, 0, []⟩⟩
def Sl.cells {β : Type} (s : Sl β) : List Value := [.slice s.A s.l.length s.c]
structure Sl.Ok {β : Type} [Inhabited β] (size : Nat) (cells : β → List Value) (ok : β → Prop) (w : World) (s : Sl β) : Prop where
  rd : Rd w size s.A s.l.length (fun i => cells (s.l.getD i default))
  el : ∀ x ∈ s.l, ok x
  le : s.l.length ≤ s.c ∧ s.c ≤ 9223372036854775807
theorem opn_slice {β : Type} [Inhabited β] {size : Nat} {cells : β → List Value} {ok : β → Prop} (ht : P.underlying t = some (.slice e)) (hz : P.cellsOf e = size) (hp : 0 < size) (he : Opn enc P w e cells ok) : Opn enc P w t (Sl.cells (β := β)) (Sl.Ok size cells ok w) := fun _ _ _ h => by
  rcases open_slice ht h with ⟨rfl, _⟩ | ⟨a, len, cap, m, n, D, Pl, rfl, hb, hl, hm, hmm, _, hx⟩
  · exact ⟨⟨none, 0, []⟩, rfl, ⟨fun hn => absurd hn (by simp), fun x hx => (by cases hx), by simp⟩⟩
  · have hlm : len ≤ m := by rw [hmm]; split <;> omega
    obtain ⟨V, hV⟩ := choose_lt (α := β) (n := len) (p := fun i v => ∃ cs', w.cells? 0 (a.add (i * P.cellsOf e)) (P.cellsOf e) = some cs' ∧ cs' = cells v ∧ ok v) (fun i hi => by
      obtain ⟨cs', h1, h2⟩ := hx i (by omega)
      obtain ⟨v, hc, hk⟩ := he _ _ _ h2
      exact ⟨v, cs', h1, hc, hk⟩)
    have hget : ∀ i, i < len → ((List.range len).map V).getD i default = V i := fun i hi => by
      rw [List.getD_eq_getElem?_getD, List.getElem?_map, List.getElem?_range hi]; rfl
    refine ⟨⟨some a, cap, (List.range len).map V⟩, by simp [Sl.cells], ⟨fun hn => ?_, fun x hx => ?_, ?_⟩⟩
    · simp only [List.length_map, List.length_range] at hn ⊢
      obtain ⟨cs0, h0, _⟩ := hV 0 hn
      have hc0 := World.cells?_some h0
      refine ⟨a, rfl, ?_, fun i hi => ?_⟩
      · obtain ⟨_, hlen, hat⟩ := hc0
        have h1 := hat 0 (by omega)
        rw [List.getElem?_eq_getElem (by omega)] at h1
        rcases Nat.lt_or_ge a.block w.heap.size with hlt | hge
        · exact hlt
        · exfalso
          have hnone : w.heap[((a.add (0 * P.cellsOf e)).add 0).block]? = none := by rw [add_block, add_block]; exact Array.getElem?_eq_none hge
          unfold World.cell? at h1
          rw [hnone] at h1
          cases h1
      · obtain ⟨cs', h1, h2, h3⟩ := hV i hi
        obtain ⟨_, hlen, hat⟩ := World.cells?_some h1
        rw [hget i hi, ← h2]
        refine ⟨by rw [hlen, hz], fun j v hv => ?_⟩
        have hj : j < cs'.length := (List.getElem?_eq_some_iff.1 hv).1
        rw [← hz, hat j (by omega)]
        exact hv
    · simp only [List.mem_map, List.mem_range] at hx
      obtain ⟨i, hi, rfl⟩ := hx
      obtain ⟨_, _, _, h3⟩ := hV i hi
      exact h3
    · simp only [List.length_map, List.length_range]
      unfold maxLen at hm
      omega
end
end Go.Proofs.YtcgagmojgjbfpaaDoor
