/- Rows of structs; arrays within a block. -/
import Derived.Test.YtcgagmojgjbfpaaDoorW4
import Derived.DeepKeys
namespace Go.Proofs.YtcgagmojgjbfpaaDoor
open Go Go.RowKit Go.Lib
section
variable {β : Type} [Inhabited β] {cells : β → List Value} {size : Nat}
theorem flat_get (h : ∀ x, (cells x).length = size) : ∀ (l : List β) (i j : Nat), i < l.length → j < size → (l.flatMap cells)[i * size + j]? = (cells (l.getD i default))[j]? := by
  intro l
  induction l with
  | nil => intro i j hi; simp at hi
  | cons a l ih =>
    intro i j hi hj
    cases i with
    | zero =>
      rw [List.flatMap_cons, Nat.zero_mul, Nat.zero_add, List.getElem?_append_left (by rw [h]; exact hj)]
      rfl
    | succ i =>
      rw [List.flatMap_cons, List.getElem?_append_right (by rw [h, Nat.succ_mul]; omega), h, show (i + 1) * size + j - size = i * size + j from by rw [Nat.succ_mul]; omega]
      rw [ih i j (by simpa using hi) hj]
      rfl
variable {W w : World} {L R : List Asn}
theorem St.rowRdL (hS : St W w L) {e : TypeId} {A : Option Addr} {n c : Nat} {l : List β} (pk : Pick L (rowA e size A n c (l.flatMap cells)) R) (hn : n = l.length) (h : ∀ x, (cells x).length = size) : Rd w size A l.length (fun i => cells (l.getD i default)) := by
  have hown := hS.row pk
  rw [hn] at hown
  exact own_rd hown (fun i _ => h _) (fun i j hi hj => flat_get h l i j hi hj)
end
section
variable {P : Program} {ρ : Env} {W w : World} {L R : List Asn} {ty : TypeId}
theorem addr_add (g off n : Nat) : (⟨g, off, none⟩ : Addr).add n = ⟨g, off + n, none⟩ := by
  unfold Addr.add
  split
  · rename_i h; simp
  · rfl
theorem q_arr {t e : TypeId} {x i : Operand} {g off len size : Nat} {k : IntKind} {m : Int} (ht : ∀ w, (underlying t).run P w = .ok (.array len e) w) (hz : ∀ w, (sizeOf e).run P w = .ok size w)
    (hx : ev ρ x = .pointer (some ⟨g, off, none⟩)) (hi : ev ρ i = .int k m) (hb : 0 ≤ m ∧ m < len) : qv P (.indexAddr t x i) ty ρ w (.pointer (some ⟨g, off + m.toNat * size, none⟩)) :=
  q_cast (q_indexAddr_arr ht hz hx hi hb) (by rw [addr_add])
theorem q_arr_nat {t e : TypeId} {x i : Operand} {g off len size : Nat} {k : IntKind} {j : Nat} (ht : ∀ w, (underlying t).run P w = .ok (.array len e) w) (hz : ∀ w, (sizeOf e).run P w = .ok size w)
    (hx : ev ρ x = .pointer (some ⟨g, off, none⟩)) (hi : ev ρ i = .int k (j : Int)) (hb : j < len) : qv P (.indexAddr t x i) ty ρ w (.pointer (some ⟨g, off + j * size, none⟩)) := q_arr ht hz hx hi (by omega)
end
end Go.Proofs.YtcgagmojgjbfpaaDoor
