/- Rows of structs; arrays within a block. -/
import Derived.Test.YtcgagmojgjbfpaaDoorW4
import Derived.DeepKeys
namespace Go.Proofs.YtcgagmojgjbfpaaDoor
open Go Go.RowKit Go.Lib
section
variable {β : Type} [Inhabited β] {cells : β → List Value} {size : Nat}
theorem flat_get (h : ∀ x, (cells x).length = size) : ∀ (l : List β) (i j : Nat), i < l.length → j < size → (l.flatMap cells)[i * size + j]? = (cells (l.getD i default))[j]? := by
  intro l
  induction l with
  | nil => intro i j hi; simp at hi
  | cons a l ih =>
    intro i j hi hj
    cases i with
    | zero =>
      rw [List.flatMap_cons, Nat.zero_mul, Nat.zero_add, List.getElem?_append_left (by rw [h]; exact hj)]
      rfl
    | succ i =>
      rw [List.flatMap_cons, List.getElem?_append_right (by rw [h, Nat.succ_mul]; omega), h, show (i + 1) * size + j - size = i * size + j from by rw [Nat.succ_mul]; omega]
      rw [ih i j (by simpa using hi) hj]
      rfl
theorem flat_range (l : List β) : (List.range l.length).flatMap (fun i => cells (l.getD i default)) = l.flatMap cells := by
  induction l with
  | nil => rfl
  | cons a l ih =>
    rw [List.length_cons, List.range_succ_eq_map, List.flatMap_cons, List.flatMap_map, List.flatMap_cons, ← ih]
    rfl
omit [Inhabited β] in
theorem flat_len (h : ∀ x, (cells x).length = size) (l : List β) : (l.flatMap cells).length = l.length * size := by
  induction l with
  | nil => simp
  | cons a l ih => rw [List.flatMap_cons, List.length_append, h, ih, List.length_cons, Nat.succ_mul]; omega
variable {W w : World} {L R : List Asn}
theorem St.rowRdL (hS : St W w L) {e : TypeId} {A : Option Addr} {n c : Nat} {l : List β} (pk : Pick L (rowA e size A n c (l.flatMap cells)) R) (hn : n = l.length) (h : ∀ x, (cells x).length = size) : Rd w size A l.length (fun i => cells (l.getD i default)) := by
  have hown := hS.row pk
  rw [hn] at hown
  exact own_rd hown (fun i _ => h _) (fun i j hi hj => flat_get h l i j hi hj)
end
section
variable {P : Program} {ρ : Env} {W w : World} {L R : List Asn} {ty : TypeId}
theorem addr_add (g off n : Nat) : (⟨g, off, none⟩ : Addr).add n = ⟨g, off + n, none⟩ := by
  unfold Addr.add
  split
  · rename_i h; simp
  · rfl
end
end Go.Proofs.YtcgagmojgjbfpaaDoor
