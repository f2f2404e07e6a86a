/- errors.Is, Has; new faults and wrapped ones as chains. -/
import Derived.Test.YtcgagmojgjbfpaaDoorDd
namespace Go.Proofs.YtcgagmojgjbfpaaDoor
open Go Go.RowKit Go.Lib Go.Extern
variable {W : World}
def chF (i c : Int) (l : List Int) : List (Int × Int) := if c = 0 then [] else (l.reverse.map fun n => (n, (0 : Int))) ++ [(i, c)]
theorem chF_new (i c : Int) : newE i c = chF i c [] := by
  unfold newE chF
  rfl
theorem chF_wrap (i c n : Int) (l : List Int) : wrE n (chF i c l) = chF i c (l ++ [n]) := by
  unfold wrE chF
  by_cases h : c = 0
  · rw [if_pos h, if_pos rfl, if_pos h]
  · rw [if_neg h, if_neg (by simp), if_neg h, List.reverse_append]
    rfl
theorem chF_step {i c : Int} {l : List Int} {j : Nat} (h : j < l.length) : wrE (l.getD j 0) (chF i c (l.take j)) = chF i c (l.take (j + 1)) := by
  rw [chF_wrap, List.take_succ_eq_append_getElem h, List.getD_eq_getElem?_getD, List.getElem?_eq_getElem h]
  rfl
theorem chF_zero (i : Int) (l : List Int) : chF i 0 l = [] := if_pos rfl
theorem chF_code (i c : Int) (l : List Int) : codeF (chF i c l) = c := by
  unfold chF codeF
  by_cases h : c = 0
  · rw [if_pos h]; exact h.symm
  · rw [if_neg h, List.length_append, List.length_map, List.length_reverse, List.length_singleton, List.getD_eq_getElem?_getD, List.getElem?_append_right (by simp), List.length_map, List.length_reverse, show l.length + 1 - 1 - l.length = 0 by omega]
    rfl
theorem chF_lay {i c : Int} (l : List Int) (h : c ≠ 0) : layF (chF i c l) = l.reverse ++ [i] := by
  unfold chF layF
  rw [if_neg h, List.map_append, List.map_map]
  congr 1
  exact List.map_id _
theorem chF_len (i c : Int) (l : List Int) : (chF i c l).length ≤ l.length + 1 := by
  unfold chF
  split
  · exact Nat.zero_le _
  · rw [List.length_append, List.length_map, List.length_reverse]; exact Nat.le_refl _
def RdL (w : World) (A : Option Addr) (l : List Int) : Prop := Rd w 1 A l.length (isf .i64 l)
theorem RdL.take {w : World} {A : Option Addr} {l : List Int} (h : RdL w A l) (n : Nat) : RdL w A (l.take n) := fun hn => by
  rw [List.length_take] at hn
  obtain ⟨ad, hA, hlt, hc⟩ := h (by omega)
  refine ⟨ad, hA, hlt, fun i hi => ?_⟩
  rw [List.length_take] at hi
  have e : isf .i64 (l.take n) i = isf .i64 l i := by
    unfold isf
    rw [List.getD_eq_getElem?_getD, List.getElem?_take, if_pos (by omega), ← List.getD_eq_getElem?_getD]
  rw [e]
  exact hc i (by omega)
theorem cut_zero {A : Option Addr} {c : Nat} : (if c = 0 then A else A.map (·.add (0 * 1))) = A := by
  split
  · rfl
  · cases A <;> simp [Addr.add]
attribute [local irreducible] blkA rowA rdsA
end Go.Proofs.YtcgagmojgjbfpaaDoor
