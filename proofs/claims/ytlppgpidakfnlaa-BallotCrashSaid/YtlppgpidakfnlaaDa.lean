/- Disks: what they have, and how they lie in memory. -/
import Derived.Test.YtlppgpidakfnlaaDr
namespace Go.Proofs.Ytlppgpidakfnlaa
open Go Go.RowKit Go.Lib
variable {W : World}
structure Dk where
  F : Nat → List UInt8 × Nat
  fuse : Int
  gone : Bool
  calls : Int
abbrev Rws := Nat → Option Addr × Nat
def updF (F : Nat → List UInt8 × Nat) (i : Nat) (v : List UInt8 × Nat) : Nat → List UInt8 × Nat := fun j => if j = i then v else F j
def updR (rw : Rws) (i : Nat) (p : Option Addr × Nat) : Rws := fun j => if j = i then p else rw j
def F0 : Nat → List UInt8 × Nat := fun _ => ([], 0)
def D0 : Dk := ⟨F0, -1, false, 0⟩
def Dk.put (d : Dk) (i : Nat) (v : List UInt8 × Nat) : Dk := { d with F := updF d.F i v }
def Dk.blow (d : Dk) : Dk := { d with fuse := if 0 < d.fuse then d.fuse - 1 else d.fuse, gone := decide (d.fuse = 0), calls := d.calls + 1 }
structure DGood (d : Dk) : Prop where
  sync : ∀ i, (d.F i).2 ≤ (d.F i).1.length
  len : ∀ i, (d.F i).1.length ≤ 1048576
  fuse : -9223372036854775808 ≤ d.fuse ∧ d.fuse ≤ 9223372036854775807
  calls : 0 ≤ d.calls
theorem DGood.zero : DGood D0 := ⟨(fun _ => Nat.le_refl 0), (fun _ => Nat.zero_le _), (show (-9223372036854775808 : Int) ≤ -1 ∧ (-1 : Int) ≤ 9223372036854775807 by decide), Int.le_refl 0⟩
theorem DGood.blow {d : Dk} (h : DGood d) : DGood d.blow := ⟨h.sync, h.len, by show -9223372036854775808 ≤ (if 0 < d.fuse then d.fuse - 1 else d.fuse) ∧ (if 0 < d.fuse then d.fuse - 1 else d.fuse) ≤ 9223372036854775807; have := h.fuse; split <;> omega, by have := h.calls; show 0 ≤ d.calls + 1; omega⟩
theorem DGood.put {d : Dk} (h : DGood d) {i : Nat} {v : List UInt8 × Nat} (h1 : v.2 ≤ v.1.length) (h2 : v.1.length ≤ 1048576) : DGood (d.put i v) := by
  refine ⟨fun j => ?_, fun j => ?_, h.fuse, h.calls⟩
  · show (updF d.F i v j).2 ≤ (updF d.F i v j).1.length
    unfold updF; split
    · exact h1
    · exact h.sync j
  · show (updF d.F i v j).1.length ≤ _
    unfold updF; split
    · exact h2
    · exact h.len j
/-- its cells -/
def fcell (F : Nat → List UInt8 × Nat) (rw : Rws) (k : Nat) : Value := if k % 2 = 0 then .slice (rw (k / 2)).1 (F (k / 2)).1.length (rw (k / 2)).2 else .int .i64 ((F (k / 2)).2 : Int)
def fcells (F : Nat → List UInt8 × Nat) (rw : Rws) : List Value := (List.range 64).map (fcell F rw)
theorem fcells_len (F : Nat → List UInt8 × Nat) (rw : Rws) : (fcells F rw).length = 64 := by unfold fcells; rw [List.length_map, List.length_range]
section
variable {F : Nat → List UInt8 × Nat} {rw : Rws} {tl : List Value} {i : Nat}
theorem fc_b (h : i < 32) : (fcells F rw ++ tl)[0 + i * 2 + 0]? = some (.slice (rw i).1 (F i).1.length (rw i).2) := by
  rw [List.getElem?_append_left (by rw [fcells_len]; omega)]
  unfold fcells
  rw [List.getElem?_map, List.getElem?_range (by omega), Option.map_some, fcell, if_pos (by omega), show (0 + i * 2 + 0) / 2 = i by omega]
theorem fc_s (h : i < 32) : (fcells F rw ++ tl)[0 + i * 2 + 1]? = some (.int .i64 ((F i).2 : Int)) := by
  rw [List.getElem?_append_left (by rw [fcells_len]; omega)]
  unfold fcells
  rw [List.getElem?_map, List.getElem?_range (by omega), Option.map_some, fcell, if_neg (by omega), show (0 + i * 2 + 1) / 2 = i by omega]
theorem fc_tl (k : Nat) : (fcells F rw ++ tl)[0 + (64 + k)]? = tl[k]? := by
  rw [List.getElem?_append_right (by rw [fcells_len]; omega), fcells_len, show 0 + (64 + k) - 64 = k by omega]
theorem st_tl (k : Nat) (v : Value) : setN (fcells F rw ++ tl) (0 + (64 + k)) [v] = fcells F rw ++ tl.set k v := by
  show (fcells F rw ++ tl).set (0 + (64 + k)) v = _
  rw [List.set_append_right _ _ (by rw [fcells_len]; omega), fcells_len, show 0 + (64 + k) - 64 = k by omega]
theorem range_set {f : Nat → Value} {n k : Nat} {v : Value} : ((List.range n).map f).set k v = (List.range n).map fun i => if i = k then v else f i := by
  apply List.ext_getElem (by simp)
  intro i h1 h2
  rw [List.getElem_set]
  simp only [List.getElem_map, List.getElem_range]
  by_cases h : k = i
  · rw [if_pos h, if_pos h.symm]
  · rw [if_neg h, if_neg (fun e => h e.symm)]
theorem st_b (h : i < 32) {b : List UInt8} {a : Option Addr} {n c : Nat} (hn : n = b.length) : setN (fcells F rw ++ tl) (0 + i * 2 + 0) [.slice a n c] = fcells (updF F i (b, (F i).2)) (updR rw i (a, c)) ++ tl := by
  subst hn
  show (fcells F rw ++ tl).set _ _ = _
  rw [List.set_append_left _ _ (by rw [fcells_len]; omega)]
  congr 1
  unfold fcells
  rw [range_set]
  apply List.map_congr_left
  intro k _
  unfold fcell updF updR
  by_cases h1 : k / 2 = i
  · rw [if_pos h1, if_pos h1, ← h1]
    by_cases h3 : k % 2 = 0
    · rw [if_pos (by omega), if_pos h3]
    · rw [if_neg (by omega), if_neg h3, if_neg h3]
  · rw [if_neg h1, if_neg h1, if_neg (by omega)]
theorem st_s (h : i < 32) {s : Int} {n : Nat} (hs : s = (n : Int)) : setN (fcells F rw ++ tl) (0 + i * 2 + 1) [.int .i64 s] = fcells (updF F i ((F i).1, n)) (updR rw i (rw i)) ++ tl := by
  subst hs
  show (fcells F rw ++ tl).set _ _ = _
  rw [List.set_append_left _ _ (by rw [fcells_len]; omega)]
  congr 1
  unfold fcells
  rw [range_set]
  apply List.map_congr_left
  intro k _
  unfold fcell updF updR
  by_cases h1 : k / 2 = i
  · rw [if_pos h1, if_pos h1, ← h1]
    by_cases h3 : k % 2 = 0
    · rw [if_neg (by omega), if_pos h3, if_pos h3]
    · rw [if_pos (by omega), if_neg h3]
  · rw [if_neg h1, if_neg h1, if_neg (by omega)]
theorem st_2 (h : i < 32) {b : List UInt8} {a : Option Addr} {m c n : Nat} {s : Int} (hm : m = b.length) (hs : s = (n : Int)) : setN (fcells F rw ++ tl) (0 + i * 2) [.slice a m c, .int .i64 s] = fcells (updF F i (b, n)) (updR rw i (a, c)) ++ tl := by
  have h1 := st_b (F := F) (rw := rw) (tl := tl) h (a := a) (c := c) hm
  have h2 := st_s (F := updF F i (b, (F i).2)) (rw := updR rw i (a, c)) (tl := tl) h hs
  show setN ((fcells F rw ++ tl).set (0 + i * 2) (.slice a m c)) (0 + i * 2 + 1) [.int .i64 s] = _
  have h3 : (fcells F rw ++ tl).set (0 + i * 2) (.slice a m c) = fcells (updF F i (b, (F i).2)) (updR rw i (a, c)) ++ tl := h1
  rw [h3, h2]
  congr 2
  · funext j; unfold updF; split <;> simp
  · funext j; unfold updR; split <;> simp
end
/-- the files' rows -/
def fileA (p : Option Addr × Nat) (f : List UInt8 × Nat) : Asn := rowC 5 p.1 p.2 f.1
def filesL (F : Nat → List UInt8 × Nat) (rw : Rws) : List Asn := (List.range 32).map fun i => fileA (rw i) (F i)
def filesH (F : Nat → List UInt8 × Nat) (rw : Rws) (i : Nat) : List Asn := ((List.range 32).erase i).map fun j => fileA (rw j) (F j)
theorem files_perm (F : Nat → List UInt8 × Nat) (rw : Rws) {i : Nat} (h : i < 32) : (filesL F rw).Perm (fileA (rw i) (F i) :: filesH F rw i) :=
  (List.perm_cons_erase (List.mem_range.2 h)).map _
theorem filesH_upd (F : Nat → List UInt8 × Nat) (rw : Rws) (i : Nat) (f : List UInt8 × Nat) (p : Option Addr × Nat) : filesH (updF F i f) (updR rw i p) i = filesH F rw i := by
  unfold filesH
  apply List.map_congr_left
  intro j hj
  have hne : j ≠ i := ((List.nodup_range (n := 32)).mem_erase_iff.1 hj).1
  unfold updF updR
  rw [if_neg hne, if_neg hne]
theorem St.file {w : World} {R : List Asn} {F : Nat → List UInt8 × Nat} {rw : Rws} {i : Nat} (h : St W w (packA (filesL F rw) :: R)) (hi : i < 32) : St W w (rowC 5 (rw i).1 (rw i).2 (F i).1 :: packA (filesH F rw i) :: R) := by
  have h1 := h.unpack.perm ((files_perm F rw hi).append_right R)
  have h2 : St W w (filesH F rw i ++ (fileA (rw i) (F i) :: R)) := h1.perm List.perm_middle.symm
  exact h2.pack.pick (.there (.here _ _))
theorem St.unfile {w : World} {R : List Asn} {F : Nat → List UInt8 × Nat} {rw : Rws} {i : Nat} {b : List UInt8} {a : Option Addr} {c : Nat} (h : St W w (rowC 5 a c b :: packA (filesH F rw i) :: R)) (hi : i < 32) (n : Nat) : St W w (packA (filesL (updF F i (b, n)) (updR rw i (a, c))) :: R) := by
  have h1 := (h.pick (.there (.here _ _))).unpack
  have h2 : St W w ((rowC 5 a c b :: filesH F rw i) ++ R) := h1.perm List.perm_middle
  refine St.pack (h2.perm (List.Perm.append_right R ?_))
  have h3 := (files_perm (updF F i (b, n)) (updR rw i (a, c)) hi).symm
  rw [filesH_upd] at h3
  have e : fileA (updR rw i (a, c) i) (updF F i (b, n) i) = rowC 5 a c b := by unfold fileA updR updF; rw [if_pos rfl, if_pos rfl]
  rw [e] at h3
  exact h3
theorem upd_same (F : Nat → List UInt8 × Nat) (rw : Rws) (i : Nat) : updF F i (F i) = F ∧ updR rw i (rw i) = rw :=
  ⟨by funext j; unfold updF; split <;> simp_all, by funext j; unfold updR; split <;> simp_all⟩
theorem St.unfile0 {w : World} {R : List Asn} {F : Nat → List UInt8 × Nat} {rw : Rws} {i : Nat} (h : St W w (rowC 5 (rw i).1 (rw i).2 (F i).1 :: packA (filesH F rw i) :: R)) (hi : i < 32) : St W w (packA (filesL F rw) :: R) := by
  have h1 := h.unfile hi (F i).2
  rw [show ((F i).1, (F i).2) = F i from rfl, show ((rw i).1, (rw i).2) = rw i from rfl, (upd_same F rw i).1, (upd_same F rw i).2] at h1
  exact h1
def dtl (d : Dk) : List Value := [.bool (decide (0 ≤ d.fuse)), .int .i64 (d.fuse.toNat : Int), .bool d.gone, .int .i64 d.calls]
def qtl (d : Dk) : List Value := [.int .i64 d.fuse, .bool d.gone, .int .i64 d.calls]
def dskA (g : Nat) (d : Dk) : Asn := exA fun rw => starA (blkA g 157 (fcells d.F rw ++ dtl d)) (packA (filesL d.F rw))
def qdkA (g : Nat) (d : Dk) : Asn := exA fun rw => starA (blkA g 999999 (fcells d.F rw ++ qtl d)) (packA (filesL d.F rw))
section
variable {w : World} {R : List Asn} {g : Nat} {d : Dk}
theorem St.dsk (h : St W w (dskA g d :: R)) : ∃ rw, St W w (blkA g 157 (fcells d.F rw ++ dtl d) :: packA (filesL d.F rw) :: R) := by
  obtain ⟨rw, h⟩ := h.ex
  exact ⟨rw, h.star⟩
theorem St.undsk {rw : Rws} (h : St W w (blkA g 157 (fcells d.F rw ++ dtl d) :: packA (filesL d.F rw) :: R)) : St W w (dskA g d :: R) := St.unex rw h.unstar
theorem St.qdk (h : St W w (qdkA g d :: R)) : ∃ rw, St W w (blkA g 999999 (fcells d.F rw ++ qtl d) :: packA (filesL d.F rw) :: R) := by
  obtain ⟨rw, h⟩ := h.ex
  exact ⟨rw, h.star⟩
theorem St.unqdk {rw : Rws} (h : St W w (blkA g 999999 (fcells d.F rw ++ qtl d) :: packA (filesL d.F rw) :: R)) : St W w (qdkA g d :: R) := St.unex rw h.unstar
def rw0 : Rws := fun _ => (none, 0)
theorem files_zero {w : World} {R : List Asn} (h : St W w R) : St W w (packA (filesL F0 rw0) :: R) := by
  refine St.pack ?_
  unfold filesL
  generalize List.range 32 = l
  induction l with
  | nil => exact h
  | cons i l ih => exact ih.rowC_nil 5
end
end Go.Proofs.Ytlppgpidakfnlaa
