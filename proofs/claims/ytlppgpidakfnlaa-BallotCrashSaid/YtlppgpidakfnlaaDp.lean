/- Disks: what stays right; calls at a file by its number. -/
import Derived.Test.YtlppgpidakfnlaaDf
namespace Go.Proofs.Ytlppgpidakfnlaa
open Go Go.RowKit Go.Lib
variable {W : World}
theorem DGood.setF {d : Dk} (h : DGood d) {F : Nat → List UInt8 × Nat} (hF : FGood F) : DGood (d.setF F) := ⟨fun i => (hF i).1, fun i => (hF i).2, h.fuse, h.calls⟩
theorem FGood.upd {F : Nat → List UInt8 × Nat} (h : FGood F) {i : Nat} {v : List UInt8 × Nat} (hv : v.2 ≤ v.1.length ∧ v.1.length ≤ 1048576) : FGood (updF F i v) := fun j => by
  unfold updF
  split
  · exact hv
  · exact h j
theorem DGood.fg {d : Dk} (h : DGood d) : FGood d.F := fun i => ⟨h.sync i, h.len i⟩
theorem DGood.tn {d : Dk} (h : DGood d) {i c : Int} {F : Nat → List UInt8 × Nat} (hF : FGood F) : DGood (tnD d i c F) := by
  unfold tnD
  split
  · exact h
  · split
    · exact h.blow
    · exact h.blow.setF hF
theorem DGood.ap {d : Dk} (h : DGood d) {i : Int} {ys : List UInt8} : DGood (apD d i (apE d.F i.toNat ys.length) (apF d.F i.toNat ys)) := by
  unfold apD
  split
  · exact h
  · rename_i hn
    have hE : apE d.F i.toNat ys.length = 0 := by
      by_cases hq : apE d.F i.toNat ys.length = 0
      · exact hq
      · exact absurd (.inr (.inr hq)) hn
    refine h.blow.setF (h.fg.upd ⟨?_, ?_⟩)
    · have := h.sync i.toNat
      show (d.F i.toNat).2 ≤ ((d.F i.toNat).1 ++ ys).length
      rw [List.length_append]; omega
    · show ((d.F i.toNat).1 ++ ys).length ≤ _
      rw [List.length_append]
      unfold apE at hE
      split at hE
      · cases hE
      · omega
theorem syF_good {F : Nat → List UInt8 × Nat} (h : FGood F) (i : Nat) : FGood (syF F i) := h.upd ⟨Nat.le_refl _, (h i).2⟩
theorem cuF_good {F : Nat → List UInt8 × Nat} (h : FGood F) (i : Nat) (n : Int) : FGood (cuF F i n) := h.upd (by
  have h1 := h i
  show min (F i).2 n.toNat ≤ ((F i).1.take n.toNat).length ∧ ((F i).1.take n.toNat).length ≤ 1048576
  rw [List.length_take]
  omega)
theorem drF_good {F : Nat → List UInt8 × Nat} (h : FGood F) (i : Nat) : FGood (drF F i) := h.upd ⟨Nat.le_refl 0, Nat.zero_le _⟩
theorem row_add {w : World} {L R : List Asn} {e : TypeId} {A : Option Addr} {n c : Nat} {xs : List Value} (hS : St W w L) (pk : Pick L (rowA e 1 A n c xs) R) : A.map (·.add 0) = A := by
  rcases (hS.row pk).2 with ⟨he, _⟩ | ⟨g, cap, cur, hv, _⟩
  · injection he with hA
    rw [hA]; rfl
  · injection hv with hA
    rw [hA, Option.map_some, addr_add]
theorem read_n {w : World} {L R : List Asn} {g : Nat} {d : Dk} (hS : St W w L) (pk : Pick L (dskA g d) R) {i : Nat} (hG : DGood d) (hi : i < 32) : Calls Try.prog 52 #[.pointer (some ⟨g, 0, none⟩), .int .i64 (i : Int)] w fun e w' => ∃ A' c', e = .returned (.slice A' (d.F i).1.length c') ∧ St W w' (rowA 5 1 A' (d.F i).1.length c' (((d.F i).1).map bv) :: dskA g d :: R) := by
  have h := read_in (i := (i : Int)) hS pk hG ⟨by omega, by omega⟩
  simp only [Int.toNat_natCast] at h
  exact h
theorem sync_n {w : World} {L R : List Asn} {g : Nat} {d : Dk} (hS : St W w L) (pk : Pick L (dskA g d) R) {i : Nat} (hG : DGood d) (hi : i < 32) : Calls Try.prog 41 #[.pointer (some ⟨g, 0, none⟩), .int .i64 (i : Int)] w fun e w' => e = .returned (.int .i64 ((d.F i).2 : Int)) ∧ St W w' (dskA g d :: R) := by
  have h := sync_in (i := (i : Int)) hS pk hG ⟨by omega, by omega⟩
  simp only [Int.toNat_natCast] at h
  exact h
theorem crD_at {ns : List Int} {d : Dk} {i : Nat} (h : i < 32) : (crD ns d).F i = crV ns i (d.F i) := by
  show crF ns d.F 32 i = _
  unfold crF
  rw [if_pos h]

end Go.Proofs.Ytlppgpidakfnlaa
