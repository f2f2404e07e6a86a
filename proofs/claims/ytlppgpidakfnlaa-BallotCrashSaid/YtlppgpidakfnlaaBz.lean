/- What ballots use of parcels and disks. -/
import Derived.Test.YtlppgpidakfnlaaPg
import Derived.Test.YtlppgpidakfnlaaDp
import Derived.Test.YtlppgpidakfnlaaDd
namespace Go.Proofs.Ytlppgpidakfnlaa
open Go Go.RowKit Go.Lib
variable {W : World}
theorem tk_more2 {k : UInt8} {body : List UInt8} (hb : body.length ≤ 65536) (hk : k ≠ 0) (rest : List UInt8) : tkK (parB k body ++ rest) = k ∧ tkL (parB k body ++ rest) = body ∧ (parB k body ++ rest).drop (tkN (parB k body ++ rest)) = rest := by
  obtain ⟨h0, hN⟩ := tk_more hb hk rest
  obtain ⟨e1, e2, _⟩ := tk_ok h0
  have e : parB k body ++ rest = (k :: enc body.length) ++ (body ++ (four (crc (preB k body)) ++ rest)) := by rw [par_form]; simp
  obtain ⟨h1, h2⟩ := sz_form (k := k) (r := body ++ (four (crc (preB k body)) ++ rest)) hb
  have e' : k :: (enc body.length ++ (body ++ (four (crc (preB k body)) ++ rest))) = parB k body ++ rest := by rw [e]; rfl
  rw [e'] at h1 h2
  have hf : tkFrom (parB k body ++ rest) = (k :: enc body.length).length := by
    unfold tkFrom
    rw [h1, e]
    simp only [List.length_append]
    omega
  refine ⟨by rw [e1, ← e']; rfl, ?_, by rw [hN, List.drop_left]⟩
  rw [e2, hf, h2, e, List.drop_left, List.take_left]
def mI : Nat := 4611686018427387904
theorem endOk_nil : (⟨[], false⟩ : Rs).endOk = 0 := rfl
section
variable {d : Dk} {n old : Int} {ys : List UInt8}
theorem tn_cal {i c : Int} {F : Nat → List UInt8 × Nat} : (tnD d i c F).calls ≤ d.calls + 1 := by
  unfold tnD
  split
  · omega
  · split
    · exact Int.le_refl _
    · exact Int.le_refl _
theorem ap_cal {i c : Int} {F : Nat → List UInt8 × Nat} : (apD d i c F).calls ≤ d.calls + 1 := by
  unfold apD
  split
  · omega
  · exact Int.le_refl _
end
theorem files_at {n : Int} {m j : Nat} (hn : n = (m : Int)) (h : j < 2) : [Value.int .i64 n, Value.int .i64 (n + 1)][j]? = some (.int .i64 ((m + j : Nat) : Int)) := by
  subst hn
  match j, h with
  | 0, _ => rfl
  | 1, _ => exact congrArg (fun x => some (Value.int .i64 x)) (by omega)
theorem size_n {w : World} {L R : List Asn} {g : Nat} {d : Dk} (hS : St W w L) (pk : Pick L (dskA g d) R) {i : Nat} (hG : DGood d) (hi : i < 32) : Calls Try.prog 40 #[.pointer (some ⟨g, 0, none⟩), .int .i64 (i : Int)] w fun e w' => e = .returned (.int .i64 ((d.F i).1.length : Int)) ∧ St W w' (dskA g d :: R) := by
  have h := size_in (i := (i : Int)) hS pk hG ⟨by omega, by omega⟩
  simp only [Int.toNat_natCast] at h
  exact h
section
variable {d : Dk}
theorem blow_ok (hg : d.gone = false) (hf : d.fuse < 0) : d.blow.gone = false ∧ d.blow.fuse = d.fuse ∧ d.blow.calls = d.calls + 1 ∧ d.blow.F = d.F :=
  ⟨decide_eq_false (by omega), (by show (if 0 < d.fuse then _ else _) = _; rw [if_neg (by omega)]), rfl, rfl⟩
/-- a call of a disk that has power, and keeps it -/
theorem tn_run {i : Int} {F : Nat → List UInt8 × Nat} (hg : d.gone = false) (hf : d.fuse < 0) (hi : 0 ≤ i ∧ i < 32) : tnE d i 0 = 0 ∧ (tnD d i 0 F).F = F ∧ (tnD d i 0 F).gone = false ∧ (tnD d i 0 F).fuse = d.fuse := by
  obtain ⟨h1, h2, _⟩ := tn_ok (F := F) (i := i) (c := 0) hg hi rfl (by omega)
  obtain ⟨b1, b2, _, _⟩ := blow_ok hg hf
  rw [h2]
  exact ⟨h1, rfl, b1, b2⟩
theorem ap_run {i : Int} {c : Int} {F : Nat → List UInt8 × Nat} (hc : c = 0) (hg : d.gone = false) (hf : d.fuse < 0) (hi : 0 ≤ i ∧ i < 32) : tnE d i c = 0 ∧ (apD d i c F).F = F ∧ (apD d i c F).gone = false ∧ (apD d i c F).fuse = d.fuse := by
  obtain ⟨h1, _, h2⟩ := tn_ok (F := F) (i := i) (c := c) hg hi hc (by omega)
  obtain ⟨b1, b2, _, _⟩ := blow_ok hg hf
  rw [h2]
  exact ⟨h1, rfl, b1, b2⟩
theorem updF_at (F : Nat → List UInt8 × Nat) (i : Nat) (v : List UInt8 × Nat) : updF F i v i = v := by unfold updF; rw [if_pos rfl]
theorem updF_ne {F : Nat → List UInt8 × Nat} {i j : Nat} {v : List UInt8 × Nat} (h : j ≠ i) : updF F i v j = F j := by unfold updF; rw [if_neg h]
end

end Go.Proofs.Ytlppgpidakfnlaa
