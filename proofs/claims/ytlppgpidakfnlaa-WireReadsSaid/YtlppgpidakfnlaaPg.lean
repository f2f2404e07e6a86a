/- Parcels one behind the other, cut off: plain. -/
import Derived.Test.YtlppgpidakfnlaaPf
namespace Go.Proofs.Ytlppgpidakfnlaa
open Go Go.RowKit Go.Lib
variable {W : World}
theorem enc_three {n : Nat} (h : n ≤ 65536) : (enc n).length ≤ 3 := by
  by_cases h1 : n < 128
  · rw [enc_small h1]; simp
  · rw [enc_big (by omega), List.length_cons]
    by_cases h2 : n / 128 < 128
    · rw [enc_small h2]; simp
    · rw [enc_big (by omega), List.length_cons, enc_small (by omega)]; simp
theorem sz_form {k : UInt8} {n : Nat} {r : List UInt8} (hn : n ≤ 65536) : szS (k :: (enc n ++ r)) = ⟨r, false⟩ ∧ szN (k :: (enc n ++ r)) = n := by
  have h1 : (⟨enc n ++ r, false⟩ : Rs).nat allNat = (n, ⟨r, false⟩) := Rs.nat_enc (by unfold allNat; omega) (by unfold allNat; omega) r false
  unfold szS szN
  rw [List.drop_one, List.tail_cons, h1]
  exact ⟨rfl, rfl⟩
theorem par_form (k : UInt8) (body : List UInt8) : parB k body = k :: (enc body.length ++ (body ++ four (crc (preB k body)))) := by simp [parB, preB]
theorem par_len (k : UInt8) (body : List UInt8) : (parB k body).length = 1 + (enc body.length).length + body.length + 4 := by
  rw [par_form, List.length_cons, List.length_append, List.length_append]
  have : (four (crc (preB k body))).length = 4 := rfl
  omega
theorem tk_more {k : UInt8} {body : List UInt8} (hb : body.length ≤ 65536) (hk : k ≠ 0) (rest : List UInt8) : tkE (parB k body ++ rest) = 0 ∧ tkN (parB k body ++ rest) = (parB k body).length := by
  have e : parB k body ++ rest = k :: (enc body.length ++ (body ++ (four (crc (preB k body)) ++ rest))) := by rw [par_form]; simp
  obtain ⟨h1, h2⟩ := sz_form (k := k) (r := body ++ (four (crc (preB k body)) ++ rest)) hb
  rw [← e] at h1 h2
  have hl : (parB k body ++ rest).length = 1 + (enc body.length).length + (body.length + (4 + rest.length)) := by
    rw [e, List.length_cons, List.length_append, List.length_append, List.length_append]
    have : (four (crc (preB k body))).length = 4 := rfl
    omega
  have hN : tkN (parB k body ++ rest) = (parB k body).length := by
    unfold tkN tkFrom
    rw [h1, h2, hl, par_len]
    simp only [List.length_append]
    have : (four (crc (preB k body))).length = 4 := rfl
    omega
  have hp : (preB k body).length = (parB k body).length - 4 := by unfold parB; rw [List.length_append, four_length]; omega
  have ht : (parB k body ++ rest).take (tkN (parB k body ++ rest) - 4) = preB k body := by
    rw [hN, ← hp]
    unfold parB
    rw [List.append_assoc, List.take_left]
  have hd : ((parB k body ++ rest).drop (tkN (parB k body ++ rest) - 4)).take 4 = four (crc (preB k body)) := by
    rw [hN, ← hp]
    unfold parB
    rw [List.append_assoc, List.drop_left]
    show List.take (four (crc (preB k body))).length _ = _
    exact List.take_left
  refine ⟨?_, hN⟩
  have h0 : ¬ (parB k body ++ rest).getD 0 0 = 0 := by rw [e]; simpa using hk
  have ho : openB ((parB k body ++ rest).drop 1) = false := by rw [e, List.drop_one, List.tail_cons]; exact enc_open _ _
  refine tkE_8 (by omega) h0 ho (by rw [h1]) (by rw [h2]; omega) (by rw [h1, h2]; simp only [List.length_append]; have : (four (crc (preB k body))).length = 4 := rfl; omega) ?_
  rw [ht, hd]
end Go.Proofs.Ytlppgpidakfnlaa
