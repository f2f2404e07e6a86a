/- Parcels one behind the other: where they end. -/
import Derived.Test.YtlppgpidakfnlaaPd
import Derived.Test.YtlppgpidakfnlaaRf
namespace Go.Proofs.Ytlppgpidakfnlaa
open Go Go.RowKit Go.Lib
variable {W : World}
/-- where the k-th parcel begins -/
def pos (bs : List UInt8) : Nat → Nat
  | 0 => 0
  | k + 1 => pos bs k + tkN (bs.drop (pos bs k))
def whole (bs : List UInt8) : Nat → Bool
  | 0 => true
  | k + 1 => whole bs k && decide (tkE (bs.drop (pos bs k)) = 0)
theorem tk_zero {b : List UInt8} (h : tkE b = 0) : b.length ≠ 0 ∧ b.getD 0 0 ≠ 0 ∧ szN b + 4 ≤ (szS b).left.length ∧ szN b ≤ 65536 := by
  by_cases h0 : b.length = 0
  · rw [tkE_1 h0] at h; cases h
  · by_cases h1 : b.getD 0 0 = 0
    · rw [tkE_2 h0 h1] at h; cases h
    · cases h2 : openB (b.drop 1) with
      | true => rw [tkE_3 h0 h1 h2] at h; cases h
      | false =>
        cases h3 : (szS b).bad with
        | true => rw [tkE_4 h0 h1 h2 h3] at h; cases h
        | false =>
          by_cases h4 : 65536 < szN b
          · rw [tkE_5 h0 h1 h2 h3 h4] at h; cases h
          · by_cases h5 : (szS b).left.length < szN b + 4
            · rw [tkE_6 h0 h1 h2 h3 h4 h5] at h; cases h
            · exact ⟨h0, h1, by omega, by omega⟩
theorem tkN_le {b : List UInt8} (h : tkE b = 0) : 0 < tkN b ∧ tkN b ≤ b.length := by
  have h1 := (tk_zero h).1
  have h3 := (tk_zero h).2.2.1
  have h2 := sz_left b
  refine ⟨by unfold tkN; omega, ?_⟩
  unfold tkN tkFrom
  omega
structure It where
  k : UInt8
  A : Option Addr
  c : Nat
  l : List UInt8
end Go.Proofs.Ytlppgpidakfnlaa
