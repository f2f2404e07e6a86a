/- The table tells what the document's tells. -/
import Derived.Test.YtmgobaojioaioaaAn
namespace Go.Proofs.Ytmgobaojioaioaa
open Go Go.RowKit Go.Lib
variable {W : World}
def ofF (L : AckL) : Nat → Int := fun i => ((ofN L (i : Int) : Nat) : Int)
def AckOk (n : Int) (L : AckL) : Prop := ∀ a ∈ L, (0 ≤ a.1 ∧ a.1 < n) ∧ (1 ≤ a.2 ∧ a.2 ≤ 32)
theorem ofF_b (L : AckL) : Sb (ofF L) := fun i => by have := ofN_lt L (i : Int); unfold ofF; omega
theorem like_of {n r : Int} {L : AckL} (h : AckOk n L) : ofT n (ofF L) r = (ofN L r : Int) := by
  unfold ofT ofF
  split
  · rw [show ((r.toNat : Nat) : Int) = r from by omega]
  · rw [ofN_out L fun a ha => by have := h a ha; omega]; rfl
theorem hasL_v {n r v : Int} {L : AckL} (h : AckOk n L) (hv : ¬ (1 ≤ v ∧ v ≤ 32)) : hasL L r v = false := by
  unfold hasL
  rw [List.any_eq_false]
  intro a ha
  have := h a ha
  simp only [Bool.and_eq_true, decide_eq_true_eq]
  omega
theorem like_all {n v : Int} {L : AckL} (h : AckOk n L) : allT n (ofF L) v = allL n L v := by
  rcases Int.lt_or_le 0 n with hn | hn
  case inr => unfold allT allL; rw [decide_eq_false (show ¬ 0 < n by omega)]; rfl
  unfold allT allL
  rw [decide_eq_true (show 0 < n by omega), Bool.true_and, Bool.true_and]
  by_cases hv : 1 ≤ v ∧ v ≤ 32
  · rw [decide_eq_true (show bitN v ≠ 0 from fun hz => bitN_zero.1 hz hv), Bool.true_and, decide_eq_decide]
    have key : ∀ i : Nat, orT (ofF L) v i = ofF L i ↔ hasL L (i : Int) v = true := fun i => by
      have h1 := or_same (L := L) (r := (i : Int)) hv
      rw [← h1, decide_eq_true_eq]
      unfold orT ofF
      rw [Int.toNat_natCast]
      omega
    exact ⟨fun hh i hi => (key i).1 (hh i hi), fun hh i hi => (key i).2 (hh i hi)⟩
  · rw [bitN_out hv, decide_eq_false (show ¬ (0 : Nat) ≠ 0 by decide), Bool.false_and, eq_comm, decide_eq_false_iff_not]
    intro hh
    have := hh 0 (by omega)
    rw [hasL_v h hv] at this
    cases this
-- like_calls: no such function here
end Go.Proofs.Ytmgobaojioaioaa
