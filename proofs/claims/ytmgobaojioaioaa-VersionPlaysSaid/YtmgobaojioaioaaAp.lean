
/- Tables of acks as plain data: what the program's table has, what the document's has. -/
namespace Go.Proofs.Ytmgobaojioaioaa
def bitN (v : Int) : Nat := if 1 ≤ v ∧ v ≤ 32 then 2 ^ (v - 1).toNat else 0
abbrev AckL := List (Int × Int)
def hasL (L : AckL) (r v : Int) : Bool := L.any fun a => decide (a.1 = r) && decide (a.2 = v)
def ofK (L : AckL) (r : Int) : Nat → Nat
  | 0 => 0
  | k + 1 => ofK L r k + (if hasL L r ((k : Int) + 1) then 2 ^ k else 0)
def ofN (L : AckL) (r : Int) : Nat := ofK L r 32
theorem bitN_lt (v : Int) : bitN v < 4294967296 := by
  unfold bitN
  split
  · exact Nat.lt_of_le_of_lt (Nat.pow_le_pow_right (by decide) (show (v - 1).toNat ≤ 31 by omega)) (by decide)
  · decide
theorem bitN_bit (v : Int) (u : Nat) : (bitN v).testBit u = decide (u < 32 ∧ v = (u : Int) + 1) := by
  unfold bitN
  split
  · rename_i h
    rw [Nat.testBit_two_pow]
    rw [decide_eq_decide]
    omega
  · rw [Nat.zero_testBit]
    symm
    rw [decide_eq_false_iff_not]
    omega
theorem ofK_lt (L : AckL) (r : Int) : ∀ k, ofK L r k < 2 ^ k
  | 0 => by simp [ofK]
  | k + 1 => by
    have := ofK_lt L r k
    have h2 : 2 ^ (k + 1) = 2 ^ k + 2 ^ k := by rw [Nat.pow_succ]; omega
    unfold ofK
    split <;> omega
theorem ofK_bit (L : AckL) (r : Int) : ∀ k u, (ofK L r k).testBit u = (decide (u < k) && hasL L r ((u : Int) + 1))
  | 0, u => by simp [ofK]
  | k + 1, u => by
    have hlt := ofK_lt L r k
    have ih := ofK_bit L r k u
    unfold ofK
    split
    · rename_i h
      have e : ofK L r k + 2 ^ k = 2 ^ k ||| ofK L r k := by
        have := Nat.two_pow_add_eq_or_of_lt hlt 1
        rw [Nat.mul_one] at this
        omega
      rw [e, Nat.testBit_or, Nat.testBit_two_pow, ih]
      by_cases hu : k = u
      · subst hu; simp [h]
      · have : decide (u < k) = decide (u < k + 1) := by rw [decide_eq_decide]; omega
        simp [hu, this]
    · rename_i h
      rw [Nat.add_zero, ih]
      by_cases hu : u = k
      · subst hu; simp; simpa using h
      · have : decide (u < k) = decide (u < k + 1) := by rw [decide_eq_decide]; omega
        rw [this]
theorem ofN_lt (L : AckL) (r : Int) : ofN L r < 4294967296 := ofK_lt L r 32
theorem ofN_bit (L : AckL) (r : Int) (u : Nat) : (ofN L r).testBit u = (decide (u < 32) && hasL L r ((u : Int) + 1)) := ofK_bit L r 32 u
theorem hasL_snoc (L : AckL) (a : Int × Int) (r v : Int) : hasL (L ++ [a]) r v = (hasL L r v || (decide (a.1 = r) && decide (a.2 = v))) := by
  unfold hasL
  rw [List.any_append]
  simp
/-- an ack more -/
theorem ofN_add (L : AckL) (r v : Int) : ofN L r ||| bitN v = ofN (L ++ [(r, v)]) r := by
  apply Nat.eq_of_testBit_eq
  intro u
  rw [Nat.testBit_or, ofN_bit, ofN_bit, bitN_bit, hasL_snoc]
  by_cases hu : u < 32
  · simp [hu]
  · simp [hu]
theorem ofN_other (L : AckL) {r q : Int} (v : Int) (h : q ≠ r) : ofN (L ++ [(q, v)]) r = ofN L r := by
  apply Nat.eq_of_testBit_eq
  intro u
  rw [ofN_bit, ofN_bit, hasL_snoc]
  simp [h]
theorem ofN_out (L : AckL) {r : Int} (h : ∀ a ∈ L, a.1 ≠ r) : ofN L r = 0 := by
  apply Nat.eq_of_testBit_eq
  intro u
  rw [ofN_bit, Nat.zero_testBit]
  have : hasL L r ((u : Int) + 1) = false := by
    unfold hasL
    rw [List.any_eq_false]
    intro a ha
    simp [h a ha]
  rw [this]; simp
theorem or_same {L : AckL} {r v : Int} (hv : 1 ≤ v ∧ v ≤ 32) : decide (ofN L r ||| bitN v = ofN L r) = hasL L r v := by
  have hb : hasL L r v = (ofN L r).testBit (v - 1).toNat := by
    rw [ofN_bit, decide_eq_true (by omega), Bool.true_and]
    congr 1
    omega
  rw [hb]
  cases h : (ofN L r).testBit (v - 1).toNat with
  | true =>
    rw [decide_eq_true_eq]
    apply Nat.eq_of_testBit_eq
    intro u
    rw [Nat.testBit_or, bitN_bit]
    by_cases hu : u < 32 ∧ v = (u : Int) + 1
    · have : u = (v - 1).toNat := by omega
      rw [this, h]; simp
    · rw [decide_eq_false hu]; simp
  | false =>
    rw [decide_eq_false_iff_not]
    intro e
    have := congrArg (Nat.testBit · (v - 1).toNat) e
    simp only [Nat.testBit_or, h, Bool.false_or, bitN_bit] at this
    rw [decide_eq_true (by omega)] at this
    cases this
end Go.Proofs.Ytmgobaojioaioaa
