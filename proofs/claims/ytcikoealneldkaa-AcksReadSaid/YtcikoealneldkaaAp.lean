/- Tables of acks as plain data: what the program's table has, what the document's has. -/
namespace Go.Proofs.Ytcikoealneldkaa
def bitN (v : Int) : Nat := if 1 ≤ v ∧ v ≤ 32 then 2 ^ (v - 1).toNat else 0
abbrev AckL := List (Int × Int)
def hasL (L : AckL) (r v : Int) : Bool := L.any fun a => decide (a.1 = r) && decide (a.2 = v)
def ofK (L : AckL) (r : Int) : Nat → Nat
  | 0 => 0
  | k + 1 => ofK L r k + (if hasL L r ((k : Int) + 1) then 2 ^ k else 0)
def ofN (L : AckL) (r : Int) : Nat := ofK L r 32
theorem bitN_lt (v : Int) : bitN v < 4294967296 := by
  unfold bitN
  split
  · exact Nat.lt_of_le_of_lt (Nat.pow_le_pow_right (by decide) (show (v - 1).toNat ≤ 31 by omega)) (by decide)
  · decide
theorem bitN_bit (v : Int) (u : Nat) : (bitN v).testBit u = decide (u < 32 ∧ v = (u : Int) + 1) := by
  unfold bitN
  split
  · rename_i h
    rw [Nat.testBit_two_pow]
    rw [decide_eq_decide]
    omega
  · rw [Nat.zero_testBit]
    symm
    rw [decide_eq_false_iff_not]
    omega
theorem ofK_lt (L : AckL) (r : Int) : ∀ k, ofK L r k < 2 ^ k
  | 0 => by simp [ofK]
  | k + 1 => by
    have := ofK_lt L r k
    have h2 : 2 ^ (k + 1) = 2 ^ k + 2 ^ k := by rw [Nat.pow_succ]; omega
    unfold ofK
    split <;> omega
theorem ofK_bit (L : AckL) (r : Int) : ∀ k u, (ofK L r k).testBit u = (decide (u < k) && hasL L r ((u : Int) + 1))
  | 0, u => by simp [ofK]
  | k + 1, u => by
    have hlt := ofK_lt L r k
    have ih := ofK_bit L r k u
    unfold ofK
    split
    · rename_i h
      have e : ofK L r k + 2 ^ k = 2 ^ k ||| ofK L r k := by
        have := Nat.two_pow_add_eq_or_of_lt hlt 1
        rw [Nat.mul_one] at this
        omega
      rw [e, Nat.testBit_or, Nat.testBit_two_pow, ih]
      by_cases hu : k = u
      · subst hu; simp [h]
      · have : decide (u < k) = decide (u < k + 1) := by rw [decide_eq_decide]; omega
        simp [hu, this]
    · rename_i h
      rw [Nat.add_zero, ih]
      by_cases hu : u = k
      · subst hu; simp; simpa using h
      · have : decide (u < k) = decide (u < k + 1) := by rw [decide_eq_decide]; omega
        rw [this]
theorem ofN_lt (L : AckL) (r : Int) : ofN L r < 4294967296 := ofK_lt L r 32
theorem ofN_bit (L : AckL) (r : Int) (u : Nat) : (ofN L r).testBit u = (decide (u < 32) && hasL L r ((u : Int) + 1)) := ofK_bit L r 32 u
theorem hasL_snoc (L : AckL) (a : Int × Int) (r v : Int) : hasL (L ++ [a]) r v = (hasL L r v || (decide (a.1 = r) && decide (a.2 = v))) := by
  unfold hasL
  rw [List.any_append]
  simp
/-- an ack more -/
theorem ofN_add (L : AckL) (r v : Int) : ofN L r ||| bitN v = ofN (L ++ [(r, v)]) r := by
  apply Nat.eq_of_testBit_eq
  intro u
  rw [Nat.testBit_or, ofN_bit, ofN_bit, bitN_bit, hasL_snoc]
  by_cases hu : u < 32
  · simp [hu]
  · simp [hu]
theorem ofN_other (L : AckL) {r q : Int} (v : Int) (h : q ≠ r) : ofN (L ++ [(q, v)]) r = ofN L r := by
  apply Nat.eq_of_testBit_eq
  intro u
  rw [ofN_bit, ofN_bit, hasL_snoc]
  simp [h]
def dropL (L : AckL) (v : Int) : AckL := L.filter fun a => decide (a.2 ≠ v)
theorem hasL_drop (L : AckL) (r v u : Int) : hasL (dropL L v) r u = (hasL L r u && decide (u ≠ v)) := by
  unfold hasL dropL
  induction L with
  | nil => simp
  | cons a L ih =>
    rw [List.filter_cons]
    by_cases h : a.2 = v
    · rw [if_neg (by simpa using h), ih, List.any_cons]
      by_cases hu : u = v
      · simp [hu]
      · have : decide (a.2 = u) = false := decide_eq_false (by omega)
        simp [this]
    · rw [if_pos (by simpa using h), List.any_cons, ih, List.any_cons]
      by_cases hu : u = v
      · subst hu
        simp [h]
      · simp [hu]
/-- a version less -/
def andn (a b : Nat) : Nat := a &&& (18446744073709551615 - b)
theorem andn_bit {a b : Nat} (hb : b < 18446744073709551616) (u : Nat) (hu : u < 64) : (andn a b).testBit u = (a.testBit u && !b.testBit u) := by
  unfold andn
  rw [Nat.testBit_and]
  have : 18446744073709551615 - b = 2 ^ 64 - (b + 1) := by omega
  rw [this, Nat.testBit_two_pow_sub_succ (by omega)]
  simp [hu]
theorem andn_le (a b : Nat) : andn a b ≤ a := Nat.and_le_left
theorem ofN_drop (L : AckL) (r v : Int) : andn (ofN L r) (bitN v) = ofN (dropL L v) r := by
  apply Nat.eq_of_testBit_eq
  intro u
  have hb := bitN_lt v
  by_cases hu : u < 64
  · rw [andn_bit (by omega) u hu, ofN_bit, ofN_bit, bitN_bit, hasL_drop]
    by_cases h32 : u < 32
    · simp only [h32, decide_true, Bool.true_and, true_and]
      congr 1
      rw [← decide_not, decide_eq_decide]
      omega
    · simp [h32]
  · have h1 := ofN_lt L r
    have h2 := ofN_lt (dropL L v) r
    have h3 := andn_le (ofN L r) (bitN v)
    have hp : 4294967296 ≤ 2 ^ u := Nat.le_trans (by decide) (Nat.pow_le_pow_right (n := 2) (by decide) (show 32 ≤ u by omega))
    rw [Nat.testBit_lt_two_pow (by omega), Nat.testBit_lt_two_pow (by omega)]
theorem ofN_has (L : AckL) {r v : Int} (hv : ∀ a ∈ L, 1 ≤ a.2 ∧ a.2 ≤ 32) : decide (ofN L r &&& bitN v ≠ 0) = hasL L r v := by
  have hbits : ∀ u, (ofN L r &&& bitN v).testBit u = (decide (u < 32 ∧ v = (u : Int) + 1) && hasL L r v) := by
    intro u
    rw [Nat.testBit_and, ofN_bit, bitN_bit]
    by_cases h : u < 32 ∧ v = (u : Int) + 1
    · obtain ⟨h1, h2⟩ := h
      subst h2
      simp [h1]
    · rw [decide_eq_false h]
      simp
  cases hh : hasL L r v with
  | false =>
    rw [decide_eq_false_iff_not]
    intro hne
    apply hne
    apply Nat.eq_of_testBit_eq
    intro u
    rw [hbits, hh]
    simp
  | true =>
    rw [decide_eq_true_eq]
    intro h0
    unfold hasL at hh
    obtain ⟨a, ha, h1⟩ := List.any_eq_true.1 hh
    simp only [Bool.and_eq_true, decide_eq_true_eq] at h1
    have h2 := hv a ha
    have h3 := hbits (v - 1).toNat
    rw [h0, Nat.zero_testBit, decide_eq_true (by omega)] at h3
    have : hasL L r v = true := by unfold hasL; exact hh
    rw [this] at h3
    cases h3
theorem ofN_out (L : AckL) {r : Int} (h : ∀ a ∈ L, a.1 ≠ r) : ofN L r = 0 := by
  apply Nat.eq_of_testBit_eq
  intro u
  rw [ofN_bit, Nat.zero_testBit]
  have : hasL L r ((u : Int) + 1) = false := by
    unfold hasL
    rw [List.any_eq_false]
    intro a ha
    simp [h a ha]
  rw [this]; simp
theorem or_same {L : AckL} {r v : Int} (hv : 1 ≤ v ∧ v ≤ 32) : decide (ofN L r ||| bitN v = ofN L r) = hasL L r v := by
  have hb : hasL L r v = (ofN L r).testBit (v - 1).toNat := by
    rw [ofN_bit, decide_eq_true (by omega), Bool.true_and]
    congr 1
    omega
  rw [hb]
  cases h : (ofN L r).testBit (v - 1).toNat with
  | true =>
    rw [decide_eq_true_eq]
    apply Nat.eq_of_testBit_eq
    intro u
    rw [Nat.testBit_or, bitN_bit]
    by_cases hu : u < 32 ∧ v = (u : Int) + 1
    · have : u = (v - 1).toNat := by omega
      rw [this, h]; simp
    · rw [decide_eq_false hu]; simp
  | false =>
    rw [decide_eq_false_iff_not]
    intro e
    have := congrArg (Nat.testBit · (v - 1).toNat) e
    simp only [Nat.testBit_or, h, Bool.false_or, bitN_bit] at this
    rw [decide_eq_true (by omega)] at this
    cases this
end Go.Proofs.Ytcikoealneldkaa
