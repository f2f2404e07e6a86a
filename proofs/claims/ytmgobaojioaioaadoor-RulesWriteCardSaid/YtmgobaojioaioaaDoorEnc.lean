
/- Numbers and texts as bytes: plain functions. -/
namespace Go.Proofs.YtmgobaojioaioaaDoor
def enc (n : Nat) : List UInt8 := if n < 128 then [UInt8.ofNat n] else UInt8.ofNat (n % 128 + 128) :: enc (n / 128)
termination_by n
theorem enc_small {n : Nat} (h : n < 128) : enc n = [UInt8.ofNat n] := by rw [enc, if_pos h]
theorem enc_big {n : Nat} (h : 128 ≤ n) : enc n = UInt8.ofNat (n % 128 + 128) :: enc (n / 128) := by rw [enc, if_neg (by omega)]
set_option maxRecDepth 100000 in
theorem or128 (n : Nat) : n % 256 ||| 128 = n % 128 + 128 := by
  have h1 : ∀ m, m < 256 → m ||| 128 = m % 128 + 128 := by decide
  rw [h1 _ (Nat.mod_lt _ (by decide)), Nat.mod_mod_of_dvd _ (by decide)]
/-- from 64 bits at most ten bytes -/
theorem enc_length (k : Nat) : ∀ n, n < 128 ^ k → 0 < k → (enc n).length ≤ k := by
  induction k with
  | zero => intro n _ h; omega
  | succ k ih =>
    intro n hn _
    by_cases h : n < 128
    · rw [enc_small h]; simp
    · rw [enc_big (by omega), List.length_cons]
      have hk : 0 < k := by
        rcases Nat.eq_zero_or_pos k with h0 | h0
        · subst h0; omega
        · exact h0
      have := ih (n / 128) (by rw [Nat.pow_succ] at hn; omega) hk
      omega
theorem enc_ten {n : Nat} (h : n < 18446744073709551616) : (enc n).length ≤ 10 := enc_length 10 n (by omega) (by omega)
theorem grp_bound {j g : Nat} (hj : j ≤ 9) (hg : g < 128) (h9 : j = 9 → g ≤ 1) : g * 128 ^ j + 128 ^ j ≤ 18446744073709551616 := by
  have : j = 0 ∨ j = 1 ∨ j = 2 ∨ j = 3 ∨ j = 4 ∨ j = 5 ∨ j = 6 ∨ j = 7 ∨ j = 8 ∨ j = 9 := by omega
  rcases this with rfl | rfl | rfl | rfl | rfl | rfl | rfl | rfl | rfl | rfl <;> simp <;> omega
theorem pow_succ128 (j : Nat) : 128 ^ (j + 1) = 128 ^ j * 128 := Nat.pow_succ .. 
theorem acc_next {j g acc : Nat} (hg : g < 128) (ha : acc < 128 ^ j) : acc + g * 128 ^ j < 128 ^ (j + 1) := by
  rw [pow_succ128]
  have h1 : g * 128 ^ j ≤ 127 * 128 ^ j := Nat.mul_le_mul_right _ (by omega)
  omega
theorem or_acc {j g acc : Nat} (ha : acc < 128 ^ j) : acc ||| g * 128 ^ j = acc + g * 128 ^ j := by
  have e : 128 ^ j = 2 ^ (7 * j) := by rw [show (128 : Nat) = 2 ^ 7 from rfl, ← Nat.pow_mul]
  rw [e] at ha ⊢
  rw [Nat.or_comm, Nat.mul_comm g, ← Nat.two_pow_add_eq_or_of_lt ha, Nat.add_comm]
set_option maxRecDepth 100000 in
theorem and128 : ∀ c, c < 256 → (c &&& 128 = 0 ↔ c < 128) := by decide
/-- a number's bytes read: i: how many were read, acc: what they say -/
def decFrom (most : Nat) : Nat → Nat → List UInt8 → Option (Nat × List UInt8)
  | _, _, [] => none
  | i, acc, c :: rest =>
    if 10 ≤ i then none
    else if i = 9 ∧ 1 < c.toNat % 128 then none
    else if 128 ≤ c.toNat then decFrom most (i + 1) (acc + c.toNat % 128 * 128 ^ i) rest
    else if (0 < i ∧ c.toNat = 0) ∨ most < acc + c.toNat % 128 * 128 ^ i then none
    else some (acc + c.toNat % 128 * 128 ^ i, rest)
/-- what is left to read; whether it is bad -/
structure Rs where
  left : List UInt8
  bad : Bool
def Rs.fail (_ : Rs) : Rs := ⟨[], true⟩
def Rs.nat (s : Rs) (most : Nat) : Nat × Rs :=
  match decFrom most 0 0 s.left with
  | some (n, rest) => (n, ⟨rest, s.bad⟩)
  | none => (0, s.fail)
def unzig (n : Nat) : Int := if n % 2 = 0 then ((n / 2 : Nat) : Int) else -((n / 2 : Nat) : Int) - 1
def zig (i : Int) : Nat := if 0 ≤ i then 2 * i.toNat else 2 * (-(i + 1)).toNat + 1
def allNat : Nat := 18446744073709551615
def Rs.int (s : Rs) : Int × Rs := (unzig (s.nat allNat).1, (s.nat allNat).2)
def Rs.text (s : Rs) (most : Int) : List UInt8 × Rs :=
  if most < 0 then ([], s.fail)
  else if (s.nat most.toNat).2.left.length < (s.nat most.toNat).1 then ([], s.fail)
  else ((s.nat most.toNat).2.left.take (s.nat most.toNat).1, ⟨(s.nat most.toNat).2.left.drop (s.nat most.toNat).1, (s.nat most.toNat).2.bad⟩)
theorem decFrom_cons (most i acc : Nat) (c : UInt8) (l : List UInt8) : decFrom most i acc (c :: l) = if 10 ≤ i then none else if i = 9 ∧ 1 < c.toNat % 128 then none else if 128 ≤ c.toNat then decFrom most (i + 1) (acc + c.toNat % 128 * 128 ^ i) l
    else if (0 < i ∧ c.toNat = 0) ∨ most < acc + c.toNat % 128 * 128 ^ i then none else some (acc + c.toNat % 128 * 128 ^ i, l) := by rw [decFrom]
theorem drop_getD {l : List UInt8} {j : Nat} (h : j < l.length) : l.drop j = l.getD j 0 :: l.drop (j + 1) := by
  rw [List.drop_eq_getElem_cons h, List.getD_eq_getElem?_getD, List.getElem?_eq_getElem h]; rfl
section
variable {most j acc : Nat} {l : List UInt8}
theorem dec_end (hj : l.length ≤ j) : decFrom most j acc (l.drop j) = none := by rw [List.drop_eq_nil_of_le hj, decFrom]
theorem dec_far (hj : j < l.length) (h : 10 ≤ j ∨ j = 9 ∧ 1 < (l.getD j 0).toNat % 128) : decFrom most j acc (l.drop j) = none := by
  rw [drop_getD hj, decFrom_cons]
  rcases h with h | h
  · rw [if_pos h]
  · rw [if_neg (by omega), if_pos h]
theorem dec_more (hj : j < l.length) (hj9 : j ≤ 9) (h9 : j = 9 → (l.getD j 0).toNat % 128 ≤ 1) (hc : 128 ≤ (l.getD j 0).toNat) :
    decFrom most j acc (l.drop j) = decFrom most (j + 1) (acc + (l.getD j 0).toNat % 128 * 128 ^ j) (l.drop (j + 1)) := by
  rw [drop_getD hj, decFrom_cons, if_neg (by omega), if_neg (by omega), if_pos hc]
theorem dec_bad (hj : j < l.length) (hj9 : j ≤ 9) (h9 : j = 9 → (l.getD j 0).toNat % 128 ≤ 1) (hc : (l.getD j 0).toNat < 128) (h : (0 < j ∧ (l.getD j 0).toNat = 0) ∨ most < acc + (l.getD j 0).toNat % 128 * 128 ^ j) :
    decFrom most j acc (l.drop j) = none := by
  rw [drop_getD hj, decFrom_cons, if_neg (by omega), if_neg (by omega), if_neg (by omega), if_pos h]
theorem dec_done (hj : j < l.length) (hj9 : j ≤ 9) (h9 : j = 9 → (l.getD j 0).toNat % 128 ≤ 1) (hc : (l.getD j 0).toNat < 128) (h : ¬ ((0 < j ∧ (l.getD j 0).toNat = 0) ∨ most < acc + (l.getD j 0).toNat % 128 * 128 ^ j)) :
    decFrom most j acc (l.drop j) = some (acc + (l.getD j 0).toNat % 128 * 128 ^ j, l.drop (j + 1)) := by
  rw [drop_getD hj, decFrom_cons, if_neg (by omega), if_neg (by omega), if_neg (by omega), if_neg h]
end
theorem Rs.nat_none {s : Rs} {most : Nat} (h : decFrom most 0 0 s.left = none) : s.nat most = (0, s.fail) := by unfold Rs.nat; rw [h]
theorem Rs.nat_some {s : Rs} {most n : Nat} {rest : List UInt8} (h : decFrom most 0 0 s.left = some (n, rest)) : s.nat most = (n, ⟨rest, s.bad⟩) := by unfold Rs.nat; rw [h]
theorem xor_ones {n x : Nat} (h : x < 2 ^ n) : x ^^^ (2 ^ n - 1) = 2 ^ n - 1 - x := by
  apply Nat.eq_of_testBit_eq
  intro i
  rw [Nat.testBit_xor, Nat.testBit_two_pow_sub_one, show 2 ^ n - 1 - x = 2 ^ n - (x + 1) from by omega, Nat.testBit_two_pow_sub_succ h]
  by_cases hi : i < n
  · simp [hi]
  · have : x.testBit i = false := Nat.testBit_lt_two_pow (Nat.lt_of_lt_of_le h (Nat.pow_le_pow_right (by omega) (by omega)))
    simp [hi, this]
theorem zig_bits {a : Int} (h0 : -9223372036854775808 ≤ a) (h1 : a ≤ 9223372036854775807) : (((a % 18446744073709551616) * 2) % 18446744073709551616).toNat ^^^ ((a / 9223372036854775808) % 18446744073709551616).toNat = zig a := by
  unfold zig
  by_cases h : 0 ≤ a
  · rw [if_pos h, show a / 9223372036854775808 = 0 from by omega, show ((0 : Int) % 18446744073709551616).toNat = 0 from rfl, Nat.xor_zero]
    omega
  · rw [if_neg h, show a / 9223372036854775808 = -1 from by omega, show ((-1 : Int) % 18446744073709551616).toNat = 2 ^ 64 - 1 from rfl, xor_ones (by omega)]
    omega
theorem zig_lt {a : Int} (h0 : -9223372036854775808 ≤ a) (h1 : a ≤ 9223372036854775807) : zig a < 18446744073709551616 := by
  unfold zig; split <;> omega
theorem unzig_zig {a : Int} : unzig (zig a) = a := by
  unfold unzig zig
  by_cases h : 0 ≤ a
  · rw [if_pos h, if_pos (by omega)]; omega
  · rw [if_neg h, if_neg (by omega)]; omega
theorem unzig_range {n : Nat} (h : n < 18446744073709551616) : -9223372036854775808 ≤ unzig n ∧ unzig n ≤ 9223372036854775807 := by
  unfold unzig; split <;> omega
theorem decFrom_most {most i acc n : Nat} {l rest : List UInt8} (h : decFrom most i acc l = some (n, rest)) : n ≤ most := by
  induction l generalizing i acc with
  | nil => cases h
  | cons c l ih =>
    unfold decFrom at h
    split at h
    · cases h
    · split at h
      · cases h
      · split at h
        · exact ih h
        · split at h
          · cases h
          · rename_i h1
            simp only [Option.some.injEq, Prod.mk.injEq] at h
            omega
theorem Rs.nat_le (s : Rs) (most : Nat) : (s.nat most).1 ≤ most := by
  unfold Rs.nat
  cases h : decFrom most 0 0 s.left with
  | none => simp
  | some q => exact decFrom_most h
theorem u8_ofNat {n : Nat} (h : n < 256) : (UInt8.ofNat n).toNat = n := by rw [UInt8.toNat_ofNat']; exact Nat.mod_eq_of_lt h
theorem split128 (m p : Nat) : m * p = m % 128 * p + m / 128 * (p * 128) := by
  have h : m = m % 128 + 128 * (m / 128) := (Nat.mod_add_div m 128).symm
  calc m * p = (m % 128 + 128 * (m / 128)) * p := by rw [← h]
    _ = m % 128 * p + 128 * (m / 128) * p := Nat.add_mul ..
    _ = m % 128 * p + m / 128 * (p * 128) := by rw [Nat.mul_comm 128, Nat.mul_assoc, Nat.mul_comm 128 p]
theorem nine {i m : Nat} (hi : i ≤ 9) (h : m * 128 ^ i < 18446744073709551616) : i = 9 → m ≤ 1 := by
  rintro rfl
  simp at h
  omega
theorem dec_enc {most : Nat} : ∀ (k m i acc : Nat) (rest : List UInt8), m ≤ k → i ≤ 9 → m * 128 ^ i < 18446744073709551616 → (0 < i → 0 < m) → acc + m * 128 ^ i ≤ most → decFrom most i acc (enc m ++ rest) = some (acc + m * 128 ^ i, rest) := by
  intro k
  induction k with
  | zero =>
    intro m i acc rest hk hi h h0 hm
    obtain rfl : m = 0 := by omega
    rw [enc_small (by decide), List.singleton_append, decFrom_cons, u8_ofNat (by decide), if_neg (by omega), if_neg (by omega), if_neg (by omega), if_neg (by omega)]
  | succ k ih =>
    intro m i acc rest hk hi h h0 hm
    have h9 := nine hi h
    by_cases hs : m < 128
    · rw [enc_small hs, List.singleton_append, decFrom_cons, u8_ofNat (by omega), Nat.mod_eq_of_lt hs, if_neg (by omega), if_neg (by omega), if_neg (by omega), if_neg (by omega)]
    · have hsp := split128 m (128 ^ i)
      rw [← pow_succ128] at hsp
      rw [enc_big (by omega), List.cons_append, decFrom_cons, u8_ofNat (by omega), if_neg (by omega), if_neg (by omega), if_pos (by omega), show (m % 128 + 128) % 128 = m % 128 from by omega]
      rw [ih (m / 128) (i + 1) _ rest (by omega) (by omega) (by omega) (fun _ => by omega) (by omega)]
      rw [hsp, Nat.add_assoc]
theorem dec_only {most : Nat} : ∀ (l : List UInt8) (i acc n : Nat) (rest : List UInt8), decFrom most i acc l = some (n, rest) → ∃ m, n = acc + m * 128 ^ i ∧ l = enc m ++ rest ∧ (0 < i → 0 < m) := by
  intro l
  induction l with
  | nil => intro i acc n rest h; cases h
  | cons c l ih =>
    intro i acc n rest h
    rw [decFrom_cons] at h
    have hc := c.toNat_lt
    split at h
    · cases h
    · split at h
      · cases h
      · split at h
        · obtain ⟨m, h1, h2, h3⟩ := ih _ _ _ _ h
          have h3 := h3 (by omega)
          have hsp := split128 (m * 128 + c.toNat % 128) (128 ^ i)
          rw [show (m * 128 + c.toNat % 128) % 128 = c.toNat % 128 from by omega, show (m * 128 + c.toNat % 128) / 128 = m from by omega, ← pow_succ128] at hsp
          refine ⟨m * 128 + c.toNat % 128, by omega, ?_, fun _ => by omega⟩
          rw [enc_big (by omega), show (m * 128 + c.toNat % 128) % 128 = c.toNat % 128 from by omega, show (m * 128 + c.toNat % 128) / 128 = m from by omega, List.cons_append, ← h2, show c.toNat % 128 + 128 = c.toNat from by omega, UInt8.ofNat_toNat]
        · split at h
          · cases h
          · rename_i h5 h6
            simp only [Option.some.injEq, Prod.mk.injEq] at h
            refine ⟨c.toNat, ?_, ?_, fun _ => by omega⟩
            · rw [← h.1, Nat.mod_eq_of_lt (by omega)]
            · rw [enc_small (by omega), UInt8.ofNat_toNat, h.2]; rfl
theorem Rs.nat_enc {n most : Nat} (hn : n ≤ most) (hm : most < 18446744073709551616) (rest : List UInt8) (b : Bool) : (Rs.mk (enc n ++ rest) b).nat most = (n, ⟨rest, b⟩) := by
  have h := dec_enc (most := most) n n 0 0 rest (Nat.le_refl _) (by omega) (by simp; omega) (by omega) (by simpa using hn)
  simp only [Nat.pow_zero, Nat.mul_one, Nat.zero_add] at h
  exact Rs.nat_some (s := ⟨enc n ++ rest, b⟩) h
theorem Rs.nat_only {s : Rs} {most : Nat} (h : (s.nat most).2.bad = false) : s.left = enc (s.nat most).1 ++ (s.nat most).2.left ∧ s.bad = false := by
  cases hd : decFrom most 0 0 s.left with
  | none => rw [Rs.nat_none hd] at h; cases h
  | some q =>
    obtain ⟨n, rest⟩ := q
    obtain ⟨m, h1, h2, _⟩ := dec_only _ _ _ _ _ hd
    rw [Rs.nat_some hd] at h ⊢
    simp only [Nat.pow_zero, Nat.mul_one, Nat.zero_add] at h1
    exact ⟨by rw [h2, h1], h⟩
theorem Rs.int_enc {a : Int} (h0 : -9223372036854775808 ≤ a) (h1 : a ≤ 9223372036854775807) (rest : List UInt8) (b : Bool) : (Rs.mk (enc (zig a) ++ rest) b).int = (a, ⟨rest, b⟩) := by
  unfold Rs.int
  rw [Rs.nat_enc (by have := zig_lt h0 h1; unfold allNat; omega) (by decide), unzig_zig]
theorem zig_unzig {n : Nat} : zig (unzig n) = n := by
  unfold zig unzig
  by_cases h : n % 2 = 0
  · rw [if_pos h, if_pos (by omega)]; omega
  · rw [if_neg h, if_neg (by omega)]; omega
theorem Rs.int_only {s : Rs} (h : s.int.2.bad = false) : s.left = enc (zig s.int.1) ++ s.int.2.left ∧ s.bad = false := by
  unfold Rs.int at h ⊢
  rw [zig_unzig]
  exact Rs.nat_only h
end Go.Proofs.YtmgobaojioaioaaDoor
