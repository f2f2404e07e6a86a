/- Check sums and parcels: plain. -/
import Derived.Test.YtlppgpidakfnlaaCt
import Derived.Test.YtlppgpidakfnlaaCe
import Derived.Test.YtlppgpidakfnlaaQb
import Derived.Test.YtlppgpidakfnlaaCl
namespace Go.Proofs.Ytlppgpidakfnlaa
open Go Go.RowKit Go.Lib
variable {W : World}
def cpoly : Nat := 3988292384
def cst (n : Nat) : Nat := (n / 2) ^^^ (if n % 2 = 1 then cpoly else 0)
def cit : Nat → Nat → Nat
  | 0, n => n
  | k + 1, n => cst (cit k n)
theorem xor_half (a b : Nat) : (a ^^^ b) / 2 = a / 2 ^^^ b / 2 := by
  apply Nat.eq_of_testBit_eq
  intro i
  rw [Nat.testBit_div_two, Nat.testBit_xor, Nat.testBit_xor, Nat.testBit_div_two, Nat.testBit_div_two]
theorem xor_odd (a b : Nat) : (a ^^^ b) % 2 = (a % 2 + b % 2) % 2 := by
  have h := Nat.testBit_xor a b 0
  rw [Nat.testBit_zero, Nat.testBit_zero, Nat.testBit_zero] at h
  have ha : a % 2 = 0 ∨ a % 2 = 1 := by omega
  have hb : b % 2 = 0 ∨ b % 2 = 1 := by omega
  have hc : (a ^^^ b) % 2 = 0 ∨ (a ^^^ b) % 2 = 1 := by omega
  rcases ha with ha | ha <;> rcases hb with hb | hb <;> rcases hc with hc | hc <;> simp [ha, hb, hc] at h ⊢
theorem cst_xor (a b : Nat) : cst (a ^^^ b) = cst a ^^^ cst b := by
  unfold cst
  rw [xor_half, xor_odd]
  have ha : a % 2 = 0 ∨ a % 2 = 1 := by omega
  have hb : b % 2 = 0 ∨ b % 2 = 1 := by omega
  rcases ha with ha | ha <;> rcases hb with hb | hb <;> simp only [ha, hb]
  · simp
  · simp [Nat.xor_assoc]
  · simp only [if_true]
    rw [if_neg (by decide), Nat.xor_zero, Nat.xor_assoc, Nat.xor_assoc, Nat.xor_comm (b / 2)]
  · rw [if_neg (by decide), if_pos True.intro, Nat.xor_zero, Nat.xor_assoc, Nat.xor_comm cpoly, Nat.xor_assoc, Nat.xor_self, Nat.xor_zero]
theorem cit_xor (k a b : Nat) : cit k (a ^^^ b) = cit k a ^^^ cit k b := by
  induction k with
  | zero => rfl
  | succ k ih => rw [cit, ih, cst_xor]; rfl
theorem cst_even (m : Nat) : cst (2 * m) = m := by
  unfold cst
  rw [if_neg (by omega), Nat.xor_zero]
  omega
theorem cit_add (j k n : Nat) : cit (j + k) n = cit j (cit k n) := by
  induction j with
  | zero => rw [Nat.zero_add]; rfl
  | succ j ih => rw [Nat.succ_add, cit, ih]; rfl
theorem cit4_16 (m : Nat) : cit 4 (16 * m) = m := by
  show cst (cst (cst (cst (16 * m)))) = m
  rw [show 16 * m = 2 * (2 * (2 * (2 * m))) by omega, cst_even, cst_even, cst_even, cst_even]
theorem split16 (n : Nat) : n = (16 * (n / 16)) ^^^ (n % 16) := by
  apply Nat.eq_of_testBit_eq
  intro i
  rw [Nat.testBit_xor]
  have e1 : n % 16 = n % 2 ^ 4 := rfl
  rw [e1, Nat.testBit_mod_two_pow, show 16 * (n / 16) = n / 2 ^ 4 * 2 ^ 4 by omega, Nat.testBit_mul_two_pow, Nat.testBit_div_two_pow]
  by_cases h : i < 4
  · simp [h, show ¬ 4 ≤ i by omega]
  · have : i - 4 + 4 = i := by omega
    simp [h, this]
    intro; omega
theorem cit4 (n : Nat) : cit 4 n = n / 16 ^^^ cit 4 (n % 16) := by
  conv => lhs; rw [split16 n]
  rw [cit_xor, cit4_16]
def crcB (n c : Nat) : Nat := cit 8 (n ^^^ c)
def rst (p : Nat × Nat) : Nat × Nat := ((p.1 / 2) ^^^ (if p.1 % 2 ≠ p.2 % 2 then cpoly else 0), p.2 / 2)
def rit : Nat → Nat × Nat → Nat × Nat
  | 0, p => p
  | k + 1, p => rst (rit k p)
theorem rst_xor (p : Nat × Nat) : (rst p).1 ^^^ (rst p).2 = cst (p.1 ^^^ p.2) := by
  unfold rst cst
  rw [xor_half, xor_odd]
  have ha : p.1 % 2 = 0 ∨ p.1 % 2 = 1 := by omega
  have hb : p.2 % 2 = 0 ∨ p.2 % 2 = 1 := by omega
  rcases ha with ha | ha <;> rcases hb with hb | hb <;> simp only [ha, hb]
  · rw [if_neg (by decide), if_neg (by decide), Nat.xor_zero, Nat.xor_zero]
  · rw [if_pos (by decide), if_pos (by decide), Nat.xor_assoc, Nat.xor_assoc, Nat.xor_comm cpoly]
  · rw [if_pos (by decide), if_pos (by decide), Nat.xor_assoc, Nat.xor_assoc, Nat.xor_comm cpoly]
  · rw [if_neg (by decide), if_neg (by decide), Nat.xor_zero, Nat.xor_zero]
theorem rit_xor (k : Nat) (p : Nat × Nat) : (rit k p).1 ^^^ (rit k p).2 = cit k (p.1 ^^^ p.2) := by
  induction k with
  | zero => rfl
  | succ k ih => rw [rit, rst_xor, ih]; rfl
theorem rit_snd (k : Nat) (p : Nat × Nat) : (rit k p).2 = p.2 / 2 ^ k := by
  induction k with
  | zero => simp [rit]
  | succ k ih => rw [rit, Nat.pow_succ, ← Nat.div_div_eq_div_mul, ← ih]; rfl
theorem rit8 (n c : Nat) (hc : c < 256) : (rit 8 (n, c)).1 = crcB n c := by
  have h := rit_xor 8 (n, c)
  rw [rit_snd, Nat.div_eq_of_lt (show (n, c).2 < 2 ^ 8 from hc), Nat.xor_zero] at h
  exact h
theorem cst_lt {n : Nat} (h : n < 4294967296) : cst n < 4294967296 := by
  unfold cst
  have h1 : n / 2 < 2 ^ 32 := by omega
  split
  · exact Nat.xor_lt_two_pow h1 (by decide)
  · rw [Nat.xor_zero]; omega
theorem cit_lt {n : Nat} (h : n < 4294967296) : ∀ k, cit k n < 4294967296
  | 0 => h
  | k + 1 => cst_lt (cit_lt h k)
theorem crcB_lt {n c : Nat} (h : n < 4294967296) (hc : c < 256) : crcB n c < 4294967296 := cit_lt (Nat.xor_lt_two_pow (n := 32) h (by omega)) 8
def crcR (bs : List UInt8) : Nat := bs.foldl (fun n c => crcB n c.toNat) 4294967295
def crc (bs : List UInt8) : Nat := 4294967295 - crcR bs
theorem crcR_lt (bs : List UInt8) : crcR bs < 4294967296 := by
  have h : ∀ (l : List UInt8) (n : Nat), n < 4294967296 → l.foldl (fun n c => crcB n c.toNat) n < 4294967296 := by
    intro l
    induction l with
    | nil => intro n h; exact h
    | cons c l ih => intro n h; exact ih _ (crcB_lt h c.toNat_lt)
  exact h bs _ (by decide)
theorem crcR_snoc {bs : List UInt8} {j : Nat} (h : j < bs.length) : crcR (bs.take (j + 1)) = crcB (crcR (bs.take j)) (bs.getD j 0).toNat := by
  rw [List.take_succ_eq_append_getElem h, crcR, List.foldl_append, List.getD_eq_getElem?_getD, List.getElem?_eq_getElem h]
  rfl
def openB (l : List UInt8) : Bool := l.all (fun c => decide (128 ≤ c.toNat)) && decide (l.length < 10)
def four (v : Nat) : List UInt8 := [UInt8.ofNat (v % 256), UInt8.ofNat (v / 256 % 256), UInt8.ofNat (v / 65536 % 256), UInt8.ofNat (v / 16777216 % 256)]
theorem four_length (v : Nat) : (four v).length = 4 := rfl
theorem crc_lt (p : List UInt8) : crc p < 4294967296 := by have := crcR_lt p; unfold crc; omega
def preB (k : UInt8) (body : List UInt8) : List UInt8 := k :: (enc body.length ++ body)
def parB (k : UInt8) (body : List UInt8) : List UInt8 := preB k body ++ four (crc (preB k body))
def wrapE (k : UInt8) (body : List UInt8) : Int := if k = 0 then 2 else if 65536 < body.length then 21 else 0
def wrapL (k : UInt8) (body : List UInt8) : List UInt8 := if wrapE k body = 0 then parB k body else []
def szN (b : List UInt8) : Nat := ((⟨b.drop 1, false⟩ : Rs).nat allNat).1
def szS (b : List UInt8) : Rs := ((⟨b.drop 1, false⟩ : Rs).nat allNat).2
def tkFrom (b : List UInt8) : Nat := b.length - (szS b).left.length
def tkN (b : List UInt8) : Nat := tkFrom b + szN b + 4
def tkE (b : List UInt8) : Int :=
  if b.length = 0 then 31 else if b.getD 0 0 = 0 then 20 else if openB (b.drop 1) then 31 else if (szS b).bad then 20 else if 65536 < szN b then 21
  else if (szS b).left.length < szN b + 4 then 31 else if four (crc (b.take (tkN b - 4))) ≠ (b.drop (tkN b - 4)).take 4 then 30 else 0
theorem enc_open (n : Nat) (rest : List UInt8) : openB (enc n ++ rest) = false := by
  have h : ∃ c ∈ enc n, c.toNat < 128 := by
    induction n using Nat.strongRecOn with
    | _ n ih =>
      rcases Nat.lt_or_ge n 128 with h | h
      · exact ⟨UInt8.ofNat n, by rw [enc_small h]; exact List.mem_singleton.2 rfl, by rw [u8_ofNat (by omega)]; exact h⟩
      · obtain ⟨c, hc, hl⟩ := ih (n / 128) (by omega)
        exact ⟨c, by rw [enc_big h]; exact List.mem_cons_of_mem _ hc, hl⟩
  obtain ⟨c, hc, hl⟩ := h
  unfold openB
  rw [show ((enc n ++ rest).all fun c => decide (128 ≤ c.toNat)) = false from by
    rw [List.all_eq_false]
    exact ⟨c, List.mem_append.2 (.inl hc), by simp; omega⟩, Bool.false_and]
def mk (x : Nat) : Nat := if x % 2 = 1 then 4294967295 else 0
def pk (x : Nat) : Nat := if x % 2 = 1 then cpoly else 0
theorem mk_le (x : Nat) : mk x ≤ 4294967295 := by unfold mk; split <;> omega
theorem pk_le (x : Nat) : pk x ≤ 4294967295 := by unfold pk cpoly; split <;> omega
theorem and_mk (x : Nat) : 3988292384 &&& mk x = pk x := by
  unfold mk pk
  split
  · decide
  · decide
theorem neg_mk (x : Nat) : (0 - ((x % 2 : Nat) : Int)) % 4294967296 = (mk x : Int) := by
  unfold mk
  split <;> omega
def rowN (i : Nat) : List Value := (List.range 16).map fun u => .int .u32 ((if u < i then cit 4 u else 0 : Nat) : Int)
theorem rowN_len (i : Nat) : (rowN i).length = 16 := by unfold rowN; rw [List.length_map, List.length_range]
theorem rowN_set {i : Nat} (h : i < 16) : setN (rowN i) (0 + i * 1) [.int .u32 ((cit 4 i : Nat) : Int)] = rowN (i + 1) := by
  unfold rowN
  show (List.map _ (List.range 16)).set (0 + i * 1) _ = _
  rw [Nat.zero_add, Nat.mul_one]
  apply List.ext_getElem
  · simp
  · intro u h1 h2
    simp only [List.length_set, List.length_map, List.length_range] at h1
    rw [List.getElem_set]
    simp only [List.getElem_map, List.getElem_range]
    by_cases hu : i = u
    · subst hu; rw [if_pos rfl, if_pos (by omega)]
    · rw [if_neg hu]
      by_cases h3 : u < i
      · rw [if_pos h3, if_pos (by omega)]
      · rw [if_neg h3, if_neg (by omega)]
theorem rowN_get {y : Nat} : (rowN 16)[0 + y % 16 * 1]? = some (.int .u32 ((cit 4 (y % 16) : Nat) : Int)) := by
  have h : y % 16 < 16 := Nat.mod_lt _ (by decide)
  unfold rowN
  rw [Nat.zero_add, Nat.mul_one, List.getElem?_map, List.getElem?_range h, Option.map_some, if_pos h]
theorem four_bvi {v : Nat} : ([((v : Int)) % 256, (v : Int) / 256 % 256, (v : Int) / 65536 % 256, (v : Int) / 16777216 % 256].map bvi) = four v := by
  simp only [List.map_cons, List.map_nil, four, bvi]
  rw [show ((v : Int) % 256).toNat = v % 256 by omega, show ((v : Int) / 256 % 256).toNat = v / 256 % 256 by omega, show ((v : Int) / 65536 % 256).toNat = v / 65536 % 256 by omega, show ((v : Int) / 16777216 % 256).toNat = v / 16777216 % 256 by omega]
theorem four_take {v i : Nat} (h : i < 4) : (four v).take (i + 1) = (four v).take i ++ [bvi (((v / 256 ^ i : Nat) : Int) % 256)] := by
  have e : ∀ x : Nat, bvi ((x : Int) % 256) = UInt8.ofNat (x % 256) := fun x => by unfold bvi; rw [show ((x : Int) % 256).toNat = x % 256 by omega]
  rw [e]
  match i, h with
  | 0, _ => simp [four]
  | 1, _ => simp [four]
  | 2, _ => simp [four]
  | 3, _ => simp [four]
theorem preB_len (k : UInt8) (body : List UInt8) : (preB k body).length = 1 + ((enc body.length).length + body.length) := by simp [preB]; omega
theorem wrapE_zero {k : UInt8} {body : List UInt8} (h : k = 0) : wrapE k body = 2 ∧ wrapL k body = [] := by
  have : wrapE k body = 2 := by unfold wrapE; rw [if_pos h]
  exact ⟨this, by unfold wrapL; rw [this]; rfl⟩
theorem wrapE_long {k : UInt8} {body : List UInt8} (h : k ≠ 0) (h2 : 65536 < body.length) : wrapE k body = 21 ∧ wrapL k body = [] := by
  have : wrapE k body = 21 := by unfold wrapE; rw [if_neg h, if_pos h2]
  exact ⟨this, by unfold wrapL; rw [this]; rfl⟩
theorem wrapE_ok {k : UInt8} {body : List UInt8} (h : k ≠ 0) (h2 : ¬ 65536 < body.length) : wrapE k body = 0 ∧ wrapL k body = parB k body := by
  have : wrapE k body = 0 := by unfold wrapE; rw [if_neg h, if_neg h2]
  exact ⟨this, by unfold wrapL; rw [if_pos this]⟩
theorem open_no {bs : List UInt8} {j : Nat} (hj : j < bs.length) (h : (bs.getD j 0).toNat < 128) : openB bs = false := by
  unfold openB
  rw [show (bs.all fun c => decide (128 ≤ c.toNat)) = false from by
    rw [List.all_eq_false]
    refine ⟨bs.getD j 0, ?_, by simp only [decide_eq_true_eq]; omega⟩
    rw [List.getD_eq_getElem?_getD, List.getElem?_eq_getElem hj]
    exact List.getElem_mem hj, Bool.false_and]
theorem open_yes {bs : List UInt8} (h : ∀ j, j < bs.length → 128 ≤ (bs.getD j 0).toNat) : openB bs = decide (bs.length < 10) := by
  unfold openB
  rw [show (bs.all fun c => decide (128 ≤ c.toNat)) = true from by
    rw [List.all_eq_true]
    intro c hc
    obtain ⟨j, hj, rfl⟩ := List.mem_iff_getElem.1 hc
    have := h j hj
    rw [List.getD_eq_getElem?_getD, List.getElem?_eq_getElem hj] at this
    exact decide_eq_true this, Bool.true_and]
def opK (b : List UInt8) (i : Nat) : Bool := decide (b.length < 11) && ((b.drop 1).take i).all fun c => decide (128 ≤ c.toNat)
theorem opK_snoc {b : List UInt8} {i : Nat} (h : i + 1 < b.length) : opK b (i + 1) = (opK b i && decide (128 ≤ (b.getD (i + 1) 0).toNat)) := by
  unfold opK
  rw [List.take_succ_eq_append_getElem (by rw [List.length_drop]; omega), List.all_append, Bool.and_assoc]
  congr 2
  simp [List.getElem?_eq_getElem h, Nat.add_comm]
theorem opK_zero (b : List UInt8) : opK b 0 = decide (b.length < 11) := by unfold opK; simp
theorem opK_all {b : List UInt8} (h : 0 < b.length) : opK b (b.length - 1) = openB (b.drop 1) := by
  unfold opK openB
  rw [List.take_of_length_le (by rw [List.length_drop]; exact Nat.le_refl _), Bool.and_comm, List.length_drop]
  congr 1
  rw [decide_eq_decide]
  omega
def tkK (b : List UInt8) : UInt8 := if tkE b = 0 then b.getD 0 0 else 0
def tkL (b : List UInt8) : List UInt8 := if tkE b = 0 then (b.drop (tkFrom b)).take (szN b) else []
def tkM (b : List UInt8) : Int := if tkE b = 0 then (tkN b : Int) else 0
theorem tk_err {b : List UInt8} {E : Int} (h : tkE b = E) (h0 : E ≠ 0) : tkK b = 0 ∧ tkL b = [] ∧ tkM b = 0 := by
  subst h
  unfold tkK tkL tkM
  rw [if_neg h0, if_neg h0, if_neg h0]
  exact ⟨rfl, rfl, rfl⟩
theorem tk_ok {b : List UInt8} (h : tkE b = 0) : tkK b = b.getD 0 0 ∧ tkL b = (b.drop (tkFrom b)).take (szN b) ∧ tkM b = (tkN b : Int) := by
  unfold tkK tkL tkM
  rw [if_pos h, if_pos h, if_pos h]
  exact ⟨rfl, rfl, rfl⟩
section
variable {b : List UInt8}
theorem tkE_1 (h : b.length = 0) : tkE b = 31 := by unfold tkE; rw [if_pos h]
theorem tkE_2 (h0 : ¬ b.length = 0) (h : b.getD 0 0 = 0) : tkE b = 20 := by unfold tkE; rw [if_neg h0, if_pos h]
theorem tkE_3 (h0 : ¬ b.length = 0) (h1 : ¬ b.getD 0 0 = 0) (h : openB (b.drop 1) = true) : tkE b = 31 := by unfold tkE; rw [if_neg h0, if_neg h1, if_pos h]
theorem tkE_4 (h0 : ¬ b.length = 0) (h1 : ¬ b.getD 0 0 = 0) (h2 : openB (b.drop 1) = false) (h : (szS b).bad = true) : tkE b = 20 := by unfold tkE; rw [if_neg h0, if_neg h1, h2, if_neg (by decide), if_pos h]
theorem tkE_5 (h0 : ¬ b.length = 0) (h1 : ¬ b.getD 0 0 = 0) (h2 : openB (b.drop 1) = false) (h3 : (szS b).bad = false) (h : 65536 < szN b) : tkE b = 21 := by unfold tkE; rw [if_neg h0, if_neg h1, h2, if_neg (by decide), h3, if_neg (by decide), if_pos h]
theorem tkE_6 (h0 : ¬ b.length = 0) (h1 : ¬ b.getD 0 0 = 0) (h2 : openB (b.drop 1) = false) (h3 : (szS b).bad = false) (h4 : ¬ 65536 < szN b) (h : (szS b).left.length < szN b + 4) : tkE b = 31 := by unfold tkE; rw [if_neg h0, if_neg h1, h2, if_neg (by decide), h3, if_neg (by decide), if_neg h4, if_pos h]
theorem tkE_7 (h0 : ¬ b.length = 0) (h1 : ¬ b.getD 0 0 = 0) (h2 : openB (b.drop 1) = false) (h3 : (szS b).bad = false) (h4 : ¬ 65536 < szN b) (h5 : ¬ (szS b).left.length < szN b + 4) (h : ¬ four (crc (b.take (tkN b - 4))) = (b.drop (tkN b - 4)).take 4) : tkE b = 30 := by unfold tkE; rw [if_neg h0, if_neg h1, h2, if_neg (by decide), h3, if_neg (by decide), if_neg h4, if_neg h5, if_pos h]
theorem tkE_8 (h0 : ¬ b.length = 0) (h1 : ¬ b.getD 0 0 = 0) (h2 : openB (b.drop 1) = false) (h3 : (szS b).bad = false) (h4 : ¬ 65536 < szN b) (h5 : ¬ (szS b).left.length < szN b + 4) (h : four (crc (b.take (tkN b - 4))) = (b.drop (tkN b - 4)).take 4) : tkE b = 0 := by
  unfold tkE; rw [if_neg h0, if_neg h1, h2, if_neg (by decide), h3, if_neg (by decide), if_neg h4, if_neg h5, if_neg (by rw [Decidable.not_not]; exact h)]
theorem sz_left (b : List UInt8) : (szS b).left.length ≤ b.length - 1 := by
  have := (⟨b.drop 1, false⟩ : Rs).nat_left allNat
  rw [List.length_drop] at this
  exact this
theorem whole_iff {n : Nat} (h4 : 4 ≤ n) (hn : n ≤ b.length) (q : List UInt8) : b.take (n - 4) ++ q = b.take n ↔ q = (b.drop (n - 4)).take 4 := by
  have e : b.take n = b.take (n - 4) ++ (b.drop (n - 4)).take 4 := by
    have := List.take_add (l := b) (i := n - 4) (j := 4)
    rw [show n - 4 + 4 = n by omega] at this
    exact this
  rw [e, List.append_cancel_left_eq]
theorem suffix_drop {l p q : List UInt8} (h : l = p ++ q) : q = l.drop (l.length - q.length) := by
  subst h
  rw [List.length_append, show p.length + q.length - q.length = p.length by omega, List.drop_left]
theorem sz_drop (h : (szS b).bad = false) (h0 : ¬ b.length = 0) : (szS b).left = b.drop (tkFrom b) := by
  obtain ⟨h1, _⟩ := Rs.nat_only (s := ⟨b.drop 1, false⟩) (most := allNat) h
  have e : b = (b.take 1 ++ enc (szN b)) ++ (szS b).left := by
    have := List.take_append_drop 1 b
    rw [List.append_assoc]
    exact this.symm.trans (congrArg (b.take 1 ++ ·) h1)
  exact suffix_drop e
end
end Go.Proofs.Ytlppgpidakfnlaa
