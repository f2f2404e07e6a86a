/- Tables of acks as bytes: plain. -/
import Derived.Test.YtcikoealneldkaaAq
import Derived.Test.YtcikoealneldkaaCb
import Derived.Test.YtcikoealneldkaaCe
import Derived.Test.YtcikoealneldkaaQ
namespace Go.Proofs.Ytcikoealneldkaa
open Go Go.RowKit Go.Lib
variable {W : World}
/-- the table as bytes are read -/
def m32 : Nat := 4294967295
def rk (s : Rs) : Nat → (Nat → Int) × Rs
  | 0 => (fun _ => 0, (s.nat 7).2)
  | k + 1 => (upd1 (rk s k).1 k ((((rk s k).2.nat m32).1 : Nat) : Int), ((rk s k).2.nat m32).2)
def rN (s : Rs) : Nat := (s.nat 7).1
theorem rN_le (s : Rs) : rN s ≤ 7 := s.nat_le 7
theorem rk_b (s : Rs) : ∀ k, Sb (rk s k).1
  | 0 => fun _ => (show (0 : Int) ≤ 0 ∧ (0 : Int) < 4294967296 by decide)
  | k + 1 => fun i => by
    have h := (rk s k).2.nat_le m32
    unfold m32 at h
    show 0 ≤ upd1 (rk s k).1 k ((((rk s k).2.nat m32).1 : Nat) : Int) i ∧ upd1 (rk s k).1 k ((((rk s k).2.nat m32).1 : Nat) : Int) i < 4294967296
    unfold upd1
    split
    · unfold m32; omega
    · exact rk_b s k i
theorem encs_append (a b : List Int) : encs (a ++ b) = encs a ++ encs b := by unfold encs; rw [List.flatMap_append]
theorem upd1_map {s : Nat → Int} {x : Int} : ∀ (k j : Nat), k ≤ j → (List.range k).map (upd1 s j x) = (List.range k).map s := fun k j h => by
  apply List.map_congr_left
  intro a ha
  have := List.mem_range.1 ha
  unfold upd1
  rw [if_neg (by omega)]
theorem rk_only (s : Rs) : ∀ k, (rk s k).2.bad = false → s.left = enc (rN s) ++ encs ((List.range k).map (rk s k).1) ++ (rk s k).2.left ∧ s.bad = false
  | 0, h => by
    obtain ⟨h1, h2⟩ := Rs.nat_only (s := s) (most := 7) h
    refine ⟨?_, h2⟩
    simpa [encs, rk, rN] using h1
  | k + 1, h => by
    obtain ⟨h1, h2⟩ := Rs.nat_only (s := (rk s k).2) (most := m32) h
    obtain ⟨h3, h4⟩ := rk_only s k h2
    refine ⟨?_, h4⟩
    show s.left = enc (rN s) ++ encs ((List.range (k + 1)).map (upd1 (rk s k).1 k ((((rk s k).2.nat m32).1 : Nat) : Int))) ++ ((rk s k).2.nat m32).2.left
    rw [List.range_succ, List.map_append, encs_append, upd1_map k k (Nat.le_refl k), List.append_assoc, List.append_assoc]
    rw [h1, List.append_assoc] at h3
    rw [h3]
    congr 2
    simp [encs, upd1]
def tabB (n : Nat) (s : Nat → Int) : List UInt8 := enc n ++ encs ((List.range n).map s)
theorem rk_enc {n : Nat} {t : Nat → Int} (hn : n ≤ 7) (ht : Sb t) (rest : List UInt8) (b : Bool) : ∀ k, k ≤ n → rk ⟨tabB n t ++ rest, b⟩ k = (fun i => if i < k then t i else 0, ⟨encs (((List.range n).map t).drop k) ++ rest, b⟩)
  | 0, _ => by
    show ((fun _ => 0 : Nat → Int), ((⟨tabB n t ++ rest, b⟩ : Rs).nat 7).2) = _
    rw [tabB, List.append_assoc, Rs.nat_enc (by omega) (by omega)]
    simp
  | k + 1, h => by
    have hd : ((List.range n).map t).drop k = t k :: ((List.range n).map t).drop (k + 1) := by
      rw [List.drop_eq_getElem_cons (by rw [List.length_map, List.length_range]; omega)]
      simp
    have hk := ht k
    rw [rk, rk_enc hn ht rest b k (by omega)]
    simp only
    rw [hd, encs, List.flatMap_cons, List.append_assoc, Rs.nat_enc (by unfold m32; omega) (by unfold m32; omega)]
    refine Prod.ext ?_ rfl
    funext i
    show upd1 (fun i => if i < k then t i else 0) k (((t k).toNat : Nat) : Int) i = if i < k + 1 then t i else 0
    unfold upd1
    rw [Int.toNat_of_nonneg hk.1]
    by_cases hi : i = k
    · subst hi; simp
    · rw [if_neg hi]
      show (if i < k then t i else 0) = _
      by_cases h2 : i < k
      · rw [if_pos h2, if_pos (by omega)]
      · rw [if_neg h2, if_neg (by omega)]
theorem rN_enc {n : Nat} {t : Nat → Int} (hn : n ≤ 7) (rest : List UInt8) (b : Bool) : rN ⟨tabB n t ++ rest, b⟩ = n := by
  unfold rN
  rw [tabB, List.append_assoc, Rs.nat_enc (by omega) (by omega)]
theorem tabB_len {n : Nat} {t : Nat → Int} (hn : n ≤ 7) (ht : Sb t) : (tabB n t).length ≤ 80 := by
  have h1 := enc_ten (n := n) (by omega)
  have h2 := encs_length (ns := (List.range n).map t) (fun x hx => by
    obtain ⟨i, _, rfl⟩ := List.mem_map.1 hx
    have := ht i
    omega)
  rw [List.length_map, List.length_range] at h2
  rw [tabB, List.length_append]
  omega
/-- the document's reading -/
def bitsL (i : Int) (x : Nat) : Nat → AckL
  | 0 => []
  | v + 1 => bitsL i x v ++ (if x / 2 ^ v % 2 = 1 then [(i, (v : Int) + 1)] else [])
def rL (s : Rs) : Nat → AckL
  | 0 => []
  | k + 1 => rL s k ++ bitsL (k : Int) ((rk s k).2.nat m32).1 32
theorem bitsL_mem {i : Int} {x : Nat} : ∀ {k : Nat} {a : Int × Int}, a ∈ bitsL i x k → a.1 = i ∧ 1 ≤ a.2 ∧ a.2 ≤ k
  | 0, _, h => by cases h
  | k + 1, a, h => by
    rcases List.mem_append.1 h with h | h
    · have := bitsL_mem h; omega
    · split at h
      · rw [List.mem_singleton.1 h]; simp; omega
      · cases h
theorem bitsL_len {i : Int} {x : Nat} : ∀ k, (bitsL i x k).length ≤ k
  | 0 => Nat.le_refl 0
  | k + 1 => by
    have := bitsL_len (i := i) (x := x) k
    rw [bitsL, List.length_append]
    split <;> simp <;> omega
theorem rL_len (s : Rs) : ∀ k, (rL s k).length ≤ 32 * k
  | 0 => Nat.le_refl 0
  | k + 1 => by
    have := rL_len s k
    have h2 := bitsL_len (i := (k : Int)) (x := ((rk s k).2.nat m32).1) 32
    rw [rL, List.length_append]
    omega
theorem rL_ok (s : Rs) : ∀ k : Nat, AckOk (k : Int) (rL s k)
  | 0 => fun _ h => by cases h
  | k + 1 => fun a h => by
    rcases List.mem_append.1 h with h | h
    · have := rL_ok s k a h; omega
    · have := bitsL_mem h; omega
theorem AckOk.more {n m : Int} {L : AckL} (h : AckOk n L) (hm : n ≤ m) : AckOk m L := fun a ha => by have := h a ha; omega
theorem ofN_bits_other {L : AckL} {i r : Int} {x : Nat} (h : i ≠ r) : ∀ k, ofN (L ++ bitsL i x k) r = ofN L r
  | 0 => by rw [bitsL, List.append_nil]
  | k + 1 => by
    rw [bitsL, ← List.append_assoc]
    split
    · rw [ofN_other _ _ h]; exact ofN_bits_other h k
    · rw [List.append_nil]; exact ofN_bits_other h k
theorem or_mod {x v : Nat} : (x % 2 ^ v) ||| 2 ^ v = x % 2 ^ v + 2 ^ v := by
  have h := Nat.two_pow_add_eq_or_of_lt (i := v) (b := x % 2 ^ v) (Nat.mod_lt _ (Nat.pow_pos (by decide))) 1
  rw [Nat.mul_one] at h
  rw [Nat.or_comm, ← h, Nat.add_comm]
theorem mod_more {x v : Nat} : x % 2 ^ (v + 1) = x % 2 ^ v + 2 ^ v * (x / 2 ^ v % 2) := by
  rw [Nat.pow_succ, Nat.mod_mul]
theorem ofN_bits {L : AckL} {i : Int} {x : Nat} (h : ofN L i = 0) : ∀ k, k ≤ 32 → ofN (L ++ bitsL i x k) i = x % 2 ^ k
  | 0, _ => by rw [bitsL, List.append_nil, h, Nat.pow_zero, Nat.mod_one]
  | k + 1, hk => by
    have ih := ofN_bits (x := x) h k (by omega)
    rw [bitsL, ← List.append_assoc, mod_more]
    split
    · rename_i h1
      rw [← ofN_add, ih, bitN_in (by omega), show ((k : Int) + 1 - 1).toNat = k from by omega, or_mod, h1, Nat.mul_one]
    · rename_i h1
      rw [List.append_nil, ih, show x / 2 ^ k % 2 = 0 from by omega, Nat.mul_zero, Nat.add_zero]
theorem rL_of (s : Rs) : ∀ k i : Nat, ((ofN (rL s k) (i : Int) : Nat) : Int) = (rk s k).1 i
  | 0, i => by rw [rL, ofN_out [] (fun a h => by cases h)]; rfl
  | k + 1, i => by
    have ih := rL_of s k i
    show _ = upd1 (rk s k).1 k ((((rk s k).2.nat m32).1 : Nat) : Int) i
    have hx := (rk s k).2.nat_le m32
    unfold upd1
    rw [rL]
    by_cases hi : i = k
    · subst hi
      rw [if_pos rfl, ofN_bits (ofN_out _ fun a ha => by have := rL_ok s i a ha; omega) 32 (by omega), Nat.mod_eq_of_lt (by unfold m32 at *; omega)]
    · rw [if_neg hi, ofN_bits_other (by omega)]
      exact ih
theorem ofF_rL (s : Rs) (k : Nat) : ofF (rL s k) = (rk s k).1 := funext fun i => rL_of s k i
theorem ofF_tab {n : Nat} {L : AckL} (h : AckOk (n : Int) L) : (fun i => if i < n then ofF L i else 0) = ofF L := by
  funext i
  split
  · rfl
  · unfold ofF
    rw [ofN_out L fun a ha => by have := h a ha; omega]
    rfl
def ackOk (s : Rs) : Bool := !(rk s (rN s)).2.bad && decide (rN s ≠ 0)
def aN (s : Rs) : Int := if ackOk s then (rN s : Int) else 0
def aF (s : Rs) : Nat → Int := if ackOk s then (rk s (rN s)).1 else fun _ => 0
def aS (s : Rs) : Rs := if ackOk s then (rk s (rN s)).2 else s.fail
def aL (s : Rs) : AckL := if ackOk s then rL s (rN s) else []
theorem ack_f1 {s : Rs} (h : (rk s (rN s)).2.bad = true) : ackOk s = false := by unfold ackOk; rw [h]; rfl
theorem ack_f2 {s : Rs} (h : rN s = 0) : ackOk s = false := by unfold ackOk; rw [decide_eq_false (by omega), Bool.and_false]
theorem ack_t {s : Rs} (h : (rk s (rN s)).2.bad = false) (h0 : rN s ≠ 0) : ackOk s = true := by unfold ackOk; rw [h, decide_eq_true h0]; rfl
theorem ack_no {s : Rs} (h : ackOk s = false) : aN s = 0 ∧ (aF s = fun _ => 0) ∧ aS s = s.fail ∧ aL s = [] := by
  unfold aN aF aS aL; rw [h]; exact ⟨rfl, rfl, rfl, rfl⟩
theorem ack_yes {s : Rs} (h : ackOk s = true) : aN s = (rN s : Int) ∧ aF s = (rk s (rN s)).1 ∧ aS s = (rk s (rN s)).2 ∧ aL s = rL s (rN s) := by
  unfold aN aF aS aL; rw [h]; exact ⟨rfl, rfl, rfl, rfl⟩
theorem ack_of (s : Rs) : ofF (aL s) = aF s ∧ AckOk (aN s) (aL s) ∧ (0 ≤ aN s ∧ aN s ≤ 7) ∧ (aL s).length ≤ 224 := by
  have hN := rN_le s
  cases h : ackOk s with
  | false => obtain ⟨e1, e2, _, e4⟩ := ack_no h; rw [e1, e2, e4]; exact ⟨rfl, (fun _ h => by cases h), by omega, by simp⟩
  | true =>
    obtain ⟨e1, e2, _, e4⟩ := ack_yes h
    have := rL_len s (rN s)
    rw [e1, e2, e4]
    exact ⟨ofF_rL s _, rL_ok s _, by omega, by omega⟩
theorem ack_bytes {s : Rs} (h : ackOk s = true) : s.left = tabB (aN s).toNat (aF s) ++ (aS s).left ∧ (aS s).bad = false := by
  obtain ⟨e1, e2, e3, _⟩ := ack_yes h
  have hb : (rk s (rN s)).2.bad = false := by
    unfold ackOk at h
    simp only [Bool.and_eq_true, Bool.not_eq_true'] at h
    exact h.1
  rw [e1, e2, e3, Int.toNat_natCast]
  exact ⟨(rk_only s _ hb).1, hb⟩
theorem ack_back {n : Int} {L : AckL} (hn : 1 ≤ n ∧ n ≤ 7) (hok : AckOk n L) (rest : List UInt8) : ackOk ⟨tabB n.toNat (ofF L) ++ rest, false⟩ = true ∧ aN ⟨tabB n.toNat (ofF L) ++ rest, false⟩ = n ∧ aF ⟨tabB n.toNat (ofF L) ++ rest, false⟩ = ofF L ∧ aS ⟨tabB n.toNat (ofF L) ++ rest, false⟩ = ⟨rest, false⟩ := by
  have hN : rN ⟨tabB n.toNat (ofF L) ++ rest, false⟩ = n.toNat := rN_enc (by omega) rest false
  have hk := rk_enc (n := n.toNat) (t := ofF L) (by omega) (ofF_b L) rest false n.toNat (Nat.le_refl _)
  rw [ofF_tab (n := n.toNat) (L := L) (by rw [Int.toNat_of_nonneg (by omega)]; exact hok), List.drop_of_length_le (by simp)] at hk
  have hy : ackOk ⟨tabB n.toNat (ofF L) ++ rest, false⟩ = true := ack_t (by rw [hN, hk]) (by rw [hN]; omega)
  obtain ⟨e1, e2, e3, _⟩ := ack_yes hy
  rw [e1, e2, e3, hN, hk]
  exact ⟨hy, by omega, rfl, rfl⟩
theorem tab_rd {w : World} {Q R : List Asn} {g : Nat} {t : TypeId} {n : Int} {s : Nat → Int} {k : Nat} (hS : St W w Q) (p : Pick Q (blkA g t (tcs n s)) R) (hk : k ≤ 7) : RdI w .u64 (some ⟨g, 0 + 1, none⟩) ((List.range k).map s) :=
  Blk.rd (hS.blk p) fun i hi => by
    rw [List.length_map, List.length_range] at hi
    refine ⟨rfl, fun j v hv => ?_⟩
    have hj : j = 0 := by
      rcases Nat.eq_zero_or_pos j with h | h
      · exact h
      · rw [isf, List.getElem?_eq_none (by simp only [List.length_cons, List.length_nil]; omega)] at hv; cases hv
    subst hj
    have hv' : Value.int .u64 (((List.range k).map s).getD i 0) = v := by simpa [isf] using hv
    rw [← hv', show 0 + 1 + (i * 1 + 0) = 1 + i * 1 by omega, tcell (by omega), List.getD_eq_getElem?_getD, List.getElem?_map, List.getElem?_range hi]
    rfl
theorem tab_mem {s : Nat → Int} (hs : Sb s) {k : Nat} : ∀ m ∈ (List.range k).map s, 0 ≤ m ∧ m < 18446744073709551616 := fun m hm => by
  obtain ⟨i, _, rfl⟩ := List.mem_map.1 hm
  have := hs i
  omega
def tabK (n i : Nat) (s : Nat → Int) : List UInt8 := enc n ++ encs ((List.range i).map s)
theorem tabK_snoc (n i : Nat) (s : Nat → Int) : tabK n (i + 1) s = tabK n i s ++ enc (s i).toNat := by
  unfold tabK
  rw [List.range_succ, List.map_append, encs_append, List.append_assoc, List.map_cons, List.map_nil, encs_one]
theorem tabK_len {n i : Nat} {s : Nat → Int} (hn : n ≤ 7) (hi : i ≤ 7) (hs : Sb s) : (tabK n i s).length ≤ 80 := by
  have h1 := enc_ten (n := n) (by omega)
  have h2 := encs_length (ns := (List.range i).map s) (tab_mem hs)
  rw [List.length_map, List.length_range] at h2
  rw [tabK, List.length_append]
  omega
end Go.Proofs.Ytcikoealneldkaa
