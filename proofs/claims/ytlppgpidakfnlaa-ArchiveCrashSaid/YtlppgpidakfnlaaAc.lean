/- Snapshots as bytes, and what a file has: plain. -/
import Derived.Test.YtlppgpidakfnlaaPg
namespace Go.Proofs.Ytlppgpidakfnlaa
open Go Go.RowKit Go.Lib
variable {W : World}
theorem tk_more2 {k : UInt8} {body : List UInt8} (hb : body.length ≤ 65536) (hk : k ≠ 0) (rest : List UInt8) : tkK (parB k body ++ rest) = k ∧ tkL (parB k body ++ rest) = body ∧ (parB k body ++ rest).drop (tkN (parB k body ++ rest)) = rest := by
  obtain ⟨h0, hN⟩ := tk_more hb hk rest
  obtain ⟨e1, e2, _⟩ := tk_ok h0
  have e : parB k body ++ rest = (k :: enc body.length) ++ (body ++ (four (crc (preB k body)) ++ rest)) := by rw [par_form]; simp
  obtain ⟨h1, h2⟩ := sz_form (k := k) (r := body ++ (four (crc (preB k body)) ++ rest)) hb
  have e' : k :: (enc body.length ++ (body ++ (four (crc (preB k body)) ++ rest))) = parB k body ++ rest := by rw [e]; rfl
  rw [e'] at h1 h2
  have hf : tkFrom (parB k body ++ rest) = (k :: enc body.length).length := by
    unfold tkFrom
    rw [h1, e]
    simp only [List.length_append]
    omega
  refine ⟨by rw [e1, ← e']; rfl, ?_, by rw [hN, List.drop_left]⟩
  rw [e2, hf, h2, e, List.drop_left, List.take_left]
/-- a snapshot's pieces, one behind the other -/
def pcs (b : List UInt8) : List UInt8 := if h : b.length = 0 then [] else parB 6 (b.take 1024) ++ pcs (b.drop 1024)
termination_by b.length
decreasing_by rw [List.length_drop]; omega
theorem pcs_nil {b : List UInt8} (h : b.length = 0) : pcs b = [] := by rw [pcs, dif_pos h]
theorem pcs_cons {b : List UInt8} (h : b.length ≠ 0) : pcs b = parB 6 (b.take 1024) ++ pcs (b.drop 1024) := by rw [pcs, dif_neg h]
def hdB (i t n : Nat) : List UInt8 := enc i ++ enc t ++ enc n
def snB (i t : Nat) (b : List UInt8) : List UInt8 := parB 5 (hdB i t b.length) ++ pcs b
theorem hdB_len {i t n : Nat} (hi : i < 18446744073709551616) (ht : t < 18446744073709551616) (hn : n < 18446744073709551616) : (hdB i t n).length ≤ 30 := by
  have h1 := enc_ten hi
  have h2 := enc_ten ht
  have h3 := enc_ten hn
  unfold hdB
  simp only [List.length_append]
  omega
theorem pcs_len : ∀ (m : Nat) (b : List UInt8), b.length ≤ m → (pcs b).length ≤ b.length + 8 * ((b.length + 1023) / 1024) ∧ b.length ≤ (pcs b).length
  | 0, b, h => by rw [pcs_nil (by omega)]; exact ⟨Nat.zero_le _, by show b.length ≤ 0; omega⟩
  | m + 1, b, h => by
    by_cases h0 : b.length = 0
    · rw [pcs_nil h0]; exact ⟨Nat.zero_le _, by show b.length ≤ 0; omega⟩
    · have ih := pcs_len m (b.drop 1024) (by rw [List.length_drop]; omega)
      have h3 := enc_three (n := (b.take 1024).length) (by rw [List.length_take]; omega)
      rw [pcs_cons h0, List.length_append, par_len]
      rw [List.length_drop] at ih
      rw [List.length_take] at h3 ⊢
      omega
theorem snB_len {i t : Nat} {b : List UInt8} (hi : i < 18446744073709551616) (ht : t < 18446744073709551616) (hb : b.length ≤ 524288) : (snB i t b).length ≤ 1048576 ∧ b.length < (snB i t b).length := by
  have h1 := hdB_len hi ht (n := b.length) (by omega)
  have h2 := pcs_len b.length b (Nat.le_refl _)
  have h3 := enc_three (n := (hdB i t b.length).length) (by omega)
  unfold snB
  rw [List.length_append, par_len]
  omega
def snE (i t : Nat) (b : List UInt8) : Int := if 4611686018427387904 < max i t then 2 else if 524288 < b.length then 21 else 0
def snL (i t : Nat) (b : List UInt8) : List UInt8 := if snE i t b = 0 then snB i t b else []
/-- a file's snapshot -/
def telP (bs : List UInt8) (left : Nat) : Option (List UInt8) :=
  if h0 : left = 0 then some []
  else if h : tkE bs = 0 ∧ tkK bs = 6 ∧ (tkL bs).length = min left 1024 then (telP (bs.drop (tkN bs)) (left - (tkL bs).length)).map (tkL bs ++ ·)
  else none
termination_by left
decreasing_by omega
theorem telP_0 (bs : List UInt8) : telP bs 0 = some [] := by rw [telP, dif_pos rfl]
theorem telP_yes {bs : List UInt8} {left : Nat} (h0 : left ≠ 0) (h : tkE bs = 0 ∧ tkK bs = 6 ∧ (tkL bs).length = min left 1024) : telP bs left = (telP (bs.drop (tkN bs)) (left - (tkL bs).length)).map (tkL bs ++ ·) := by
  rw [telP, dif_neg h0, dif_pos h]
theorem telP_no {bs : List UInt8} {left : Nat} (h0 : left ≠ 0) (h : ¬ (tkE bs = 0 ∧ tkK bs = 6 ∧ (tkL bs).length = min left 1024)) : telP bs left = none := by
  rw [telP, dif_neg h0, dif_neg h]
def mI : Nat := 4611686018427387904
def mB : Nat := 524288
def te0 (bs : List UInt8) : Rs := ⟨tkL bs, false⟩
def te1 (bs : List UInt8) : Rs := ((te0 bs).nat mI).2
def te2 (bs : List UInt8) : Rs := ((te1 bs).nat mI).2
def te3 (bs : List UInt8) : Rs := ((te2 bs).nat mB).2
def telI (bs : List UInt8) : Nat := ((te0 bs).nat mI).1
def telT (bs : List UInt8) : Nat := ((te1 bs).nat mI).1
def telN (bs : List UInt8) : Nat := ((te2 bs).nat mB).1
def headOk (bs : List UInt8) : Prop := tkE bs = 0 ∧ tkK bs = 5 ∧ (te3 bs).endOk = 0
instance (bs : List UInt8) : Decidable (headOk bs) := by unfold headOk; exact inferInstance
structure Sn where
  i : Nat
  t : Nat
  b : List UInt8
def tel (bs : List UInt8) : Option Sn := if headOk bs then (telP (bs.drop (tkN bs)) (telN bs)).map fun b => ⟨telI bs, telT bs, b⟩ else none
theorem endOk_nil : (⟨[], false⟩ : Rs).endOk = 0 := rfl
theorem head_more {i t n : Nat} (hi : i ≤ mI) (ht : t ≤ mI) (hn : n ≤ mB) (rest : List UInt8) : headOk (parB 5 (hdB i t n) ++ rest) ∧ telI (parB 5 (hdB i t n) ++ rest) = i ∧ telT (parB 5 (hdB i t n) ++ rest) = t ∧ telN (parB 5 (hdB i t n) ++ rest) = n ∧ (parB 5 (hdB i t n) ++ rest).drop (tkN (parB 5 (hdB i t n) ++ rest)) = rest := by
  unfold mI at hi ht
  unfold mB at hn
  have hl := hdB_len (i := i) (t := t) (n := n) (by omega) (by omega) (by omega)
  obtain ⟨a1, _⟩ := tk_more (k := 5) (body := hdB i t n) (by omega) (by decide) rest
  obtain ⟨b1, b2, b3⟩ := tk_more2 (k := 5) (body := hdB i t n) (by omega) (by decide) rest
  have r0 : te0 (parB 5 (hdB i t n) ++ rest) = ⟨enc i ++ (enc t ++ enc n), false⟩ := by unfold te0; rw [b2, hdB, List.append_assoc]
  have n0 := Rs.nat_enc (n := i) (most := mI) (by unfold mI; omega) (by unfold mI; omega) (enc t ++ enc n) false
  have n1 := Rs.nat_enc (n := t) (most := mI) (by unfold mI; omega) (by unfold mI; omega) (enc n) false
  have n2 := Rs.nat_enc (n := n) (most := mB) (by unfold mB; omega) (by unfold mB; omega) [] false
  rw [List.append_nil] at n2
  have r1 : te1 (parB 5 (hdB i t n) ++ rest) = ⟨enc t ++ enc n, false⟩ := by unfold te1; rw [r0, n0]
  have r2 : te2 (parB 5 (hdB i t n) ++ rest) = ⟨enc n, false⟩ := by unfold te2; rw [r1, n1]
  have r3 : te3 (parB 5 (hdB i t n) ++ rest) = ⟨[], false⟩ := by unfold te3; rw [r2, n2]
  refine ⟨⟨a1, b1, by rw [r3]; rfl⟩, by unfold telI; rw [r0, n0], by unfold telT; rw [r1, n1], by unfold telN; rw [r2, n2], b3⟩
theorem telP_pcs : ∀ (m : Nat) (b : List UInt8), b.length ≤ m → ∀ more, telP (pcs b ++ more) b.length = some b
  | 0, b, h, more => by
    have h0 : b = [] := List.length_eq_zero_iff.1 (by omega)
    subst h0
    exact telP_0 _
  | m + 1, b, h, more => by
    by_cases h0 : b.length = 0
    · have h0 : b = [] := List.length_eq_zero_iff.1 h0
      subst h0
      exact telP_0 _
    · have ht : (b.take 1024).length = min b.length 1024 := by rw [List.length_take, Nat.min_comm]
      rw [pcs_cons h0, List.append_assoc]
      obtain ⟨a1, _⟩ := tk_more (k := 6) (body := b.take 1024) (by omega) (by decide) (pcs (b.drop 1024) ++ more)
      obtain ⟨b1, b2, b3⟩ := tk_more2 (k := 6) (body := b.take 1024) (by omega) (by decide) (pcs (b.drop 1024) ++ more)
      rw [telP_yes h0 ⟨a1, b1, by rw [b2, ht]⟩, b3, b2, ht, show b.length - min b.length 1024 = (b.drop 1024).length by rw [List.length_drop]; omega, telP_pcs m (b.drop 1024) (by rw [List.length_drop]; omega) more, Option.map_some, List.take_append_drop]
theorem tel_snB {i t : Nat} {b : List UInt8} (h : snE i t b = 0) (more : List UInt8) : tel (snB i t b ++ more) = some ⟨i, t, b⟩ := by
  have hi : i ≤ mI ∧ t ≤ mI ∧ b.length ≤ mB := by
    unfold snE at h
    unfold mI mB
    split at h
    · cases h
    · split at h
      · cases h
      · omega
  unfold snB
  rw [List.append_assoc]
  obtain ⟨h1, h2, h3, h4, h5⟩ := head_more hi.1 hi.2.1 hi.2.2 (pcs b ++ more)
  unfold tel
  rw [if_pos h1, h2, h3, h4, h5, telP_pcs b.length b (Nat.le_refl _) more]
  rfl
theorem telP_torn : ∀ (m : Nat) (b : List UInt8), b.length ≤ m → ∀ k, k < (pcs b).length → telP ((pcs b).take k) b.length = none
  | 0, b, h, k, hk => by rw [pcs_nil (by omega)] at hk; simp at hk
  | m + 1, b, h, k, hk => by
    by_cases h0 : b.length = 0
    · rw [pcs_nil h0] at hk; simp at hk
    · have ht : (b.take 1024).length = min b.length 1024 := by rw [List.length_take, Nat.min_comm]
      rw [pcs_cons h0] at hk ⊢
      rw [List.length_append] at hk
      rw [List.take_append]
      rcases Nat.lt_or_ge k (parB 6 (b.take 1024)).length with h1 | h1
      · rw [show k - (parB 6 (b.take 1024)).length = 0 by omega, List.take_zero, List.append_nil]
        refine telP_no h0 fun hh => ?_
        rw [tk_torn (by omega) (by decide) h1] at hh
        exact absurd hh.1 (by decide)
      · rw [List.take_of_length_le h1]
        obtain ⟨a1, _⟩ := tk_more (k := 6) (body := b.take 1024) (by omega) (by decide) ((pcs (b.drop 1024)).take (k - (parB 6 (b.take 1024)).length))
        obtain ⟨b1, b2, b3⟩ := tk_more2 (k := 6) (body := b.take 1024) (by omega) (by decide) ((pcs (b.drop 1024)).take (k - (parB 6 (b.take 1024)).length))
        rw [telP_yes h0 ⟨a1, b1, by rw [b2, ht]⟩, b3, b2, ht, show b.length - min b.length 1024 = (b.drop 1024).length by rw [List.length_drop]; omega, telP_torn m (b.drop 1024) (by rw [List.length_drop]; omega) _ (by omega)]
        rfl
theorem tel_none {bs : List UInt8} (h : tkE bs ≠ 0) : tel bs = none := by unfold tel; rw [if_neg fun hh => h hh.1]
theorem tel_nil : tel [] = none := tel_none (by rw [tkE_1 rfl]; decide)
/-- cut off it is none -/
theorem tel_torn {i t : Nat} {b : List UInt8} (h : snE i t b = 0) {k : Nat} (hk : k < (snB i t b).length) : tel ((snB i t b).take k) = none := by
  have hi : i ≤ mI ∧ t ≤ mI ∧ b.length ≤ mB := by
    unfold snE at h
    unfold mI mB
    split at h
    · cases h
    · split at h
      · cases h
      · omega
  have hl := hdB_len (i := i) (t := t) (n := b.length) (by have := hi.1; unfold mI at this; omega) (by have := hi.2.1; unfold mI at this; omega) (by have := hi.2.2; unfold mB at this; omega)
  unfold snB at hk ⊢
  rw [List.length_append] at hk
  rw [List.take_append]
  rcases Nat.lt_or_ge k (parB 5 (hdB i t b.length)).length with h1 | h1
  · rw [show k - (parB 5 (hdB i t b.length)).length = 0 by omega, List.take_zero, List.append_nil]
    exact tel_none (by rw [tk_torn (by omega) (by decide) h1]; decide)
  · rw [List.take_of_length_le h1]
    obtain ⟨h1, h2, h3, h4, h5⟩ := head_more hi.1 hi.2.1 hi.2.2 ((pcs b).take (k - (parB 5 (hdB i t b.length)).length))
    unfold tel
    rw [if_pos h1, h2, h3, h4, h5, telP_torn b.length b (Nat.le_refl _) _ (by omega)]
    rfl
theorem snE_arg {i t : Nat} {b : List UInt8} (h : 4611686018427387904 < max i t) : snE i t b = 2 ∧ snL i t b = [] := by
  have e : snE i t b = 2 := by unfold snE; rw [if_pos h]
  exact ⟨e, by unfold snL; rw [e]; rfl⟩
theorem snE_long {i t : Nat} {b : List UInt8} (h : ¬ 4611686018427387904 < max i t) (h2 : 524288 < b.length) : snE i t b = 21 ∧ snL i t b = [] := by
  have e : snE i t b = 21 := by unfold snE; rw [if_neg h, if_pos h2]
  exact ⟨e, by unfold snL; rw [e]; rfl⟩
theorem snE_ok {i t : Nat} {b : List UInt8} (h : ¬ 4611686018427387904 < max i t) (h2 : ¬ 524288 < b.length) : snE i t b = 0 ∧ snL i t b = snB i t b := by
  have e : snE i t b = 0 := by unfold snE; rw [if_neg h, if_neg h2]
  exact ⟨e, by unfold snL; rw [if_pos e]⟩
theorem min_drop (l : List UInt8) : l.drop (min l.length 1024) = l.drop 1024 := by
  rcases Nat.le_total l.length 1024 with h | h
  · rw [Nat.min_eq_left h, List.drop_length, List.drop_eq_nil_of_le h]
  · rw [Nat.min_eq_right h]
theorem min_take (l : List UInt8) : l.take (min l.length 1024) = l.take 1024 := by
  rcases Nat.le_total l.length 1024 with h | h
  · rw [Nat.min_eq_left h, List.take_length, List.take_of_length_le h]
  · rw [Nat.min_eq_right h]
/-- a snapshot's parts in a block, its body in a row of its own -/
def snA (t g : Nat) (s : Sn) : Asn := exA fun A => exA fun c => starA (blkA g t [.int .u64 (s.i : Int), .int .u64 (s.t : Int), .slice A s.b.length c]) (rowA 5 1 A s.b.length c (s.b.map bv))
theorem St.sn {W w : World} {R : List Asn} {t g : Nat} {s : Sn} (h : St W w (snA t g s :: R)) : ∃ A c, St W w (blkA g t [.int .u64 (s.i : Int), .int .u64 (s.t : Int), .slice A s.b.length c] :: rowA 5 1 A s.b.length c (s.b.map bv) :: R) := by
  obtain ⟨A, h⟩ := h.ex
  obtain ⟨c, h⟩ := h.ex
  exact ⟨A, c, h.star⟩
theorem St.unsn {W w : World} {R : List Asn} {t g : Nat} (s : Sn) {A : Option Addr} {c : Nat} (h : St W w (blkA g t [.int .u64 (s.i : Int), .int .u64 (s.t : Int), .slice A s.b.length c] :: rowA 5 1 A s.b.length c (s.b.map bv) :: R)) : St W w (snA t g s :: R) := St.unex A (St.unex c h.unstar)
def sn0 : Sn := ⟨0, 0, []⟩
def telS (bs : List UInt8) : Sn := (tel bs).getD sn0
/-- how far a file is told -/
def TlI (bs : List UInt8) (k : Nat) (s : Sn) (left : Nat) : Prop :=
  (k = 0 ∧ s = sn0 ∧ left = 0) ∨ (0 < k ∧ headOk bs ∧ s.i = telI bs ∧ s.t = telT bs ∧ s.b.length + left = telN bs ∧ telP (bs.drop (tkN bs)) (telN bs) = (telP (bs.drop (pos bs k)) left).map (s.b ++ ·))
theorem telN_le (bs : List UInt8) : telN bs ≤ 524288 := Rs.nat_le _ _
theorem tl_le {bs : List UInt8} {k left : Nat} {s : Sn} (h : TlI bs k s left) : s.b.length + left ≤ 524288 := by
  have := telN_le bs
  rcases h with ⟨_, rfl, rfl⟩ | ⟨_, _, _, _, h, _⟩
  · exact Nat.zero_le _
  · omega
theorem tl_head {bs : List UInt8} (h : headOk bs) : TlI bs 1 ⟨telI bs, telT bs, []⟩ (telN bs) := .inr ⟨by omega, h, rfl, rfl, Nat.zero_add _, by
  show telP _ _ = (telP (bs.drop (pos bs 0 + tkN (bs.drop (pos bs 0)))) _).map _
  rw [show pos bs 0 = 0 from rfl, Nat.zero_add, List.drop_zero]
  cases telP (bs.drop (tkN bs)) (telN bs) <;> simp⟩
theorem tl_more {bs : List UInt8} {k left : Nat} {s : Sn} (h : TlI bs k s left) (h0 : 0 < k) (hl : left ≠ 0) (hp : tkE (bs.drop (pos bs k)) = 0 ∧ tkK (bs.drop (pos bs k)) = 6 ∧ (tkL (bs.drop (pos bs k))).length = min left 1024) :
    TlI bs (k + 1) ⟨s.i, s.t, s.b ++ tkL (bs.drop (pos bs k))⟩ (left - (tkL (bs.drop (pos bs k))).length) := by
  rcases h with ⟨rfl, _⟩ | ⟨_, h1, h2, h3, h4, h5⟩
  · omega
  · refine .inr ⟨by omega, h1, h2, h3, ?_, ?_⟩
    · show (s.b ++ _).length + _ = _
      rw [List.length_append]; omega
    · rw [h5, telP_yes hl hp, pos, List.drop_drop]
      cases telP (bs.drop (pos bs k + tkN (bs.drop (pos bs k)))) (left - (tkL (bs.drop (pos bs k))).length) <;> simp
theorem tl_done {bs : List UInt8} {k : Nat} {s : Sn} (h : TlI bs k s 0) (h0 : 0 < k) : tel bs = some s := by
  rcases h with ⟨rfl, _⟩ | ⟨_, h1, h2, h3, h4, h5⟩
  · omega
  · unfold tel
    rw [if_pos h1, h5, telP_0, Option.map_some, Option.map_some, List.append_nil, ← h2, ← h3]
theorem tl_bad {bs : List UInt8} {k left : Nat} {s : Sn} (h : TlI bs k s left) (h0 : 0 < k) (hl : left ≠ 0) (hp : ¬ (tkE (bs.drop (pos bs k)) = 0 ∧ tkK (bs.drop (pos bs k)) = 6 ∧ (tkL (bs.drop (pos bs k))).length = min left 1024)) : tel bs = none := by
  rcases h with ⟨rfl, _⟩ | ⟨_, h1, h2, h3, h4, h5⟩
  · omega
  · unfold tel
    rw [if_pos h1, h5, telP_no hl hp]
    rfl
theorem tel_nohead {bs : List UInt8} (h : ¬ headOk bs) : tel bs = none := by unfold tel; rw [if_neg h]

end Go.Proofs.Ytlppgpidakfnlaa
