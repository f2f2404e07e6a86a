/- Parcels one behind the other, cut off: plain. -/
import Derived.Test.YtlppgpidakfnlaaPf
namespace Go.Proofs.Ytlppgpidakfnlaa
open Go Go.RowKit Go.Lib
variable {W : World}
theorem enc_three {n : Nat} (h : n ≤ 65536) : (enc n).length ≤ 3 := by
  by_cases h1 : n < 128
  · rw [enc_small h1]; simp
  · rw [enc_big (by omega), List.length_cons]
    by_cases h2 : n / 128 < 128
    · rw [enc_small h2]; simp
    · rw [enc_big (by omega), List.length_cons, enc_small (by omega)]; simp
theorem enc_cut : ∀ (n j : Nat), j < (enc n).length → ∀ c ∈ (enc n).take j, 128 ≤ c.toNat := by
  intro n
  induction n using Nat.strongRecOn with
  | _ n ih =>
    intro j hj c hc
    by_cases h1 : n < 128
    · rw [enc_small h1] at hj hc
      have : j = 0 := by simpa using hj
      subst this
      simp at hc
    · rw [enc_big (by omega)] at hj hc
      cases j with
      | zero => simp at hc
      | succ j =>
        rw [List.take_succ_cons] at hc
        rcases List.mem_cons.1 hc with rfl | hc
        · rw [u8_ofNat (by omega)]; omega
        · exact ih (n / 128) (by omega) j (by simpa using hj) c hc
theorem sz_form {k : UInt8} {n : Nat} {r : List UInt8} (hn : n ≤ 65536) : szS (k :: (enc n ++ r)) = ⟨r, false⟩ ∧ szN (k :: (enc n ++ r)) = n := by
  have h1 : (⟨enc n ++ r, false⟩ : Rs).nat allNat = (n, ⟨r, false⟩) := Rs.nat_enc (by unfold allNat; omega) (by unfold allNat; omega) r false
  unfold szS szN
  rw [List.drop_one, List.tail_cons, h1]
  exact ⟨rfl, rfl⟩
theorem par_form (k : UInt8) (body : List UInt8) : parB k body = k :: (enc body.length ++ (body ++ four (crc (preB k body)))) := by simp [parB, preB]
theorem par_len (k : UInt8) (body : List UInt8) : (parB k body).length = 1 + (enc body.length).length + body.length + 4 := by
  rw [par_form, List.length_cons, List.length_append, List.length_append]
  have : (four (crc (preB k body))).length = 4 := rfl
  omega
theorem tk_more {k : UInt8} {body : List UInt8} (hb : body.length ≤ 65536) (hk : k ≠ 0) (rest : List UInt8) : tkE (parB k body ++ rest) = 0 ∧ tkN (parB k body ++ rest) = (parB k body).length := by
  have e : parB k body ++ rest = k :: (enc body.length ++ (body ++ (four (crc (preB k body)) ++ rest))) := by rw [par_form]; simp
  obtain ⟨h1, h2⟩ := sz_form (k := k) (r := body ++ (four (crc (preB k body)) ++ rest)) hb
  rw [← e] at h1 h2
  have hl : (parB k body ++ rest).length = 1 + (enc body.length).length + (body.length + (4 + rest.length)) := by
    rw [e, List.length_cons, List.length_append, List.length_append, List.length_append]
    have : (four (crc (preB k body))).length = 4 := rfl
    omega
  have hN : tkN (parB k body ++ rest) = (parB k body).length := by
    unfold tkN tkFrom
    rw [h1, h2, hl, par_len]
    simp only [List.length_append]
    have : (four (crc (preB k body))).length = 4 := rfl
    omega
  have hp : (preB k body).length = (parB k body).length - 4 := by unfold parB; rw [List.length_append, four_length]; omega
  have ht : (parB k body ++ rest).take (tkN (parB k body ++ rest) - 4) = preB k body := by
    rw [hN, ← hp]
    unfold parB
    rw [List.append_assoc, List.take_left]
  have hd : ((parB k body ++ rest).drop (tkN (parB k body ++ rest) - 4)).take 4 = four (crc (preB k body)) := by
    rw [hN, ← hp]
    unfold parB
    rw [List.append_assoc, List.drop_left]
    show List.take (four (crc (preB k body))).length _ = _
    exact List.take_left
  refine ⟨?_, hN⟩
  have h0 : ¬ (parB k body ++ rest).getD 0 0 = 0 := by rw [e]; simpa using hk
  have ho : openB ((parB k body ++ rest).drop 1) = false := by rw [e, List.drop_one, List.tail_cons]; exact enc_open _ _
  refine tkE_8 (by omega) h0 ho (by rw [h1]) (by rw [h2]; omega) (by rw [h1, h2]; simp only [List.length_append]; have : (four (crc (preB k body))).length = 4 := rfl; omega) ?_
  rw [ht, hd]
theorem tk_torn {k : UInt8} {body : List UInt8} (hb : body.length ≤ 65536) (hk : k ≠ 0) {m : Nat} (hm : m < (parB k body).length) : tkE ((parB k body).take m) = 31 := by
  cases m with
  | zero => exact tkE_1 (by simp)
  | succ m =>
    have he3 := enc_three hb
    rw [par_len] at hm
    rw [par_form, List.take_succ_cons]
    have h0 : ¬ (k :: (enc body.length ++ (body ++ four (crc (preB k body)))).take m).length = 0 := by simp
    have h1 : ¬ (k :: (enc body.length ++ (body ++ four (crc (preB k body)))).take m).getD 0 0 = 0 := by simpa using hk
    rcases Nat.lt_or_ge m (enc body.length).length with h | h
    · have ht : (enc body.length ++ (body ++ four (crc (preB k body)))).take m = (enc body.length).take m := by rw [List.take_append, show m - (enc body.length).length = 0 by omega]; simp
      rw [ht] at h0 h1 ⊢
      refine tkE_3 h0 h1 ?_
      rw [List.drop_one, List.tail_cons]
      unfold openB
      rw [Bool.and_eq_true, decide_eq_true_eq, List.all_eq_true]
      refine ⟨fun c hc => decide_eq_true (enc_cut _ _ h c hc), by rw [List.length_take]; omega⟩
    · have ht : (enc body.length ++ (body ++ four (crc (preB k body)))).take m = enc body.length ++ (body ++ four (crc (preB k body))).take (m - (enc body.length).length) := by rw [List.take_append, List.take_of_length_le h]
      rw [ht] at h0 h1 ⊢
      obtain ⟨h2, h3⟩ := sz_form (k := k) (r := (body ++ four (crc (preB k body))).take (m - (enc body.length).length)) hb
      refine tkE_6 h0 h1 (by rw [List.drop_one, List.tail_cons]; exact enc_open _ _) (by rw [h2]) (by rw [h3]; omega) ?_
      rw [h2, h3]
      show ((body ++ four (crc (preB k body))).take _).length < _
      rw [List.length_take]
      omega
abbrev Pcs := List (UInt8 × List UInt8)
def cat (ps : Pcs) : List UInt8 := ps.flatMap fun p => parB p.1 p.2
def PcsOk (ps : Pcs) : Prop := ∀ p ∈ ps, p.2.length ≤ 65536 ∧ p.1 ≠ 0
theorem cat_cons (p : UInt8 × List UInt8) (ps : Pcs) : cat (p :: ps) = parB p.1 p.2 ++ cat ps := rfl
theorem cat_snoc (ps : Pcs) (p : UInt8 × List UInt8) : cat (ps ++ [p]) = cat ps ++ parB p.1 p.2 := by unfold cat; rw [List.flatMap_append]; simp
theorem cat_pos : ∀ (j : Nat) (ps : Pcs), PcsOk ps → j ≤ ps.length → ∀ rest, pos (cat ps ++ rest) j = (cat (ps.take j)).length ∧ whole (cat ps ++ rest) j = true
  | 0, _, _, _, _ => ⟨by simp [pos, cat], rfl⟩
  | j + 1, ps, hps, hj, rest => by
    obtain ⟨h1, h2⟩ := cat_pos j ps hps (by omega) rest
    have hjl : j < ps.length := by omega
    obtain ⟨hb, hk⟩ := hps ps[j] (List.getElem_mem hjl)
    have hs : cat ps = cat (ps.take j) ++ (parB ps[j].1 ps[j].2 ++ cat (ps.drop (j + 1))) := by
      have e1 : ps = ps.take j ++ (ps[j] :: ps.drop (j + 1)) := by rw [← List.drop_eq_getElem_cons hjl, List.take_append_drop]
      rw [← cat_cons]
      unfold cat
      rw [← List.flatMap_append, ← e1]
    have hd : (cat ps ++ rest).drop (pos (cat ps ++ rest) j) = parB ps[j].1 ps[j].2 ++ (cat (ps.drop (j + 1)) ++ rest) := by
      rw [h1]
      conv => lhs; rw [hs]
      rw [List.append_assoc, List.drop_left, List.append_assoc]
    obtain ⟨t1, t2⟩ := tk_more hb hk (cat (ps.drop (j + 1)) ++ rest)
    refine ⟨?_, ?_⟩
    · rw [pos, hd, t2, h1, List.take_succ_eq_append_getElem hjl, cat_snoc, List.length_append]
    · rw [whole, h2, hd, t1]; rfl
theorem cut_split : ∀ (ps : Pcs) (cut : Nat), PcsOk ps → cut ≤ (cat ps).length → ∃ j r, j ≤ ps.length ∧ (cat ps).take cut = cat (ps.take j) ++ r ∧ tkE r = 31 ∧ (∀ i, i ≤ ps.length → ((cat (ps.take i)).length ≤ cut ↔ i ≤ j))
  | [], cut, _, hc => ⟨0, [], Nat.le_refl 0, by simp [cat], tkE_1 rfl, fun i hi => ⟨fun _ => hi, fun _ => by simp [cat]⟩⟩
  | p :: ps, cut, hps, hc => by
    obtain ⟨hb, hk⟩ := hps p List.mem_cons_self
    rw [cat_cons, List.length_append] at hc
    rcases Nat.lt_or_ge cut (parB p.1 p.2).length with h | h
    · refine ⟨0, (parB p.1 p.2).take cut, Nat.zero_le _, ?_, tk_torn hb hk h, fun i hi => ⟨fun h2 => ?_, fun h2 => ?_⟩⟩
      · rw [cat_cons, List.take_append, show cut - (parB p.1 p.2).length = 0 by omega]; simp [cat]
      · cases i with
        | zero => exact Nat.le_refl 0
        | succ i => rw [List.take_succ_cons, cat_cons, List.length_append] at h2; omega
      · rw [show i = 0 by omega]; simp [cat]
    · obtain ⟨j, r, hj, h1, h2, h3⟩ := cut_split ps (cut - (parB p.1 p.2).length) (fun q hq => hps q (List.mem_cons_of_mem _ hq)) (by omega)
      refine ⟨j + 1, r, by simpa using hj, ?_, h2, fun i hi => ?_⟩
      · rw [cat_cons, List.take_append, List.take_of_length_le h, h1, List.take_succ_cons, cat_cons, List.append_assoc]
      · cases i with
        | zero => simp [cat]
        | succ i =>
          rw [List.take_succ_cons, cat_cons, List.length_append]
          have := h3 i (by simpa using hi)
          omega
theorem cut_end {ps : Pcs} {cut j k : Nat} {r : List UInt8} (hps : PcsOk ps) (hc : cut ≤ (cat ps).length) (hj : j ≤ ps.length) (h1 : (cat ps).take cut = cat (ps.take j) ++ r) (h2 : tkE r = 31)
    (hw : whole ((cat ps).take cut) k = true) (hk : tkE (((cat ps).take cut).drop (pos ((cat ps).take cut) k)) ≠ 0) :
    pos ((cat ps).take cut) k = (cat (ps.take j)).length ∧ ((endE ((cat ps).take cut) k = 0 ∧ (cat (ps.take j)).length = cut) ∨ (endE ((cat ps).take cut) k = 31 ∧ (cat (ps.take j)).length ≠ cut)) := by
  have hl : ((cat ps).take cut).length = cut := by rw [List.length_take]; omega
  have hok : PcsOk (ps.take j) := fun p hp => hps p (List.mem_of_mem_take hp)
  have hjl : (ps.take j).length = j := by rw [List.length_take]; omega
  obtain ⟨p1, p2⟩ := cat_pos j (ps.take j) hok (by omega) r
  rw [← h1, List.take_take, Nat.min_self] at p1
  rw [← h1] at p2
  have hd : ((cat ps).take cut).drop (pos ((cat ps).take cut) j) = r := by rw [p1, h1, List.drop_left]
  have hkj := whole_uniq hw hk p2 (by rw [hd, h2]; decide)
  subst hkj
  refine ⟨p1, ?_⟩
  unfold endE
  rw [hl, hd, h2, p1]
  split
  · rename_i h; exact .inl ⟨rfl, h⟩
  · rename_i h; exact .inr ⟨rfl, h⟩

end Go.Proofs.Ytlppgpidakfnlaa
