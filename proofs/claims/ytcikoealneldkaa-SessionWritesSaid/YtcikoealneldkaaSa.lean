/- Tables of sessions: plain. -/
import Derived.Test.YtcikoealneldkaaEz
namespace Go.Proofs.Ytcikoealneldkaa
open Go Go.RowKit Go.Lib
variable {W : World}
/-- the table of sessions as data: what a client asked last (0: nothing), and what came of it -/
abbrev Tb := Int → Int × List Ev
def T0 : Tb := fun _ => (0, [])
def updT (T : Tb) (c : Int) (p : Int × List Ev) : Tb := fun x => if x = c then p else T x
def lastT (T : Tb) (c : Int) : Int := if 1 ≤ c ∧ c ≤ 8 then (T c).1 else 0
def doneE (T : Tb) (c r : Int) (l : List Ev) : Int := if c < 1 ∨ 8 < c ∨ r = 0 then 2 else if r ≤ lastT T c then 55 else if 256 < l.length then 21 else 0
def doneT (T : Tb) (c r : Int) (l : List Ev) : Tb := if doneE T c r l = 0 then updT T c (r, l) else T
def lookA (T : Tb) (c r : Int) : Bool := !(decide (r = 0) || decide (lastT T c < r)) && !decide (r < lastT T c)
def lookO (T : Tb) (c r : Int) : Bool := !(decide (r = 0) || decide (lastT T c < r)) && decide (r < lastT T c)
def lookL (T : Tb) (c r : Int) : List Ev := if lookA T c r then (T c).2 else []
structure TGood (T : Tb) : Prop where
  rng : ∀ c, 0 ≤ (T c).1 ∧ (T c).1 < 18446744073709551616
  evs : ∀ c, ∀ e ∈ (T c).2, e.In
  len : ∀ c, (T c).2.length ≤ 256
  out : ∀ c, ¬ (1 ≤ c ∧ c ≤ 8) → T c = (0, [])
  nil : ∀ c, (T c).1 = 0 → (T c).2 = []
theorem TGood.zero : TGood T0 := ⟨(fun _ => (show (0 : Int) ≤ 0 ∧ (0 : Int) < 18446744073709551616 by decide)), (fun _ _ h => by cases h), (fun _ => Nat.zero_le _), (fun _ _ => rfl), (fun _ _ => rfl)⟩
theorem TGood.upd {T : Tb} (h : TGood T) {c r : Int} {l : List Ev} (hc : 1 ≤ c ∧ c ≤ 8) (hr : 0 < r ∧ r < 18446744073709551616) (hl : l.length ≤ 256) (hi : ∀ e ∈ l, e.In) : TGood (updT T c (r, l)) := by
  refine ⟨fun x => ?_, fun x => ?_, fun x => ?_, fun x hx => ?_, fun x hx => ?_⟩
  · unfold updT; split
    · exact ⟨by show 0 ≤ r; omega, hr.2⟩
    · exact h.rng x
  · unfold updT; split
    · exact hi
    · exact h.evs x
  · unfold updT; split
    · exact hl
    · exact h.len x
  · unfold updT
    rw [if_neg (by omega)]
    exact h.out x hx
  · unfold updT at hx ⊢
    split at hx
    · simp only at hx; omega
    · rename_i hn
      rw [if_neg hn]
      exact h.nil x hx
theorem TGood.done {T : Tb} (h : TGood T) {c r : Int} {l : List Ev} (hr : 0 ≤ r ∧ r < 18446744073709551616) (hi : ∀ e ∈ l, e.In) : TGood (doneT T c r l) := by
  unfold doneT
  split
  · rename_i he
    unfold doneE at he
    split at he
    · cases he
    · split at he
      · cases he
      · split at he
        · cases he
        · exact h.upd (by omega) (by omega) (by omega) hi
  · exact h
theorem lastT_rng {T : Tb} (h : TGood T) (c : Int) : 0 ≤ lastT T c ∧ lastT T c < 18446744073709551616 := by
  unfold lastT
  split
  · exact h.rng c
  · omega
/-- its bytes -/
def itB (c : Int) (p : Int × List Ev) : List UInt8 := enc c.toNat ++ (enc p.1.toNat ++ evsB p.2)
def sesP (T : Tb) : Nat → List UInt8
  | 0 => []
  | k + 1 => sesP T k ++ (if 0 < (T ((k : Int) + 1)).1 then itB ((k : Int) + 1) (T ((k : Int) + 1)) else [])
def cntK (T : Tb) : Nat → Nat
  | 0 => 0
  | k + 1 => cntK T k + (if 0 < (T ((k : Int) + 1)).1 then 1 else 0)
def sesB (T : Tb) : List UInt8 := enc (cntK T 8) ++ sesP T 8
theorem cntK_le (T : Tb) : ∀ k, cntK T k ≤ k
  | 0 => Nat.le_refl 0
  | k + 1 => by have := cntK_le T k; rw [cntK]; split <;> omega
theorem evsB_length {l : List Ev} (h : ∀ e ∈ l, e.In) (hl : l.length ≤ 256) : (evsB l).length ≤ 40000 := by
  have h1 := evsB_len h
  have h2 := enc_ten (n := l.length) (by omega)
  rw [evsB, List.length_append]
  omega
theorem itB_len {T : Tb} (h : TGood T) {c : Int} (hc : 1 ≤ c ∧ c ≤ 8) : (itB c (T c)).length ≤ 50000 := by
  have h1 := enc_ten (n := c.toNat) (by omega)
  have h2 := enc_ten (n := (T c).1.toNat) (by have := h.rng c; omega)
  have h3 := evsB_length (h.evs c) (h.len c)
  unfold itB
  simp only [List.length_append]
  omega
theorem sesP_len {T : Tb} (h : TGood T) : ∀ k, k ≤ 8 → (sesP T k).length ≤ 50000 * k
  | 0, _ => by simp [sesP]
  | k + 1, hk => by
    have ih := sesP_len h k (by omega)
    have := itB_len h (c := (k : Int) + 1) (by omega)
    rw [sesP, List.length_append]
    split
    · omega
    · simp; omega
theorem sesP_congr {T U : Tb} : ∀ k : Nat, (∀ c : Int, 1 ≤ c → c ≤ k → T c = U c) → sesP T k = sesP U k ∧ cntK T k = cntK U k
  | 0, _ => ⟨rfl, rfl⟩
  | k + 1, h => by
    obtain ⟨h1, h2⟩ := sesP_congr k fun c h0 h1 => h c h0 (by omega)
    have h3 := h ((k : Int) + 1) (by omega) (by omega)
    rw [sesP, sesP, cntK, cntK, h1, h2, h3]
    exact ⟨rfl, rfl⟩
theorem sesP_more {T : Tb} {j : Nat} : ∀ k : Nat, j ≤ k → (∀ c : Int, (j : Int) < c → c ≤ k → (T c).1 = 0) → sesP T k = sesP T j ∧ cntK T k = cntK T j
  | 0, h, _ => by rw [show j = 0 by omega]; exact ⟨rfl, rfl⟩
  | k + 1, h, hz => by
    rcases Nat.lt_or_ge k j with hk | hk
    · rw [show j = k + 1 by omega]; exact ⟨rfl, rfl⟩
    · obtain ⟨h1, h2⟩ := sesP_more k hk fun c h0 h1 => hz c h0 (by omega)
      have h3 := hz ((k : Int) + 1) (by omega) (by omega)
      rw [sesP, cntK, h1, h2, h3]
      simp
theorem sesP_add {T : Tb} {last c : Int} {p : Int × List Ev} (hl : 0 ≤ last) (hc : last < c ∧ c ≤ 8) (hz : ∀ x : Int, last < x → x ≤ 8 → (T x).1 = 0) (hp : 0 < p.1) : sesP (updT T c p) 8 = sesP T 8 ++ itB c p ∧ cntK (updT T c p) 8 = cntK T 8 + 1 := by
  have hc1 : ((c.toNat - 1 : Nat) : Int) + 1 = c := by omega
  obtain ⟨a1, a2⟩ := sesP_more (T := T) (j := c.toNat - 1) 8 (by omega) fun x h0 h1 => hz x (by omega) (by omega)
  obtain ⟨b1, b2⟩ := sesP_more (T := updT T c p) (j := c.toNat) 8 (by omega) fun x h0 h1 => by
    unfold updT; rw [if_neg (by omega)]; exact hz x (by omega) (by omega)
  obtain ⟨c1, c2⟩ := sesP_congr (T := updT T c p) (U := T) (c.toNat - 1) fun x h0 h1 => by unfold updT; rw [if_neg (by omega)]
  have hu : updT T c p c = p := by unfold updT; rw [if_pos rfl]
  rw [b1, b2, a1, a2, show c.toNat = (c.toNat - 1) + 1 by omega, sesP, cntK, Nat.add_sub_cancel, c1, c2, hc1, hu, if_pos hp, if_pos hp]
  exact ⟨rfl, rfl⟩
/-- reading: step by step -/
def sN (s : Rs) : Nat := (s.nat 8).1
structure Sk where
  T : Tb
  last : Int
  s : Rs
def Sk.cl (q : Sk) : Int := (((q.s.nat 8).1 : Nat) : Int)
def Sk.s1 (q : Sk) : Rs := (q.s.nat 8).2
def Sk.rq (q : Sk) : Int := q.s1.all.1
def Sk.s2 (q : Sk) : Rs := q.s1.all.2
def Sk.good (q : Sk) : Bool := evOk q.s2 && (decide (q.last < q.cl) && decide (0 < q.rq))
def Sk.next (q : Sk) : Sk := ⟨updT q.T q.cl (q.rq, evL q.s2), q.cl, evS q.s2⟩
def sk (s : Rs) : Nat → Sk
  | 0 => ⟨T0, 0, (s.nat 8).2⟩
  | k + 1 => (sk s k).next
def sAll (s : Rs) : Nat → Bool
  | 0 => true
  | k + 1 => sAll s k && (sk s k).good
theorem sN_le (s : Rs) : sN s ≤ 8 := s.nat_le 8
theorem Sk.cl_rng (q : Sk) : 0 ≤ q.cl ∧ q.cl ≤ 8 := by have := q.s.nat_le 8; unfold Sk.cl; omega
theorem Sk.rq_rng (q : Sk) : 0 ≤ q.rq ∧ q.rq < 18446744073709551616 := all_lt _
theorem Sk.good_iff {q : Sk} : q.good = true ↔ evOk q.s2 = true ∧ q.last < q.cl ∧ 0 < q.rq := by
  unfold Sk.good
  simp only [Bool.and_eq_true, decide_eq_true_eq]
structure SkOk (s : Rs) (k : Nat) (q : Sk) : Prop where
  good : TGood q.T
  last : 0 ≤ q.last ∧ q.last ≤ 8
  zero : ∀ x : Int, q.last < x → x ≤ 8 → (q.T x).1 = 0
  cnt : cntK q.T 8 = k
  kinds : ∀ c, ∀ e ∈ (q.T c).2, 1 ≤ e.kind ∧ e.kind ≤ 15
  bytes : q.s.bad = false → s.left = enc (sN s) ++ (sesP q.T 8 ++ q.s.left) ∧ s.bad = false
theorem sk_ok (s : Rs) : ∀ k, sAll s k = true → SkOk s k (sk s k)
  | 0, _ => ⟨TGood.zero, ⟨Int.le_refl 0, (show (0 : Int) ≤ 8 by decide)⟩, (fun _ _ _ => rfl), rfl, (fun _ _ h => by cases h), fun h => by
    obtain ⟨h1, h2⟩ := Rs.nat_only (s := s) (most := 8) h
    refine ⟨?_, h2⟩
    rw [h1, show sesP (sk s 0).T 8 = [] from rfl, List.nil_append]
    rfl⟩
  | k + 1, h => by
    rw [sAll, Bool.and_eq_true] at h
    have ih := sk_ok s k h.1
    obtain ⟨g1, g2, g3⟩ := Sk.good_iff.1 h.2
    have hcl := (sk s k).cl_rng
    have hrq := (sk s k).rq_rng
    obtain ⟨a1, a2⟩ := sesP_add (T := (sk s k).T) (last := (sk s k).last) (c := (sk s k).cl) (p := ((sk s k).rq, evL (sk s k).s2)) ih.last.1 ⟨g2, hcl.2⟩ ih.zero g3
    have hlast := ih.last
    rw [sk]
    refine ⟨ih.good.upd (by omega) ⟨g3, hrq.2⟩ (evL_len _) (evL_in _), hcl, fun x h0 h1 => ?_, by show cntK (updT _ _ _) 8 = _; rw [a2, ih.cnt], fun c e he => ?_, fun hb => ?_⟩
    · show (updT (sk s k).T (sk s k).cl _ x).1 = 0
      have h0' : (sk s k).cl < x := h0
      unfold updT
      rw [if_neg (by omega)]
      exact ih.zero x (by omega) h1
    · replace he : e ∈ (updT (sk s k).T (sk s k).cl ((sk s k).rq, evL (sk s k).s2) c).2 := he
      unfold updT at he
      split at he
      · exact evL_kind _ e he
      · exact ih.kinds c e he
    · obtain ⟨hb3, e3⟩ := evS_ok g1
      have hbe : (sk s k).s2.bad = false := by
        unfold evOk at g1
        simp only [Bool.and_eq_true, Bool.not_eq_true'] at g1
        exact (evk_only _ _ g1.1).2
      obtain ⟨e2, hb2⟩ := Rs.all_only (s := (sk s k).s1) hbe
      obtain ⟨e1, hb1⟩ := Rs.nat_only (s := (sk s k).s) (most := 8) hb2
      obtain ⟨e0, hb0⟩ := ih.bytes hb1
      refine ⟨?_, hb0⟩
      show s.left = enc (sN s) ++ (sesP (updT (sk s k).T (sk s k).cl ((sk s k).rq, evL (sk s k).s2)) 8 ++ (evS (sk s k).s2).left)
      replace e2 : (sk s k).s1.left = enc (sk s k).rq.toNat ++ (sk s k).s2.left := e2
      replace e1 : (sk s k).s.left = enc (sk s k).cl.toNat ++ (sk s k).s1.left := e1
      rw [e0, a1, e1, e2, e3]
      simp only [itB, List.append_assoc]
def sOk (s : Rs) : Bool := !(sk s (sN s)).s.bad && sAll s (sN s)
def sT (s : Rs) : Tb := if sOk s then (sk s (sN s)).T else T0
def sS (s : Rs) : Rs := if sOk s then (sk s (sN s)).s else s.fail
theorem sOk_no {s : Rs} (h : sOk s = false) : sT s = T0 ∧ sS s = s.fail := by unfold sT sS; rw [h]; exact ⟨rfl, rfl⟩
theorem sOk_yes {s : Rs} (h : sOk s = true) : sT s = (sk s (sN s)).T ∧ sS s = (sk s (sN s)).s ∧ (sk s (sN s)).s.bad = false ∧ sAll s (sN s) = true := by
  unfold sT sS
  rw [h]
  unfold sOk at h
  simp only [Bool.and_eq_true, Bool.not_eq_true'] at h
  exact ⟨rfl, rfl, h.1, h.2⟩
theorem sOk_f1 {s : Rs} (h : (sk s (sN s)).s.bad = true) : sOk s = false := by unfold sOk; rw [h]; rfl
theorem sAll_le {s : Rs} {i : Nat} (h : (sk s i).good = false) : ∀ {k : Nat}, i < k → sAll s k = false
  | k + 1, hi => by
    rw [sAll]
    rcases Nat.lt_or_ge i k with h1 | h1
    · rw [sAll_le h h1]; rfl
    · rw [show k = i by omega, h, Bool.and_false]
theorem sOk_f2 {s : Rs} {i : Nat} (hi : i < sN s) (h : (sk s i).good = false) : sOk s = false := by unfold sOk; rw [sAll_le h hi, Bool.and_false]
theorem sOk_t {s : Rs} (h : (sk s (sN s)).s.bad = false) (h2 : sAll s (sN s) = true) : sOk s = true := by unfold sOk; rw [h, h2]; rfl
theorem sT_good (s : Rs) : TGood (sT s) := by
  cases h : sOk s with
  | false => rw [(sOk_no h).1]; exact TGood.zero
  | true =>
    obtain ⟨e1, _, _, h2⟩ := sOk_yes h
    rw [e1]
    exact (sk_ok s _ h2).good
theorem s_bytes {s : Rs} (h : sOk s = true) : s.left = sesB (sT s) ++ (sS s).left ∧ (sS s).bad = false := by
  obtain ⟨e1, e2, h1, h2⟩ := sOk_yes h
  have hk := sk_ok s _ h2
  rw [e1, e2]
  refine ⟨?_, h1⟩
  rw [sesB, hk.cnt, List.append_assoc]
  exact (hk.bytes h1).1
def itO (T : Tb) (c : Int) : List UInt8 := if 0 < (T c).1 then itB c (T c) else []
def sesR (T : Tb) : Nat → List UInt8
  | 0 => []
  | m + 1 => itO T (8 - (m : Int)) ++ sesR T m
theorem sesP_R (T : Tb) : ∀ m, m ≤ 8 → sesP T 8 = sesP T (8 - m) ++ sesR T m
  | 0, _ => by simp [sesR]
  | m + 1, h => by
    rw [sesP_R T m (by omega), show 8 - m = (8 - (m + 1)) + 1 by omega, sesP, sesR, List.append_assoc]
    congr 2
    unfold itO
    rw [show ((8 - (m + 1) : Nat) : Int) + 1 = 8 - (m : Int) by omega]
def trT (T : Tb) (j : Nat) : Tb := fun c => if 1 ≤ c ∧ c ≤ j then T c else (0, [])
theorem s_step {T : Tb} (h : TGood T) (hk : ∀ c, ∀ e ∈ (T c).2, 1 ≤ e.kind ∧ e.kind ≤ 15) (rest : List UInt8) : ∀ j : Nat, j ≤ 8 → ∃ last : Int, 0 ≤ last ∧ last ≤ j ∧ sk ⟨sesB T ++ rest, false⟩ (cntK T j) = ⟨trT T j, last, ⟨sesR T (8 - j) ++ rest, false⟩⟩ ∧ sAll ⟨sesB T ++ rest, false⟩ (cntK T j) = true
  | 0, _ => by
    refine ⟨0, Int.le_refl 0, Int.le_refl 0, ?_, rfl⟩
    have e := sesP_R T 8 (Nat.le_refl 8)
    rw [show 8 - 8 = 0 from rfl, show sesP T 0 = [] from rfl, List.nil_append] at e
    have hn := Rs.nat_enc (n := cntK T 8) (most := 8) (cntK_le T 8) (by omega) (sesP T 8 ++ rest) false
    show Sk.mk T0 0 ((⟨sesB T ++ rest, false⟩ : Rs).nat 8).2 = _
    rw [sesB, List.append_assoc, hn, e]
    congr 1
    funext c
    unfold trT
    rw [if_neg (by omega)]
    rfl
  | j + 1, hj => by
    obtain ⟨last, h0, h1, hs, ha⟩ := s_step h hk rest j (by omega)
    have er : sesR T (8 - j) = itO T ((j : Int) + 1) ++ sesR T (8 - (j + 1)) := by
      rw [show 8 - j = (8 - (j + 1)) + 1 by omega, sesR, show (8 : Int) - ((8 - (j + 1) : Nat) : Int) = (j : Int) + 1 by omega]
    rw [er] at hs
    have hrg := h.rng ((j : Int) + 1)
    by_cases hz : 0 < (T ((j : Int) + 1)).1
    · have ec : cntK T (j + 1) = cntK T j + 1 := by rw [cntK, if_pos hz]
      rw [itO, if_pos hz] at hs
      have eq1 : (sk ⟨sesB T ++ rest, false⟩ (cntK T j)).cl = (j : Int) + 1 ∧ (sk ⟨sesB T ++ rest, false⟩ (cntK T j)).s1 = ⟨enc (T ((j : Int) + 1)).1.toNat ++ (evsB (T ((j : Int) + 1)).2 ++ (sesR T (8 - (j + 1)) ++ rest)), false⟩ := by
        have hn := Rs.nat_enc (n := ((j : Int) + 1).toNat) (most := 8) (by omega) (by omega) (enc (T ((j : Int) + 1)).1.toNat ++ (evsB (T ((j : Int) + 1)).2 ++ (sesR T (8 - (j + 1)) ++ rest))) false
        unfold Sk.cl Sk.s1
        rw [hs]
        simp only [itB, List.append_assoc]
        rw [hn]
        exact ⟨by omega, rfl⟩
      have eq2 : (sk ⟨sesB T ++ rest, false⟩ (cntK T j)).rq = (T ((j : Int) + 1)).1 ∧ (sk ⟨sesB T ++ rest, false⟩ (cntK T j)).s2 = ⟨evsB (T ((j : Int) + 1)).2 ++ (sesR T (8 - (j + 1)) ++ rest), false⟩ := by
        unfold Sk.rq Sk.s2
        rw [eq1.2, Rs.all_enc hrg.1 hrg.2]
        exact ⟨rfl, rfl⟩
      obtain ⟨b1, b2, b3⟩ := ev_back (h.len ((j : Int) + 1)) (h.evs _) (hk _) (sesR T (8 - (j + 1)) ++ rest)
      have hl : (sk ⟨sesB T ++ rest, false⟩ (cntK T j)).last = last := by rw [hs]
      have hT : (sk ⟨sesB T ++ rest, false⟩ (cntK T j)).T = trT T j := by rw [hs]
      refine ⟨(j : Int) + 1, by omega, by omega, ?_, ?_⟩
      · rw [ec, sk]
        unfold Sk.next
        rw [eq1.1, eq2.1, eq2.2, b2, b3, hT]
        congr 1
        funext c
        unfold updT trT
        by_cases hc : c = (j : Int) + 1
        · rw [if_pos hc, if_pos (by omega), hc]
        · rw [if_neg hc]
          by_cases hc2 : 1 ≤ c ∧ c ≤ j
          · rw [if_pos hc2, if_pos (by omega)]
          · rw [if_neg hc2, if_neg (by omega)]
      · rw [ec, sAll, ha, Bool.true_and, Sk.good_iff, eq2.2, eq1.1, eq2.1, hl]
        exact ⟨b1, by omega, hz⟩
    · have ec : cntK T (j + 1) = cntK T j := by rw [cntK, if_neg hz, Nat.add_zero]
      have et : T ((j : Int) + 1) = (0, []) := Prod.ext (by show (T ((j : Int) + 1)).1 = 0; omega) (h.nil _ (by omega))
      refine ⟨last, h0, by omega, ?_, by rw [ec]; exact ha⟩
      rw [ec, hs, itO, if_neg hz, List.nil_append]
      congr 1
      funext c
      unfold trT
      by_cases hc : c = (j : Int) + 1
      · rw [if_neg (by omega), if_pos (by omega), hc, et]
      · by_cases hc2 : 1 ≤ c ∧ c ≤ j
        · rw [if_pos hc2, if_pos (by omega)]
        · rw [if_neg hc2, if_neg (by omega)]
theorem s_back {T : Tb} (h : TGood T) (hk : ∀ c, ∀ e ∈ (T c).2, 1 ≤ e.kind ∧ e.kind ≤ 15) (rest : List UInt8) : sOk ⟨sesB T ++ rest, false⟩ = true ∧ sT ⟨sesB T ++ rest, false⟩ = T ∧ sS ⟨sesB T ++ rest, false⟩ = ⟨rest, false⟩ := by
  obtain ⟨last, _, _, hs, ha⟩ := s_step h hk rest 8 (Nat.le_refl 8)
  have hN : sN ⟨sesB T ++ rest, false⟩ = cntK T 8 := by
    unfold sN
    rw [sesB, List.append_assoc, Rs.nat_enc (cntK_le T 8) (by omega)]
  have ho : sOk ⟨sesB T ++ rest, false⟩ = true := sOk_t (by rw [hN, hs]) (by rw [hN]; exact ha)
  obtain ⟨e1, e2, _, _⟩ := sOk_yes ho
  refine ⟨ho, ?_, ?_⟩
  · rw [e1, hN, hs]
    funext c
    show trT T 8 c = T c
    unfold trT
    by_cases hc : 1 ≤ c ∧ c ≤ (8 : Nat)
    · rw [if_pos hc]
    · rw [if_neg hc, h.out c (by omega)]
  · rw [e2, hN, hs]
    rfl
end Go.Proofs.Ytcikoealneldkaa
