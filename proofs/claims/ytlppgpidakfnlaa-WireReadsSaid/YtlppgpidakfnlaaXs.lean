/- What is read of messages: plain. -/
import Derived.Test.YtlppgpidakfnlaaXm
import Derived.Test.YtlppgpidakfnlaaEx
import Derived.Test.YtlppgpidakfnlaaMp
namespace Go.Proofs.Ytlppgpidakfnlaa
open Go Go.RowKit Go.Lib
variable {W : World}
/-- what Read reads of a message's bytes, step by step -/
def mI : Nat := 4611686018427387904
def en1 (s : Rs) : Nat × Rs := s.nat mI
def en2 (s : Rs) : Nat × Rs := (en1 s).2.nat mI
def en3 (s : Rs) : List UInt8 × Rs := (en2 s).2.text 512
def enV (s : Rs) : Int × Int × List UInt8 := (((en1 s).1 : Int), ((en2 s).1 : Int), (en3 s).1)
def enk (s : Rs) : Nat → List (Int × Int × List UInt8) × Rs
  | 0 => ([], s)
  | k + 1 => ((enk s k).1 ++ [enV (enk s k).2], (en3 (enk s k).2).2)
theorem enk_len (s : Rs) : ∀ k, (enk s k).1.length = k
  | 0 => rfl
  | k + 1 => by rw [enk, List.length_append, enk_len s k]; rfl
def enVB (e : Int × Int × List UInt8) : List UInt8 := enc e.1.toNat ++ (enc e.2.1.toNat ++ (enc e.2.2.length ++ e.2.2))
theorem entB_vw (e : EntV) : entB e = enVB e.vw := rfl
theorem ents_vw (l : List EntV) : l.flatMap entB = (l.map EntV.vw).flatMap enVB := by
  induction l with
  | nil => rfl
  | cons e l ih => rw [List.flatMap_cons, List.map_cons, List.flatMap_cons, ih, entB_vw]
theorem text_len {s : Rs} {m : Int} (h : 0 ≤ m) : ((s.text m).1.length : Int) ≤ m := by
  unfold Rs.text
  rw [if_neg (by omega)]
  have := s.nat_le m.toNat
  split
  · exact h
  · show ((List.take _ _).length : Int) ≤ m
    rw [List.length_take]
    omega
theorem en_only {s : Rs} (h : (en3 s).2.bad = false) : s.left = enVB (enV s) ++ (en3 s).2.left ∧ s.bad = false := by
  obtain ⟨e3, h⟩ := Rs.text_only (s := (en2 s).2) h
  obtain ⟨e2, h⟩ := Rs.nat_only (s := (en1 s).2) h
  obtain ⟨e1, h⟩ := Rs.nat_only (s := s) h
  refine ⟨?_, h⟩
  change (en2 s).2.left = enc (en3 s).1.length ++ (en3 s).1 ++ (en3 s).2.left at e3
  change (en1 s).2.left = enc (en2 s).1 ++ (en2 s).2.left at e2
  change s.left = enc (en1 s).1 ++ (en1 s).2.left at e1
  rw [e3] at e2
  rw [e2] at e1
  rw [e1]
  simp [enVB, enV]
theorem enk_only {s : Rs} : ∀ {k : Nat}, (enk s k).2.bad = false → s.left = (enk s k).1.flatMap enVB ++ (enk s k).2.left ∧ s.bad = false
  | 0, h => ⟨rfl, h⟩
  | k + 1, h => by
    obtain ⟨e1, h1⟩ := en_only (s := (enk s k).2) h
    obtain ⟨e2, h2⟩ := enk_only h1
    refine ⟨?_, h2⟩
    rw [enk]
    dsimp only
    rw [List.flatMap_append, List.append_assoc]
    simp only [List.flatMap_cons, List.flatMap_nil, List.append_nil]
    rw [← e1]
    exact e2
def enFine (e : Int × Int × List UInt8) : Prop := (0 ≤ e.1 ∧ e.1 ≤ 4611686018427387904) ∧ (0 ≤ e.2.1 ∧ e.2.1 ≤ 4611686018427387904) ∧ e.2.2.length ≤ 512
theorem en_enc {e : Int × Int × List UInt8} (h : enFine e) (rest : List UInt8) (b : Bool) : enV ⟨enVB e ++ rest, b⟩ = e ∧ (en3 ⟨enVB e ++ rest, b⟩).2 = ⟨rest, b⟩ := by
  obtain ⟨i, t, d⟩ := e
  obtain ⟨h1, h2, h3⟩ := h
  dsimp only at h1 h2 h3
  have e1 : en1 ⟨enVB (i, t, d) ++ rest, b⟩ = (i.toNat, ⟨enc t.toNat ++ (enc d.length ++ d ++ rest), b⟩) := by
    have h := Rs.nat_enc (n := i.toNat) (most := mI) (by unfold mI; omega) (by decide) (enc t.toNat ++ (enc d.length ++ d ++ rest)) b
    rw [← h]
    simp [en1, enVB]
  have e2 : en2 ⟨enVB (i, t, d) ++ rest, b⟩ = (t.toNat, ⟨enc d.length ++ d ++ rest, b⟩) := by
    unfold en2
    rw [e1]
    exact Rs.nat_enc (by unfold mI; omega) (by decide) _ _
  have e3 : en3 ⟨enVB (i, t, d) ++ rest, b⟩ = (d, ⟨rest, b⟩) := by
    unfold en3
    rw [e2]
    exact Rs.text_enc (by omega) (by decide) _ _
  unfold enV
  rw [e1, e2, e3]
  refine ⟨?_, rfl⟩
  rw [Int.toNat_of_nonneg h1.1, Int.toNat_of_nonneg h2.1]
theorem enk_enc {l : List (Int × Int × List UInt8)} (h : ∀ e ∈ l, enFine e) (rest : List UInt8) (b : Bool) : ∀ k, k ≤ l.length → enk ⟨l.flatMap enVB ++ rest, b⟩ k = (l.take k, ⟨(l.drop k).flatMap enVB ++ rest, b⟩)
  | 0, _ => rfl
  | k + 1, hk => by
    rw [enk, enk_enc h rest b k (by omega)]
    dsimp only
    rw [List.drop_eq_getElem_cons (show k < l.length by omega), List.flatMap_cons, List.append_assoc]
    obtain ⟨e1, e2⟩ := en_enc (h _ (List.getElem_mem (show k < l.length by omega))) ((l.drop (k + 1)).flatMap enVB ++ rest) b
    rw [e1, e2, List.take_succ_eq_append_getElem (by omega)]
/-- a number, a text, events, that only some kinds have -/
def oqN (v : Int) (b m : Nat) (s : Rs) : Nat × Rs := if hasF v b then s.nat m else (0, s)
def oqB (v : Int) (b n : Nat) : List UInt8 := if hasF v b then enc n else []
theorem oqN_le (v : Int) (b m : Nat) (s : Rs) : (oqN v b m s).1 ≤ m := by
  unfold oqN
  split
  · exact s.nat_le m
  · exact Nat.zero_le _
theorem oqN_only {v : Int} {b m : Nat} {s : Rs} (h : (oqN v b m s).2.bad = false) : s.left = oqB v b (oqN v b m s).1 ++ (oqN v b m s).2.left ∧ s.bad = false := by
  unfold oqN oqB at *
  split at h
  · rename_i hv
    rw [if_pos hv, if_pos hv]
    exact Rs.nat_only h
  · rename_i hv
    rw [if_neg hv, if_neg hv]
    exact ⟨rfl, h⟩
theorem oqN_enc {v : Int} {b m n : Nat} (hn : n ≤ m) (hm : m < 18446744073709551616) (rest : List UInt8) (c : Bool) : oqN v b m ⟨oqB v b n ++ rest, c⟩ = (if hasF v b then n else 0, ⟨rest, c⟩) := by
  unfold oqN oqB
  split
  · exact Rs.nat_enc hn hm rest c
  · rfl
def oqT (v : Int) (s : Rs) : List UInt8 × Rs := if hasF v 32 then s.text 524288 else ([], s)
def oqTB (v : Int) (t : List UInt8) : List UInt8 := if hasF v 32 then enc t.length ++ t else []
theorem oqT_only {v : Int} {s : Rs} (h : (oqT v s).2.bad = false) : s.left = oqTB v (oqT v s).1 ++ (oqT v s).2.left ∧ s.bad = false := by
  unfold oqT oqTB at *
  split at h
  · rename_i hv
    rw [if_pos hv, if_pos hv]
    exact Rs.text_only h
  · rename_i hv
    rw [if_neg hv, if_neg hv]
    exact ⟨rfl, h⟩
theorem oqT_enc {v : Int} {t : List UInt8} (h : t.length ≤ 524288) (rest : List UInt8) (c : Bool) : oqT v ⟨oqTB v t ++ rest, c⟩ = (if hasF v 32 then t else [], ⟨rest, c⟩) := by
  unfold oqT oqTB
  split
  · exact Rs.text_enc (by omega) (by decide) rest c
  · rfl
def oqE (v : Int) (s : Rs) : List Ev × Rs := if hasF v 64 then (evL s, evS s) else ([], s)
def oqEB (v : Int) (l : List Ev) : List UInt8 := if hasF v 64 then evsB l else []
theorem evS_only {s : Rs} (h : (evS s).bad = false) : s.left = evsB (evL s) ++ (evS s).left ∧ s.bad = false := by
  have ho : evOk s = true := by
    cases hb : evOk s with
    | true => rfl
    | false =>
      unfold evS at h
      rw [hb] at h
      cases h
  refine ⟨(evS_ok ho).2, ?_⟩
  have hb : (evk s (evN s)).2.bad = false := by
    unfold evOk at ho
    simp only [Bool.and_eq_true, Bool.not_eq_true'] at ho
    exact ho.1
  exact (evk_only s _ hb).2
theorem oqE_only {v : Int} {s : Rs} (h : (oqE v s).2.bad = false) : s.left = oqEB v (oqE v s).1 ++ (oqE v s).2.left ∧ s.bad = false := by
  unfold oqE oqEB at *
  split at h
  · rename_i hv
    rw [if_pos hv, if_pos hv]
    exact evS_only h
  · rename_i hv
    rw [if_neg hv, if_neg hv]
    exact ⟨rfl, h⟩
theorem oqE_enc {v : Int} {l : List Ev} (hl : l.length ≤ 256) (hi : ∀ e ∈ l, e.In) (hk : ∀ e ∈ l, 1 ≤ e.kind ∧ e.kind ≤ 15) (rest : List UInt8) : oqE v ⟨oqEB v l ++ rest, false⟩ = (if hasF v 64 then l else [], ⟨rest, false⟩) := by
  unfold oqE oqEB
  split
  · obtain ⟨_, h2, h3⟩ := ev_back hl hi hk rest
    rw [h2, h3]
  · rfl
/-- a message's bytes in one row -/
def wbR (v : Int) (x : MsgV) : List UInt8 := enc x.kind.toNat ++ (enc x.frm.toNat ++ (enc x.to.toNat ++ (enc x.term.toNat ++ (oqB v 1 (if x.ok then 1 else 0) ++ (oqB v 2 x.index.toNat ++ (oqB v 4 x.logTerm.toNat ++ (oqB v 8 x.commit.toNat ++ (oqB v 16 x.entries.l.length ++ (x.entries.l.flatMap entB ++ (oqTB v x.body.l ++ (oqB v 64 x.client.toNat ++ (oqB v 64 x.req.toNat ++ oqEB v x.events.l))))))))))))
theorem wb8_R (v : Int) (x : MsgV) : wb8 v x = wbR v x := by
  have h1 : wb1 v x = wb0 x ++ oqB v 1 (if x.ok then 1 else 0) := by
    unfold wb1 oqB
    split
    · congr 1
      cases x.ok
      · exact (enc_small (by decide)).symm
      · exact (enc_small (by decide)).symm
    · rw [List.append_nil]
  have h2 : wb2 v x = wb1 v x ++ oqB v 2 x.index.toNat := by unfold wb2 oqB; split <;> simp
  have h3 : wb3 v x = wb2 v x ++ oqB v 4 x.logTerm.toNat := by unfold wb3 oqB; split <;> simp
  have h4 : wb4 v x = wb3 v x ++ oqB v 8 x.commit.toNat := by unfold wb4 oqB; split <;> simp
  have h5 : wb5 v x = wb4 v x ++ oqB v 16 x.entries.l.length := by unfold wb5 oqB; split <;> simp
  have h7 : wb7 v x = wb6 v x ++ oqTB v x.body.l := by unfold wb7 oqTB; split <;> simp
  have h8 : wb8 v x = wb7 v x ++ (oqB v 64 x.client.toNat ++ (oqB v 64 x.req.toNat ++ oqEB v x.events.l)) := by unfold wb8 oqB oqEB; split <;> simp
  rw [h8, h7, wb6, h5, h4, h3, h2, h1, wb0]
  simp only [wbR, List.append_assoc]
def m0 (s : Rs) : Nat × Rs := s.nat 8
def m1 (s : Rs) : Nat × Rs := (m0 s).2.nat 15
def m2 (s : Rs) : Nat × Rs := (m1 s).2.nat 15
def m3 (s : Rs) : Nat × Rs := (m2 s).2.nat mI
def mv (s : Rs) : Int := fl ((m0 s).1 : Int)
def m4 (s : Rs) : Nat × Rs := oqN (mv s) 1 1 (m3 s).2
def m5 (s : Rs) : Nat × Rs := oqN (mv s) 2 mI (m4 s).2
def m6 (s : Rs) : Nat × Rs := oqN (mv s) 4 mI (m5 s).2
def m7 (s : Rs) : Nat × Rs := oqN (mv s) 8 mI (m6 s).2
def m8 (s : Rs) : Nat × Rs := oqN (mv s) 16 32 (m7 s).2
def m9 (s : Rs) : List (Int × Int × List UInt8) × Rs := enk (m8 s).2 (m8 s).1
def m10 (s : Rs) : List UInt8 × Rs := oqT (mv s) (m9 s).2
def m11 (s : Rs) : Nat × Rs := oqN (mv s) 64 8 (m10 s).2
def m12 (s : Rs) : Nat × Rs := oqN (mv s) 64 allNat (m11 s).2
def m13 (s : Rs) : List Ev × Rs := oqE (mv s) (m12 s).2
def mM (s : Rs) : Mg := ⟨((m0 s).1 : Int), ((m1 s).1 : Int), ((m2 s).1 : Int), ((m3 s).1 : Int), ((m5 s).1 : Int), ((m6 s).1 : Int), ((m7 s).1 : Int), decide ((m4 s).1 = 1), (m9 s).1, (m10 s).1, ((m11 s).1 : Int), ((m12 s).1 : Int), (m13 s).1.map Ev.ints⟩
theorem endOk_z {s : Rs} (h : s.endOk = 0) : s.bad = false ∧ s.left = [] := by
  unfold Rs.endOk at h
  split at h
  · cases h
  · rename_i h0
    rw [not_or] at h0
    refine ⟨by simpa using h0.1, ?_⟩
    exact List.eq_nil_of_length_eq_zero (by omega)
theorem map_ints {a b : List Ev} (h : a.map Ev.ints = b.map Ev.ints) : a = b := same_eq (decide_eq_true h)
/-- what is read, to its end, are the bytes of what was told -/
theorem mM_only {s : Rs} {x : MsgV} (h : (m13 s).2.endOk = 0) (hx : x.vw = mM s) : s.left = wb8 (fl x.kind) x := by
  obtain ⟨g13, hl⟩ := endOk_z h
  obtain ⟨e13, g12⟩ := oqE_only (s := (m12 s).2) g13
  obtain ⟨e12, g11⟩ := oqN_only (s := (m11 s).2) g12
  obtain ⟨e11, g10⟩ := oqN_only (s := (m10 s).2) g11
  obtain ⟨e10, g9⟩ := oqT_only (s := (m9 s).2) g10
  obtain ⟨e9, g8⟩ := enk_only (s := (m8 s).2) g9
  obtain ⟨e8, g7⟩ := oqN_only (s := (m7 s).2) g8
  obtain ⟨e7, g6⟩ := oqN_only (s := (m6 s).2) g7
  obtain ⟨e6, g5⟩ := oqN_only (s := (m5 s).2) g6
  obtain ⟨e5, g4⟩ := oqN_only (s := (m4 s).2) g5
  obtain ⟨e4, g3⟩ := oqN_only (s := (m3 s).2) g4
  obtain ⟨e3, g2⟩ := Rs.nat_only (s := (m2 s).2) g3
  obtain ⟨e2, g1⟩ := Rs.nat_only (s := (m1 s).2) g2
  obtain ⟨e1, g0⟩ := Rs.nat_only (s := (m0 s).2) g1
  obtain ⟨e0, _⟩ := Rs.nat_only (s := s) g0
  change (m12 s).2.left = oqEB (mv s) (m13 s).1 ++ (m13 s).2.left at e13
  change (m11 s).2.left = oqB (mv s) 64 (m12 s).1 ++ (m12 s).2.left at e12
  change (m10 s).2.left = oqB (mv s) 64 (m11 s).1 ++ (m11 s).2.left at e11
  change (m9 s).2.left = oqTB (mv s) (m10 s).1 ++ (m10 s).2.left at e10
  change (m8 s).2.left = (m9 s).1.flatMap enVB ++ (m9 s).2.left at e9
  change (m7 s).2.left = oqB (mv s) 16 (m8 s).1 ++ (m8 s).2.left at e8
  change (m6 s).2.left = oqB (mv s) 8 (m7 s).1 ++ (m7 s).2.left at e7
  change (m5 s).2.left = oqB (mv s) 4 (m6 s).1 ++ (m6 s).2.left at e6
  change (m4 s).2.left = oqB (mv s) 2 (m5 s).1 ++ (m5 s).2.left at e5
  change (m3 s).2.left = oqB (mv s) 1 (m4 s).1 ++ (m4 s).2.left at e4
  change (m2 s).2.left = enc (m3 s).1 ++ (m3 s).2.left at e3
  change (m1 s).2.left = enc (m2 s).1 ++ (m2 s).2.left at e2
  change (m0 s).2.left = enc (m1 s).1 ++ (m1 s).2.left at e1
  change s.left = enc (m0 s).1 ++ (m0 s).2.left at e0
  rw [e0, e1, e2, e3, e4, e5, e6, e7, e8, e9, e10, e11, e12, e13, hl, List.append_nil, wb8_R]
  unfold MsgV.vw mM at hx
  rw [Mg.mk.injEq] at hx
  obtain ⟨h1, h2, h3, h4, h5, h6, h7, h8, h9, h10, h11, h12, h13⟩ := hx
  have h4' : (if x.ok then 1 else 0) = (m4 s).1 := by
    have hle : (m4 s).1 ≤ 1 := oqN_le _ _ _ _
    rw [h8]
    by_cases h : (m4 s).1 = 1
    · rw [h]; rfl
    · rw [decide_eq_false h, show (m4 s).1 = 0 by omega]; rfl
  have hm8 : x.entries.l.length = (m8 s).1 := by
    have h := congrArg List.length h9
    rw [List.length_map] at h
    rw [h]
    exact enk_len _ _
  unfold wbR
  rw [ents_vw, h1, h2, h3, h4, h5, h6, h7, h9, h10, h11, h12, map_ints h13, h4', hm8]
  rfl
theorem nat_go {m n : Nat} {s : Rs} {rest : List UInt8} {c : Bool} (hs : s = ⟨enc n ++ rest, c⟩) (hn : n ≤ m) (hm : m < 18446744073709551616) : s.nat m = (n, ⟨rest, c⟩) := by subst hs; exact Rs.nat_enc hn hm _ _
theorem oqN_go {v v' : Int} {b m n : Nat} {s : Rs} {rest : List UInt8} {c : Bool} (hv : v = v') (hs : s = ⟨oqB v' b n ++ rest, c⟩) (hn : n ≤ m) (hm : m < 18446744073709551616) : oqN v b m s = (if hasF v' b then n else 0, ⟨rest, c⟩) := by subst hv hs; exact oqN_enc hn hm _ _
theorem oqT_go {v v' : Int} {t : List UInt8} {s : Rs} {rest : List UInt8} {c : Bool} (hv : v = v') (hs : s = ⟨oqTB v' t ++ rest, c⟩) (hn : t.length ≤ 524288) : oqT v s = (if hasF v' 32 then t else [], ⟨rest, c⟩) := by subst hv hs; exact oqT_enc hn _ _
theorem oqE_go {v v' : Int} {l : List Ev} {s : Rs} {rest : List UInt8} (hv : v = v') (hs : s = ⟨oqEB v' l ++ rest, false⟩) (hl : l.length ≤ 256) (hi : ∀ e ∈ l, e.In) (hk : ∀ e ∈ l, 1 ≤ e.kind ∧ e.kind ≤ 15) : oqE v s = (if hasF v' 64 then l else [], ⟨rest, false⟩) := by subst hv hs; exact oqE_enc hl hi hk _
theorem enk_go {l : List (Int × Int × List UInt8)} {k : Nat} {s : Rs} {rest : List UInt8} {c : Bool} (hk : k = l.length) (hs : s = ⟨l.flatMap enVB ++ rest, c⟩) (h : ∀ e ∈ l, enFine e) : enk s k = (l, ⟨rest, c⟩) := by
  subst hk hs
  rw [enk_enc h _ _ _ (Nat.le_refl _), List.take_length, List.drop_length, List.flatMap_nil, List.nil_append]
theorem fl_16 (n : Int) : hasF (fl n) 16 = hasF (fl n) 8 := by
  rcases fl_some n with ⟨_, h⟩ | ⟨_, h⟩ | ⟨_, h⟩ | ⟨_, h⟩ | ⟨_, h⟩ | ⟨_, h⟩ | ⟨_, h⟩ | ⟨_, h⟩ | ⟨_, h⟩ <;> rw [h] <;> decide
theorem if_nat {b : Bool} {n : Int} (h : 0 ≤ n) : (((if b then n.toNat else 0 : Nat)) : Int) = if b then n else 0 := by
  cases b
  · rfl
  · exact Int.toNat_of_nonneg h
/-- a message's bytes are read as it was -/
theorem mM_back {x : MsgV} {w : World} (hx : x.Gd w) (hs : soundB x = true) : mM ⟨wb8 (fl x.kind) x, false⟩ = x.vw ∧ (m13 ⟨wb8 (fl x.kind) x, false⟩).2 = ⟨[], false⟩ := by
  have hS := snd_of hs
  unfold soundB nodeB fitB at hs
  simp only [Bool.and_eq_true, decide_eq_true_eq] at hs
  obtain ⟨q0, _, _, _, q1, q2, q3, q4, q5, q6, q7, q8, q9, q10⟩ := hs
  obtain ⟨f1, f2⟩ := hS.frm
  obtain ⟨t1, t2⟩ := hS.to
  obtain ⟨k1, k2⟩ := hS.kind
  have h1 := hx.term
  have h2 := hx.index
  have h3 := hx.logTerm
  have h4 := hx.commit
  have h5 := hx.client
  have h6 := hx.req
  have hent : hasF (fl x.kind) 8 = false → x.entries.l = [] := fun h => by
    have e : (keepV (fl x.kind) x).entries.l.map EntV.vw = x.entries.l.map EntV.vw := congrArg Mg.ents hS.kept
    have e2 : (keepV (fl x.kind) x).entries.l = [] := by
      show (if hasF (fl x.kind) 8 then x.entries else sl0).l = []
      rw [h]
      rfl
    rw [e2] at e
    exact List.map_eq_nil_iff.1 e.symm
  obtain ⟨ev1, ev2⟩ := evE_zero q9
  have hfine : ∀ e ∈ x.entries.l.map EntV.vw, enFine e := by
    intro e he
    obtain ⟨y, hy, rfl⟩ := List.mem_map.1 he
    have g := hx.eok y hy
    have f := List.all_eq_true.1 q10 y hy
    unfold entFine at f
    have f := of_decide_eq_true f
    exact ⟨⟨g.index.1, f.1⟩, ⟨g.term.1, f.2.1⟩, f.2.2⟩
  rw [wb8_R]
  have hkind : ((x.kind.toNat : Nat) : Int) = x.kind := Int.toNat_of_nonneg (by omega)
  obtain ⟨s, hs⟩ : ∃ s : Rs, s = ⟨wbR (fl x.kind) x, false⟩ := ⟨_, rfl⟩
  rw [← hs]
  have z0 := nat_go (m := 8) hs (by omega) (by decide)
  have zv : mv s = fl x.kind := by
    have e : (m0 s).1 = x.kind.toNat := congrArg Prod.fst z0
    unfold mv
    rw [e, hkind]
  have z1 := nat_go (m := 15) (congrArg Prod.snd z0) (by omega) (by decide)
  have z2 := nat_go (m := 15) (congrArg Prod.snd z1) (by omega) (by decide)
  have z3 := nat_go (m := mI) (congrArg Prod.snd z2) (by unfold mI; omega) (by decide)
  have z4 := oqN_go (m := 1) (n := if x.ok then 1 else 0) zv (congrArg Prod.snd z3) (by split <;> omega) (by decide)
  have z5 := oqN_go (m := mI) zv (congrArg Prod.snd z4) (by unfold mI; omega) (by decide)
  have z6 := oqN_go (m := mI) zv (congrArg Prod.snd z5) (by unfold mI; omega) (by decide)
  have z7 := oqN_go (m := mI) zv (congrArg Prod.snd z6) (by unfold mI; omega) (by decide)
  have z8 := oqN_go (m := 32) zv (congrArg Prod.snd z7) q6 (by decide)
  have h16 := fl_16 x.kind
  have hl : (if hasF (fl x.kind) 16 then x.entries.l.length else 0) = (x.entries.l.map EntV.vw).length := by
    rw [List.length_map, h16]
    cases hb : hasF (fl x.kind) 8 with
    | true => rfl
    | false => rw [hent hb]; rfl
  have z9 := enk_go ((congrArg Prod.fst z8).trans hl) ((congrArg Prod.snd z8).trans (by rw [ents_vw])) hfine
  have z10 := oqT_go zv (congrArg Prod.snd z9) q7
  have z11 := oqN_go (m := 8) zv (congrArg Prod.snd z10) (by omega) (by decide)
  have z12 := oqN_go (m := allNat) zv (congrArg Prod.snd z11) (by unfold allNat; omega) (by decide)
  have z13 := oqE_go zv ((congrArg Prod.snd z12).trans (congrArg (fun l => Rs.mk l false) (List.append_nil (oqEB (fl x.kind) x.events.l)).symm)) ev1 hx.vin ev2
  change m0 s = _ at z0
  change m1 s = _ at z1
  change m2 s = _ at z2
  change m3 s = _ at z3
  change m4 s = _ at z4
  change m5 s = _ at z5
  change m6 s = _ at z6
  change m7 s = _ at z7
  change m9 s = _ at z9
  change m10 s = _ at z10
  change m11 s = _ at z11
  change m12 s = _ at z12
  change m13 s = _ at z13
  refine ⟨?_, by rw [z13]⟩
  rw [← hS.kept]
  unfold mM
  rw [z0, z1, z2, z3, z4, z5, z6, z7, z9, z10, z11, z12, z13]
  dsimp only
  unfold MsgV.vw keepV
  dsimp only
  rw [Mg.mk.injEq]
  refine ⟨hkind, Int.toNat_of_nonneg f1, Int.toNat_of_nonneg t1, Int.toNat_of_nonneg h1.1, if_nat h2.1, if_nat h3.1, if_nat h4.1, ?_, ?_, ?_, if_nat h5.1, if_nat h6.1, ?_⟩
  · cases hasF (fl x.kind) 1
    · rfl
    · cases x.ok <;> rfl
  · cases hb : hasF (fl x.kind) 8 with
    | true => rfl
    | false => rw [hent hb]; rfl
  · cases hasF (fl x.kind) 32 <;> rfl
  · cases hasF (fl x.kind) 64 <;> rfl
/-- the kind 7: a longer text is refused in either way -/
theorem text_512 {s : Rs} : ((s.text 512).2.bad = false ∧ s.text 524288 = s.text 512) ∨ ((s.text 512).2.bad = true ∧ ((s.text 524288).2.bad = true ∨ 512 < (s.text 524288).1.length)) := by
  cases h : (s.text 512).2.bad with
  | false =>
    left
    refine ⟨rfl, ?_⟩
    obtain ⟨e, hb⟩ := Rs.text_only h
    have hl := text_len (s := s) (m := 512) (by decide)
    have hs : s = ⟨enc (s.text 512).1.length ++ (s.text 512).1 ++ (s.text 512).2.left, false⟩ := by
      cases s with
      | mk l b => dsimp only at e hb; rw [← e, hb]
    generalize s.text 512 = p at *
    rw [hs, Rs.text_enc (by omega) (by decide)]
    obtain ⟨a, ⟨l, b⟩⟩ := p
    dsimp only at h
    rw [h]
  | true =>
    right
    refine ⟨rfl, ?_⟩
    cases h2 : (s.text 524288).2.bad with
    | true => exact .inl rfl
    | false =>
      right
      obtain ⟨e, hb⟩ := Rs.text_only h2
      by_cases hl : 512 < (s.text 524288).1.length
      · exact hl
      · exfalso
        have hs : s = ⟨enc (s.text 524288).1.length ++ (s.text 524288).1 ++ (s.text 524288).2.left, false⟩ := by
          cases s with
          | mk l b => dsimp only at e hb; rw [← e, hb]
        generalize s.text 524288 = p at *
        rw [hs, Rs.text_enc (by omega) (by decide)] at h
        cases h
/-- what is taken, wrapped again, are those bytes -/
theorem tk_only {bs : List UInt8} (h : tkE bs = 0) : bs = parB (tkK bs) (tkL bs) ++ bs.drop (tkN bs) ∧ (tkL bs).length ≤ 65536 := by
  obtain ⟨a1, a2, _⟩ := tk_ok h
  unfold tkE at h
  split at h; · cases h
  rename_i h0
  split at h; · cases h
  split at h; · cases h
  split at h; · cases h
  rename_i hbad
  split at h; · cases h
  rename_i hbig
  split at h; · cases h
  rename_i hshort
  split at h; · cases h
  rename_i hsum
  rw [Decidable.not_not] at hsum
  obtain ⟨e1, _⟩ := Rs.nat_only (s := ⟨bs.drop 1, false⟩) (most := allNat) (by simpa [szS] using hbad)
  change bs.drop 1 = enc (szN bs) ++ (szS bs).left at e1
  have hk : bs = tkK bs :: (enc (szN bs) ++ (szS bs).left) := by
    rw [← e1, a1]
    exact (List.drop_zero (l := bs)).symm.trans (drop_getD (by omega))
  generalize hr : (szS bs).left = r at *
  generalize hn : szN bs = n at *
  have hfrom : tkFrom bs = 1 + (enc n).length := by
    unfold tkFrom
    rw [hr]
    have := congrArg List.length hk
    simp only [List.length_cons, List.length_append] at this
    omega
  have hN : tkN bs = 1 + (enc n).length + n + 4 := by unfold tkN; rw [hfrom, hn]
  have hdr : ∀ j, bs.drop (1 + (enc n).length + j) = r.drop j := fun j => by
    conv => lhs; rw [hk]
    rw [show 1 + (enc n).length + j = ((enc n).length + j) + 1 by omega, List.drop_succ_cons, List.drop_length_add_append]
  have hL : tkL bs = r.take n := by
    rw [a2, hfrom]
    exact congrArg (List.take n) (hdr 0)
  have hLl : (tkL bs).length = n := by rw [hL, List.length_take]; omega
  have hd : bs.drop (tkN bs) = r.drop (n + 4) := by rw [hN, Nat.add_assoc]; exact hdr (n + 4)
  have hd4 : (bs.drop (tkN bs - 4)).take 4 = (r.drop n).take 4 := by
    rw [hN, show 1 + (enc n).length + n + 4 - 4 = 1 + (enc n).length + n by omega, hdr]
  have ht : bs.take (tkN bs - 4) = preB (tkK bs) (tkL bs) := by
    unfold preB
    rw [hLl, hN, show 1 + (enc n).length + n + 4 - 4 = (enc n).length + n + 1 by omega]
    conv => lhs; rw [hk]
    rw [List.take_succ_cons, List.take_length_add_append, hL]
  refine ⟨?_, by omega⟩
  unfold parB
  rw [← ht, hsum, hd4, ht, hd]
  unfold preB
  rw [hLl, hL]
  conv => lhs; rw [hk]
  have hr4 : r = r.take n ++ ((r.drop n).take 4 ++ r.drop (n + 4)) := by
    conv => lhs; rw [← List.take_append_drop n r, ← List.take_append_drop 4 (r.drop n), List.drop_drop]
  conv => lhs; rw [hr4]
  simp
theorem jn_only : ∀ (m : Nat) {bs Z : List UInt8}, bs.length ≤ m → jn bs = some Z → wm Z = bs
  | m, bs, Z, hm, h => by
    by_cases he : tkE bs = 0
    · by_cases hk : ((tkK bs).toNat : Int) = 7
      · have hk7 : tkK bs = 7 := by
          apply UInt8.toNat_inj.1
          show (tkK bs).toNat = 7
          omega
        obtain ⟨e1, e2⟩ := tk_only he
        rw [hk7] at e1
        by_cases hl : (tkL bs).length < 65536
        · rw [jn_last he hk hl] at h
          split at h
          · rename_i hn
            injection h with h
            subst h
            rw [wm_small hl]
            conv => rhs; rw [e1, hn, List.drop_length, List.append_nil]
          · cases h
        · rw [jn_more he hk hl] at h
          obtain ⟨Y, hY, rfl⟩ := Option.map_eq_some_iff.1 h
          have hpos : 0 < bs.length := by
            rcases Nat.eq_zero_or_pos bs.length with h0 | h0
            · unfold tkE at he; rw [if_pos h0] at he; cases he
            · exact h0
          cases m with
          | zero => omega
          | succ m =>
            have hN : 0 < tkN bs := by unfold tkN; omega
            have ih := jn_only m (bs := bs.drop (tkN bs)) (by rw [List.length_drop]; omega) hY
            have hlen : (tkL bs).length = 65536 := by omega
            rw [wm_more (by rw [List.length_append]; omega), List.take_left' hlen, List.drop_left' hlen, ih]
            exact e1.symm
      · rw [jn_k hk] at h; cases h
    · rw [jn_e he] at h; cases h
theorem soundB_vw {x y : MsgV} (h : x.vw = y.vw) : soundB x = soundB y := by
  obtain ⟨h1, h2, h3, h4, h5, h6, h7, h8, h9, h10, h11, h12, h13⟩ := vw_iff.1 h
  have hev := map_ints h13
  have hlen : x.entries.l.length = y.entries.l.length := by
    have := congrArg List.length h9
    simpa using this
  have hall : x.entries.l.all entFine = y.entries.l.all entFine := by
    have e : ∀ l : List EntV, l.all entFine = (l.map EntV.vw).all fun p => decide (p.1 ≤ 4611686018427387904 ∧ p.2.1 ≤ 4611686018427387904 ∧ p.2.2.length ≤ 512) := fun l => by
      rw [List.all_map]
      rfl
    rw [e, e, h9]
  have hkeep : ((keepV (fl x.kind) x).vw = x.vw) ↔ ((keepV (fl y.kind) y).vw = y.vw) := by
    have e : (keepV (fl x.kind) x).vw = (keepV (fl y.kind) y).vw := by
      rw [vw_iff]
      unfold keepV
      dsimp only
      rw [h1]
      refine ⟨rfl, h2, h3, h4, ?_, ?_, ?_, ?_, ?_, ?_, ?_, ?_, ?_⟩
      · rw [h5]
      · rw [h6]
      · rw [h7]
      · rw [h8]
      · cases hasF (fl y.kind) 8
        · rfl
        · exact h9
      · cases hasF (fl y.kind) 32
        · rfl
        · exact h10
      · rw [h11]
      · rw [h12]
      · cases hasF (fl y.kind) 64
        · rfl
        · exact h13
    rw [e, h]
  have hfit : fitB x = fitB y := by
    unfold fitB
    rw [h1, h4, h5, h6, h7, h10, h11, hev, hlen, hall]
  unfold soundB
  rw [hfit, h1, h2, h3] at *
  rw [decide_eq_decide.2 hkeep]
def EntV.rp (e : EntV) : RdP := ⟨1, e.body.A, e.body.l.length, bsf e.body.l⟩
def brp (b : Sl UInt8) : RdP := ⟨1, b.A, b.l.length, bsf b.l⟩
def erp (b : Sl Ev) : RdP := ⟨12, b.A, b.l.length, evf b.l⟩
theorem St.rds_addA {V w : World} {R : List Asn} {A : Asn} {l : List RdP} {p : RdP} (hS : St V w (A :: rdsA l :: R)) (hr : ∀ F, A.holds w F → p.ok w F) : St V w (rdsA (p :: l) :: R) := by
  refine hS.unstar.upd fun F hF => ?_
  obtain ⟨F1, F2, e, h1, h2, _⟩ := hF
  refine ⟨Fr.refl _ _, F, ⟨fun k hk => ?_, fun q hq => ?_⟩, fun k hk => .inl hk⟩
  · rw [e] at hk
    rcases List.mem_append.1 hk with hk | hk
    · exact A.lt w F1 h1 k hk
    · exact h2.1 k hk
  · rcases List.mem_cons.1 hq with hq | hq
    · subst hq
      exact ⟨(hr F1 h1).1, fun hn a ha => by rw [e]; exact List.mem_append_left _ ((hr F1 h1).2 hn a ha)⟩
    · exact ⟨(h2.2 q hq).1, fun hn a ha => by rw [e]; exact List.mem_append_right _ ((h2.2 q hq).2 hn a ha)⟩
theorem St.frz_add {V w : World} {R : List Asn} {g t m k : Nat} {l : List RdP} {bs : List UInt8} (hS : St V w (blkA g t (bs.map bv ++ List.replicate k (.int .u8 0)) (m, m + 1) :: rdsA l :: R)) : St V w (rdsA (⟨1, some ⟨g, 0, none⟩, bs.length, bsf bs⟩ :: l) :: R) :=
  hS.rds_addA fun F hF => ⟨frz_rdB hS (.here _ _), fun _ a ha => by
    injection ha with ha
    subst ha
    rw [hF.1]
    exact List.mem_singleton.2 rfl⟩
theorem rp_snoc {es : List EntV} (e : EntV) : ∀ p ∈ (es ++ [e]).map EntV.rp, p ∈ e.rp :: es.map EntV.rp := fun p hp => by
  rw [List.map_append] at hp
  rcases List.mem_append.1 hp with h | h
  · exact List.mem_cons_of_mem _ h
  · rw [List.mem_singleton.1 h]; exact List.mem_cons_self
theorem St.ent_add {V w : World} {R : List Asn} {es : List EntV} {e : EntV} (hS : St V w (rdsA (e.rp :: es.map EntV.rp) :: R)) : St V w (rdsA ((es ++ [e]).map EntV.rp) :: R) := hS.rds_sub (rp_snoc e)
def mkX (s : Rs) (es : Sl EntV) (bd : Sl UInt8) (ev : Sl Ev) : MsgV := ⟨((m0 s).1 : Int), ((m1 s).1 : Int), ((m2 s).1 : Int), ((m3 s).1 : Int), ((m5 s).1 : Int), ((m6 s).1 : Int), ((m7 s).1 : Int), decide ((m4 s).1 = 1), es, bd, ((m11 s).1 : Int), ((m12 s).1 : Int), ev⟩
structure PtOk (s : Rs) (es : Sl EntV) (bd : Sl UInt8) (ev : Sl Ev) : Prop where
  ents : es.l.map EntV.vw = (m9 s).1
  caps : ∀ e ∈ es.l, e.body.l.length ≤ e.body.c
  body : bd.l = (m10 s).1
  bcap : bd.l.length ≤ bd.c
  evs : ev.l = (m13 s).1
theorem mkX_vw {s : Rs} {es : Sl EntV} {bd : Sl UInt8} {ev : Sl Ev} (h : PtOk s es bd ev) : (mkX s es bd ev).vw = mM s := by
  unfold MsgV.vw mkX mM
  dsimp only
  rw [h.ents, h.body, h.evs]
theorem enV_fine (s : Rs) : enFine (enV s) := by
  have h1 : (en1 s).1 ≤ mI := Rs.nat_le _ _
  have h2 : (en2 s).1 ≤ mI := Rs.nat_le _ _
  have h3 : ((en3 s).1.length : Int) ≤ 512 := text_len (by decide)
  unfold mI at h1 h2
  refine ⟨⟨?_, ?_⟩, ⟨?_, ?_⟩, ?_⟩
  · show (0 : Int) ≤ ((en1 s).1 : Int); omega
  · show ((en1 s).1 : Int) ≤ _; omega
  · show (0 : Int) ≤ ((en2 s).1 : Int); omega
  · show ((en2 s).1 : Int) ≤ _; omega
  · show (en3 s).1.length ≤ 512; omega
theorem enk_fine (s : Rs) : ∀ k, ∀ e ∈ (enk s k).1, enFine e
  | 0, _, h => by cases h
  | k + 1, e, h => by
    rw [enk] at h
    rcases List.mem_append.1 h with h | h
    · exact enk_fine s k e h
    · rw [List.mem_singleton.1 h]; exact enV_fine _
theorem oqT_len (v : Int) (s : Rs) : (oqT v s).1.length ≤ 524288 := by
  unfold oqT
  split
  · have := text_len (s := s) (m := 524288) (by decide); omega
  · exact Nat.zero_le _
theorem oqE_in (v : Int) (s : Rs) : (∀ e ∈ (oqE v s).1, e.In) ∧ (oqE v s).1.length ≤ 256 := by
  unfold oqE
  split
  · exact ⟨evL_in s, evL_len s⟩
  · exact ⟨(fun e h => by cases h), Nat.zero_le _⟩
def nrp (es : Sl EntV) : RdP := ⟨3, es.A, es.l.length, fun i => (es.l.getD i default).cells⟩
theorem mkX_gd0 {w : World} {s : Rs} {es : Sl EntV} {bd : Sl UInt8} {ev : Sl Ev} (h : PtOk s es bd ev) (hE : RdEn w es.A es.l) (hRs : ∀ p ∈ erp ev :: brp bd :: es.l.map EntV.rp, Rd w p.size p.A p.n p.f) : (mkX s es bd ev).Gd w := by
  have b0 : (m0 s).1 ≤ 8 := s.nat_le 8
  have b1 : (m1 s).1 ≤ 15 := Rs.nat_le _ 15
  have b2 : (m2 s).1 ≤ 15 := Rs.nat_le _ 15
  have b3 : (m3 s).1 ≤ mI := Rs.nat_le _ _
  have b5 : (m5 s).1 ≤ mI := oqN_le _ _ _ _
  have b6 : (m6 s).1 ≤ mI := oqN_le _ _ _ _
  have b7 : (m7 s).1 ≤ mI := oqN_le _ _ _ _
  have b8 : (m8 s).1 ≤ 32 := oqN_le _ _ _ _
  have b11 : (m11 s).1 ≤ 8 := oqN_le _ _ _ _
  have b12 : (m12 s).1 ≤ allNat := oqN_le _ _ _ _
  have b10 : (m10 s).1.length ≤ 524288 := oqT_len _ _
  have b13 := oqE_in (mv s) (m12 s).2
  unfold mI at b3 b5 b6 b7
  unfold allNat at b12
  have hlen : es.l.length = (m8 s).1 := by
    have e := congrArg List.length h.ents
    rw [List.length_map] at e
    rw [e]
    exact enk_len _ _
  refine { kind := ?_, frm := ?_, to := ?_, term := ?_, index := ?_, logTerm := ?_, commit := ?_, client := ?_, req := ?_, erd := hE, eok := fun e he => ?_, ele := ?_, brd := hRs (brp bd) (.tail _ (.head _)), ble := ?_, vrd := hRs (erp ev) (.head _), vin := ?_, vle := ?_ }
  · show _ ≤ ((m0 s).1 : Int) ∧ ((m0 s).1 : Int) ≤ _; omega
  · show _ ≤ ((m1 s).1 : Int) ∧ ((m1 s).1 : Int) ≤ _; omega
  · show _ ≤ ((m2 s).1 : Int) ∧ ((m2 s).1 : Int) ≤ _; omega
  · show _ ≤ ((m3 s).1 : Int) ∧ ((m3 s).1 : Int) < _; omega
  · show _ ≤ ((m5 s).1 : Int) ∧ ((m5 s).1 : Int) < _; omega
  · show _ ≤ ((m6 s).1 : Int) ∧ ((m6 s).1 : Int) < _; omega
  · show _ ≤ ((m7 s).1 : Int) ∧ ((m7 s).1 : Int) < _; omega
  · show _ ≤ ((m11 s).1 : Int) ∧ ((m11 s).1 : Int) < _; omega
  · show _ ≤ ((m12 s).1 : Int) ∧ ((m12 s).1 : Int) < _; omega
  · have he : e ∈ es.l := he
    have hf : enFine e.vw := enk_fine _ _ _ (by
      have hm : e.vw ∈ es.l.map EntV.vw := List.mem_map_of_mem he
      rw [h.ents] at hm
      exact hm)
    obtain ⟨f1, f2, f3⟩ := hf
    exact ⟨⟨f1.1, Int.lt_of_le_of_lt f1.2 (by decide)⟩, ⟨f2.1, Int.lt_of_le_of_lt f2.2 (by decide)⟩, hRs e.rp (.tail _ (.tail _ (List.mem_map_of_mem he))), h.caps e he, Nat.le_trans f3 (by decide)⟩
  · show es.l.length ≤ 1000; omega
  · show bd.l.length ≤ bd.c ∧ bd.l.length ≤ 1000000000
    refine ⟨h.bcap, ?_⟩
    rw [h.body]
    omega
  · show ∀ e ∈ ev.l, e.In
    rw [h.evs]
    exact b13.1
  · show ev.l.length ≤ 1000000
    rw [h.evs]
    exact Nat.le_trans b13.2 (by decide)
def zV : MsgV := ⟨0, 0, 0, 0, 0, 0, 0, false, sl0, sl0, 0, 0, sl0⟩
theorem zV_gd {w : World} : zV.Gd w := ⟨by decide, by decide, by decide, by decide, by decide, by decide, by decide, by decide, by decide, Rd.none_ _ _ _ _, (fun e he => by cases he), by decide, Rd.none_ _ _ _ _, ⟨by decide, by decide⟩, Rd.none_ _ _ _ _, (fun e he => by cases he), by decide⟩
theorem mkX_gd {V w : World} {t : Nat} {L R R2 : List Asn} {s : Rs} {es : Sl EntV} {bd : Sl UInt8} {ev : Sl Ev} (h : PtOk s es bd ev) (hS : St V w L) (pE : Pick L (rowA t 3 es.A es.l.length es.c (es.l.flatMap EntV.cells)) R) (pR : Pick L (rdsA (erp ev :: brp bd :: es.l.map EntV.rp)) R2) : (mkX s es bd ev).Gd w := mkX_gd0 h (rowRdN hS pE rfl) (fun _ hp => hS.rds pR hp)
/-- the rows of a message, and that it stands by them -/
def msgR (x : MsgV) : List RdP := nrp x.entries :: erp x.events :: brp x.body :: x.entries.l.map EntV.rp
def GdBy (x : MsgV) : Prop := ∀ {V w : World} {L R : List Asn}, St V w L → Pick L (rdsA (msgR x)) R → x.Gd w
theorem mkX_by {s : Rs} {es : Sl EntV} {bd : Sl UInt8} {ev : Sl Ev} (h : PtOk s es bd ev) : GdBy (mkX s es bd ev) := fun hS pk => mkX_gd0 h (hS.rds (p := nrp es) pk (.head _)) (fun _ hp => hS.rds pk (.tail _ hp))
theorem zV_by : GdBy zV := fun _ _ => zV_gd
theorem St.rds_none {V w : World} {R : List Asn} {l : List RdP} (size : Nat) (f : Nat → List Value) (hS : St V w (rdsA l :: R)) : St V w (rdsA (⟨size, none, 0, f⟩ :: l) :: R) :=
  hS.upd fun F hF => ⟨Fr.refl _ _, F, ⟨hF.1, fun p hp => by
    rcases List.mem_cons.1 hp with h | h
    · subst h; exact ⟨Rd.none_ _ _ _ _, fun h => absurd h (Nat.lt_irrefl 0)⟩
    · exact hF.2 p h⟩, fun k hk => .inl hk⟩
theorem zV_rds {V w : World} {L : List Asn} (hS : St V w L) : St V w [rdsA (msgR zV)] := ((hS.nil.rds0.rds_none 1 (bsf [])).rds_none 12 (evf [])).rds_none 3 (fun i => (([] : List EntV).getD i default).cells)
theorem mkX_rds {V w : World} {t : Nat} {L R R2 : List Asn} {s : Rs} {es : Sl EntV} {bd : Sl UInt8} {ev : Sl Ev} (hS : St V w L) (pE : Pick L (rowA t 3 es.A es.l.length es.c (es.l.flatMap EntV.cells)) R) (pR : Pick R (rdsA (erp ev :: brp bd :: es.l.map EntV.rp)) R2) : St V w [rdsA (msgR (mkX s es bd ev))] := by
  have h1 := ((hS.pick pE).pick (.there pR)).pick (.there (.here _ _))
  exact (h1.rds_add (f := fun i => (es.l.getD i default).cells) (rowRdN hS pE rfl)).front1
/-- what Read tells of any bytes -/
def RdOut (bs : List UInt8) (x : MsgV) (er : Int) : Prop := (er = 0 ∧ ∃ Z, jn bs = some Z ∧ x.vw = mM ⟨Z, false⟩ ∧ (m13 ⟨Z, false⟩).2.endOk = 0 ∧ soundB x = true) ∨ (er = 20 ∧ x = zV ∧ ∀ Z, jn bs = some Z → (m13 ⟨Z, false⟩).2.endOk = 0 → ∀ y : MsgV, y.vw = mM ⟨Z, false⟩ → soundB y = false)
theorem Rs.Wf.text {s : Rs} (h : s.Wf) (m : Int) : (s.text m).2.Wf := by
  unfold Rs.text
  split
  · exact fun _ => rfl
  · split
    · exact fun _ => rfl
    · intro hb
      have h2 := (h.nat m.toNat) hb
      show List.drop _ _ = []
      rw [h2, List.drop_nil]
theorem oqN_wf {v : Int} {b m : Nat} {s : Rs} (h : s.Wf) : (oqN v b m s).2.Wf := by
  unfold oqN
  split
  · exact h.nat m
  · exact h
theorem enk_wf {s : Rs} (h : s.Wf) : ∀ k, (enk s k).2.Wf
  | 0 => h
  | k + 1 => by
    rw [enk]
    exact (((enk_wf h k).nat mI).nat mI).text 512
theorem oqT_wf {v : Int} {s : Rs} (h : s.Wf) : (oqT v s).2.Wf := by
  unfold oqT
  split
  · exact h.text _
  · exact h
theorem m12_wf {s : Rs} (h : s.Wf) : (m12 s).2.Wf := oqN_wf (oqN_wf (oqT_wf (enk_wf (oqN_wf (oqN_wf (oqN_wf (oqN_wf (oqN_wf ((((h.nat _).nat _).nat _).nat _))))) ) _)))
theorem and_ne {a : Int} {b : Bool} (h : decide (a = 0) = !b) : decide (a ≠ 0) = b := by
  rw [decide_not, h, Bool.not_not]
theorem par_ge (k : UInt8) (b : List UInt8) : b.length ≤ (parB k b).length := by
  unfold parB preB
  simp only [List.length_append, List.length_cons]
  omega
theorem wm_ge : ∀ (m : Nat) (b : List UInt8), b.length ≤ m → b.length ≤ (wm b).length
  | m, b, h => by
    have h1 := par_ge 7 (b.take 65536)
    rw [List.length_take] at h1
    by_cases h0 : b.length < 65536
    · rw [wm_last h0]; omega
    · rw [wm_more h0, List.length_append]
      cases m with
      | zero => omega
      | succ m =>
        have h2 := wm_ge m (b.drop 65536) (by rw [List.length_drop]; omega)
        rw [List.length_drop] at h2
        omega
theorem jn_len : ∀ (m : Nat) {bs Z : List UInt8}, jn bs = some Z → bs.length ≤ m → Z.length ≤ bs.length
  | m, bs, Z, h, hm => by
    have hw := jn_only m hm h
    rw [← hw]
    exact wm_ge _ _ (Nat.le_refl _)
end Go.Proofs.Ytlppgpidakfnlaa
