/- A ballot's records, and what its files tell: plain. -/
import Derived.Test.YtlppgpidakfnlaaBz
namespace Go.Proofs.Ytlppgpidakfnlaa
open Go Go.RowKit Go.Lib
variable {W : World}
/-- a ballot's records: a term, a vote -/
abbrev Rc := Nat × Nat
def abv (r x : Rc) : Prop := x.1 < r.1 ∨ (r.1 = x.1 ∧ x.2 = 0 ∧ r.2 ≠ 0)
instance (r x : Rc) : Decidable (abv r x) := by unfold abv; exact inferInstance
theorem abv_trans {a b c : Rc} (h : abv a b) (k : abv b c) : abv a c := by unfold abv at *; omega
theorem abv_irrefl (a : Rc) : ¬ abv a a := by unfold abv; omega
theorem abv_asymm {a b : Rc} (h : abv a b) : ¬ abv b a := fun k => abv_irrefl _ (abv_trans h k)
def br0 (b : List UInt8) : Rs := ⟨b, false⟩
def br1 (b : List UInt8) : Rs := ((br0 b).nat mI).2
def br2 (b : List UInt8) : Rs := ((br1 b).nat 7).2
def brc (b : List UInt8) : Rc := (((br0 b).nat mI).1, ((br1 b).nat 7).1)
def brd (bs : List UInt8) : Rc := brc (tkL bs)
def isR (k : UInt8) (b : List UInt8) : Bool := decide ((k.toNat : Int) = 4 ∧ (br2 b).endOk = 0)
def bst (bs : List UInt8) (last : Rc) : Prop := isR (tkK bs) (tkL bs) = true ∧ (brd bs = last ∨ abv (brd bs) last)
instance (bs : List UInt8) (last : Rc) : Decidable (bst bs last) := by unfold bst; exact inferInstance
def bfl (bs : List UInt8) (last : Rc) : Rc × Bool :=
  if h : tkE bs = 0 then (if bst bs last then bfl (bs.drop (tkN bs)) (brd bs) else (last, false)) else (last, decide (tkE bs = 31))
termination_by bs.length
decreasing_by rw [List.length_drop]; have := tkN_le h; omega
theorem bfl_yes {bs : List UInt8} {last : Rc} (h : tkE bs = 0) (h2 : bst bs last) : bfl bs last = bfl (bs.drop (tkN bs)) (brd bs) := by rw [bfl, dif_pos h, if_pos h2]
theorem bfl_no {bs : List UInt8} {last : Rc} (h : tkE bs = 0) (h2 : ¬ bst bs last) : bfl bs last = (last, false) := by rw [bfl, dif_pos h, if_neg h2]
theorem bfl_end {bs : List UInt8} {last : Rc} (h : tkE bs ≠ 0) : bfl bs last = (last, decide (tkE bs = 31)) := by rw [bfl, dif_neg h]
def btl (a b : List UInt8) : Rc × Bool × Int :=
  if (bfl a (0, 0)).2 = true ∧ (bfl b (0, 0)).2 = true then (if abv (bfl b (0, 0)).1 (bfl a (0, 0)).1 then ((bfl b (0, 0)).1, true, 0) else ((bfl a (0, 0)).1, false, 0)) else ((0, 0), false, 20)
def recB (r : Rc) : List UInt8 := parB 4 (enc r.1 ++ enc r.2)
def recOk (r : Rc) : Prop := r.1 ≤ mI ∧ r.2 ≤ 7
theorem rec_body {r : Rc} (h : recOk r) : (enc r.1 ++ enc r.2).length ≤ 20 := by
  have h1 := enc_ten (n := r.1) (by have := h.1; unfold mI at this; omega)
  have h2 := enc_ten (n := r.2) (by have := h.2; omega)
  rw [List.length_append]
  omega
theorem rec_len {r : Rc} (h : recOk r) : 0 < (recB r).length ∧ (recB r).length ≤ 35 := by
  have h1 := rec_body h
  have h3 := enc_ten (n := (enc r.1 ++ enc r.2).length) (by omega)
  unfold recB
  rw [par_len]
  omega
theorem rec_more {r last : Rc} (h : recOk r) (rest : List UInt8) : tkE (recB r ++ rest) = 0 ∧ brd (recB r ++ rest) = r ∧ (bst (recB r ++ rest) last ↔ (r = last ∨ abv r last)) ∧ (recB r ++ rest).drop (tkN (recB r ++ rest)) = rest := by
  have hb := rec_body h
  obtain ⟨a1, _⟩ := tk_more (k := 4) (body := enc r.1 ++ enc r.2) (by omega) (by decide) rest
  obtain ⟨b1, b2, b3⟩ := tk_more2 (k := 4) (body := enc r.1 ++ enc r.2) (by omega) (by decide) rest
  have n0 := Rs.nat_enc (n := r.1) (most := mI) h.1 (by unfold mI; omega) (enc r.2) false
  have n1 := Rs.nat_enc (n := r.2) (most := 7) h.2 (by omega) [] false
  rw [List.append_nil] at n1
  have r0 : br0 (enc r.1 ++ enc r.2) = ⟨enc r.1 ++ enc r.2, false⟩ := rfl
  have r1 : br1 (enc r.1 ++ enc r.2) = ⟨enc r.2, false⟩ := by unfold br1; rw [r0, n0]
  have r2 : br2 (enc r.1 ++ enc r.2) = ⟨[], false⟩ := by unfold br2; rw [r1, n1]
  have e : brd (recB r ++ rest) = r := by unfold brd recB; rw [b2]; unfold brc; rw [r1, r0, n0, n1]
  have hr : isR (tkK (recB r ++ rest)) (tkL (recB r ++ rest)) = true := by
    unfold recB isR
    rw [b1, b2, r2]
    rfl
  refine ⟨a1, e, ?_, b3⟩
  unfold bst
  rw [e]
  exact ⟨fun hh => hh.2, fun hh => ⟨hr, hh⟩⟩
def recsB (l : List Rc) : List UInt8 := l.flatMap recB
def chain : List Rc → Rc → Prop
  | [], _ => True
  | r :: l, x => recOk r ∧ (r = x ∨ abv r x) ∧ chain l r
def lastR : List Rc → Rc → Rc
  | [], x => x
  | r :: l, _ => lastR l r
theorem recsB_snoc (l : List Rc) (r : Rc) : recsB (l ++ [r]) = recsB l ++ recB r := by unfold recsB; rw [List.flatMap_append]; simp
theorem chain_snoc : ∀ {l : List Rc} {x r : Rc}, chain l x → recOk r → (r = lastR l x ∨ abv r (lastR l x)) → chain (l ++ [r]) x
  | [], _, _, _, h1, h2 => ⟨h1, h2, trivial⟩
  | a :: l, x, r, h, h1, h2 => ⟨h.1, h.2.1, chain_snoc (l := l) h.2.2 h1 h2⟩
theorem lastR_snoc : ∀ (l : List Rc) (x r : Rc), lastR (l ++ [r]) x = r
  | [], _, _ => rfl
  | a :: l, _, r => lastR_snoc l a r
theorem bfl_recs : ∀ (l : List Rc) (x : Rc) (rest : List UInt8), chain l x → bfl (recsB l ++ rest) x = bfl rest (lastR l x)
  | [], x, rest, _ => rfl
  | r :: l, x, rest, h => by
    obtain ⟨a1, a2, a3, a4⟩ := rec_more (last := x) h.1 (recsB l ++ rest)
    have e : recsB (r :: l) ++ rest = recB r ++ (recsB l ++ rest) := by unfold recsB; rw [List.flatMap_cons, List.append_assoc]
    rw [e, bfl_yes a1 (a3.2 h.2.1), a2, a4]
    exact bfl_recs l r rest h.2.2
theorem bfl_nil (x : Rc) : bfl [] x = (x, true) := by rw [bfl_end (by rw [tkE_1 rfl]; decide), tkE_1 rfl]; rfl
theorem bfl_whole {l : List Rc} {x : Rc} (h : chain l x) : bfl (recsB l) x = (lastR l x, true) := by
  have := bfl_recs l x [] h
  rw [List.append_nil, bfl_nil] at this
  exact this
theorem rec_torn {r : Rc} (h : recOk r) {m : Nat} (hm : m < (recB r).length) : tkE ((recB r).take m) = 31 := tk_torn (by have := rec_body h; omega) (by decide) hm
/-- a file of whole records, and a beginning of one more -/
theorem bfl_torn {l : List Rc} {r : Rc} (h : chain l (0, 0)) (hr : recOk r) {m : Nat} (hm : m < (recB r).length) : bfl (recsB l ++ (recB r).take m) (0, 0) = (lastR l (0, 0), true) := by
  rw [bfl_recs l _ _ h, bfl_end (by rw [rec_torn hr hm]; decide), rec_torn hr hm]
  rfl
theorem recsB_pos : ∀ (l : List Rc) (rest : List UInt8), chain l (0, 0) ∨ (∀ r ∈ l, recOk r) → pos (recsB l ++ rest) l.length = (recsB l).length ∧ whole (recsB l ++ rest) l.length = true := fun l rest h => by
  have hok : ∀ r ∈ l, recOk r := by
    rcases h with h | h
    · have : ∀ (l : List Rc) (x : Rc), chain l x → ∀ r ∈ l, recOk r := by
        intro l
        induction l with
        | nil => intro x _ r hr; cases hr
        | cons a l ih =>
          intro x h r hr
          rcases List.mem_cons.1 hr with rfl | hr
          · exact h.1
          · exact ih _ h.2.2 r hr
      exact this l _ h
    · exact h
  have e : recsB l = cat (l.map fun r => ((4 : UInt8), enc r.1 ++ enc r.2)) := by
    unfold recsB cat
    rw [List.flatMap_map]
    rfl
  have hp : PcsOk (l.map fun r => ((4 : UInt8), enc r.1 ++ enc r.2)) := by
    intro p hp
    obtain ⟨r, hr, rfl⟩ := List.mem_map.1 hp
    have := rec_body (hok r hr)
    exact ⟨by show (enc r.1 ++ enc r.2).length ≤ _; omega, (by decide : (4 : UInt8) ≠ 0)⟩
  obtain ⟨h1, h2⟩ := cat_pos l.length _ hp (by simp) rest
  rw [← e] at h1 h2
  rw [List.take_of_length_le (by simp), ← e] at h1
  exact ⟨h1, h2⟩
theorem rec_in (b : List UInt8) : recOk (brc b) := ⟨Rs.nat_le _ _, Rs.nat_le _ _⟩
/-- how far a file is told -/
def FlI (bs : List UInt8) (k : Nat) (r : Rc) : Prop := bfl bs (0, 0) = bfl (bs.drop (pos bs k)) r ∧ recOk r
theorem fl_0 (bs : List UInt8) : FlI bs 0 (0, 0) := ⟨rfl, Nat.zero_le _, Nat.zero_le _⟩
theorem fl_more {bs : List UInt8} {k : Nat} {r : Rc} (h : FlI bs k r) (h0 : tkE (bs.drop (pos bs k)) = 0) (h1 : bst (bs.drop (pos bs k)) r) : FlI bs (k + 1) (brd (bs.drop (pos bs k))) := by
  refine ⟨?_, rec_in _⟩
  rw [h.1, bfl_yes h0 h1, pos, List.drop_drop]
theorem fl_no {bs : List UInt8} {k : Nat} {r : Rc} (h : FlI bs k r) (h0 : tkE (bs.drop (pos bs k)) = 0) (h1 : ¬ bst (bs.drop (pos bs k)) r) : bfl bs (0, 0) = (r, false) := by rw [h.1, bfl_no h0 h1]
theorem fl_end {bs : List UInt8} {k : Nat} {r : Rc} (h : FlI bs k r) (h0 : tkE (bs.drop (pos bs k)) ≠ 0) : bfl bs (0, 0) = (r, decide (tkE (bs.drop (pos bs k)) = 31)) := by rw [h.1, bfl_end h0]
theorem bst_no1 {bs : List UInt8} {k : UInt8} {b : List UInt8} {r : Rc} (hk : k = tkK bs) (hb : b = tkL bs) (h : (!isR k b) = true) : ¬ bst bs r := by
  subst hk hb
  intro hh
  rw [hh.1] at h
  cases h
theorem bst_no2 {bs : List UInt8} {b : List UInt8} {r : Rc} (hb : b = tkL bs) (h : (!decide (brc b = r)) = true) (h2 : (!decide (abv (brc b) r)) = true) : ¬ bst bs r := by
  subst hb
  rintro ⟨_, hh | hh⟩
  · have : decide (brc (tkL bs) = r) = true := decide_eq_true hh
    rw [this] at h; cases h
  · have : decide (abv (brc (tkL bs)) r) = true := decide_eq_true hh
    rw [this] at h2; cases h2
theorem bst_y1 {bs : List UInt8} {k : UInt8} {b : List UInt8} {r : Rc} (hk : k = tkK bs) (hb : b = tkL bs) (h : (!isR k b) = false) (h2 : (!decide (brc b = r)) = false) : bst bs r := by
  subst hk hb
  exact ⟨not_back h, .inl (of_decide_eq_true (not_back h2))⟩
theorem bst_y2 {bs : List UInt8} {k : UInt8} {b : List UInt8} {r : Rc} (hk : k = tkK bs) (hb : b = tkL bs) (h : (!isR k b) = false) (h2 : (!decide (abv (brc b) r)) = false) : bst bs r := by
  subst hk hb
  exact ⟨not_back h, .inr (of_decide_eq_true (not_back h2))⟩
theorem isR_of {k : UInt8} {b : List UInt8} (hk : (k.toNat : Int) = 4) (h : (br2 b).endOk = 0) : isR k b = true := decide_eq_true ⟨hk, h⟩
theorem isR_not {k : UInt8} {b : List UInt8} (h : (k.toNat : Int) ≠ 4 ∨ (br2 b).endOk ≠ 0) : isR k b = false := decide_eq_false fun hh => by rcases h with h | h; exact h hh.1; exact h hh.2
theorem end_yes {bs : List UInt8} {k : Nat} (h : endE bs k = 0) (hne : tkE (bs.drop (pos bs k)) ≠ 0) : decide (tkE (bs.drop (pos bs k)) = 31) = true := by
  unfold endE at h
  split at h
  · rename_i hp; exact decide_eq_true (tkE_nil hp)
  · exact absurd h hne
theorem end_no {bs : List UInt8} {k : Nat} (h : ¬ endE bs k = 0) : decide (tkE (bs.drop (pos bs k)) = 31) = decide (endE bs k = 31) := by
  unfold endE at h ⊢
  split
  · rename_i hp; rw [if_pos hp] at h; exact absurd rfl h
  · rfl
theorem bfl_ok : ∀ (m : Nat) (bs : List UInt8) (x : Rc), bs.length ≤ m → recOk x → recOk (bfl bs x).1
  | m, bs, x, hm, hx => by
    by_cases h : tkE bs = 0
    · by_cases h2 : bst bs x
      · rw [bfl_yes h h2]
        cases m with
        | zero => have := tkN_le h; omega
        | succ m => exact bfl_ok m _ _ (by rw [List.length_drop]; have := tkN_le h; omega) (rec_in _)
      · rw [bfl_no h h2]; exact hx
    · rw [bfl_end h]; exact hx
theorem btl_bad1 {a b : List UInt8} (h : (!(bfl a (0, 0)).2) = true) : btl a b = ((0, 0), false, 20) := by
  unfold btl
  rw [if_neg]
  intro hh
  rw [hh.1] at h
  cases h
theorem btl_bad2 {a b : List UInt8} (h : (!(bfl b (0, 0)).2) = true) : btl a b = ((0, 0), false, 20) := by
  unfold btl
  rw [if_neg]
  intro hh
  rw [hh.2] at h
  cases h
theorem btl_y {a b : List UInt8} (h : (!(bfl a (0, 0)).2) = false) (h2 : (!(bfl b (0, 0)).2) = false) (h3 : decide (abv (bfl b (0, 0)).1 (bfl a (0, 0)).1) = true) : btl a b = ((bfl b (0, 0)).1, true, 0) := by
  unfold btl
  rw [if_pos ⟨not_back h, not_back h2⟩, if_pos (of_decide_eq_true h3)]
theorem btl_x {a b : List UInt8} (h : (!(bfl a (0, 0)).2) = false) (h2 : (!(bfl b (0, 0)).2) = false) (h3 : decide (abv (bfl b (0, 0)).1 (bfl a (0, 0)).1) = false) : btl a b = ((bfl a (0, 0)).1, false, 0) := by
  unfold btl
  rw [if_pos ⟨not_back h, not_back h2⟩, if_neg (of_decide_eq_false h3)]
theorem bfl_in (a : List UInt8) : recOk (bfl a (0, 0)).1 := bfl_ok a.length a _ (Nat.le_refl _) ⟨Nat.zero_le _, Nat.zero_le _⟩
theorem btl_in (a b : List UInt8) : recOk (btl a b).1 := by
  unfold btl
  split
  · split
    · exact bfl_in b
    · exact bfl_in a
  · exact ⟨Nat.zero_le _, Nat.zero_le _⟩
/-- where a file's whole parcels end -/
def endN (bs : List UInt8) : Nat := if h : tkE bs = 0 then tkN bs + endN (bs.drop (tkN bs)) else 0
termination_by bs.length
decreasing_by rw [List.length_drop]; have := tkN_le h; omega
theorem endN_yes {bs : List UInt8} (h : tkE bs = 0) : endN bs = tkN bs + endN (bs.drop (tkN bs)) := by rw [endN, dif_pos h]
theorem endN_no {bs : List UInt8} (h : tkE bs ≠ 0) : endN bs = 0 := by rw [endN, dif_neg h]
theorem endN_pos {bs : List UInt8} : ∀ k, whole bs k = true → endN bs = pos bs k + endN (bs.drop (pos bs k))
  | 0, _ => (Nat.zero_add _).symm
  | k + 1, h => by
    rw [whole, Bool.and_eq_true, decide_eq_true_eq] at h
    rw [endN_pos k h.1, endN_yes h.2, pos, List.drop_drop, Nat.add_assoc]
theorem endN_at {bs : List UInt8} {k : Nat} (h : whole bs k = true) (h2 : tkE (bs.drop (pos bs k)) ≠ 0) : pos bs k = endN bs := by rw [endN_pos k h, endN_no h2]; rfl
theorem endN_recs {l : List Rc} (h : chain l (0, 0)) : endN (recsB l) = (recsB l).length := by
  obtain ⟨h1, h2⟩ := recsB_pos l [] (.inl h)
  rw [List.append_nil] at h1 h2
  rw [← endN_at h2 (by rw [tkE_nil h1]; decide), h1]
theorem rcw {n : Int} (h : 0 ≤ n ∧ n < 18446744073709551616) : (Lit.int .u64 n).wf = true := by
  unfold Lit.wf
  simp [IntKind.min, IntKind.max, IntKind.bits, IntKind.signed]
  omega
theorem rc_iff {e q : Rc} : decide (e = q) = true ↔ [Lit.int .u64 (e.1 : Int), .int .u64 (e.2 : Int)] = [Lit.int .u64 (q.1 : Int), .int .u64 (q.2 : Int)] := by
  simp [Prod.ext_iff]
  omega
set_option maxRecDepth 100000 in
theorem rc_lits105 {r : Rc} (h : recOk r) : Try.prog.keyLits 2 105 [.int .u64 ((r).1 : Int), .int .u64 ((r).2 : Int)] = some [.int .u64 (r.1 : Int), .int .u64 (r.2 : Int)] := by
  have h1 : r.1 ≤ 4611686018427387904 := h.1
  have h2 : r.2 ≤ 7 := h.2
  have k0 : Try.prog.keyLits 1 43 [.int .u64 (r.1 : Int)] = some [.int .u64 (r.1 : Int)] := keyLits_int1 Try.underlying43 (rcw (by omega))
  have k1 : Try.prog.keyLits 1 43 [.int .u64 (r.2 : Int)] = some [.int .u64 (r.2 : Int)] := keyLits_int1 Try.underlying43 (rcw (by omega))
  have c0 : Try.prog.cellsOf 43 = 1 := by kernel_rfl
  have cE : Try.prog.cellsOf 105 = 2 := by kernel_rfl
  show Try.prog.keyLits (1 + 1) 105 _ = _
  unfold Program.keyLits
  simp only [Try.underlying105]
  rw [if_pos ⟨by rw [cE]; rfl, by simp⟩]
  simp only [List.mapM_cons, List.mapM_nil, c0]
  have d0 : (List.drop 0 [Value.int .u64 (r.1 : Int), .int .u64 (r.2 : Int)]).take 1 = [.int .u64 (r.1 : Int)] := rfl
  have d1 : (List.drop 1 [Value.int .u64 (r.1 : Int), .int .u64 (r.2 : Int)]).take 1 = [.int .u64 (r.2 : Int)] := rfl
  rw [d0, k0, d1, k1]
  rfl
theorem rc_formed105 {r : Rc} : Value.formed Try.prog 105 (.agg #[.int .u64 ((r).1 : Int), .int .u64 ((r).2 : Int)]) = true := by
  have cE : Try.prog.cellsOf 105 = 2 := by kernel_rfl
  simp [Value.formed, Try.underlying105, cE]
theorem rc_eq105 {ρ : Env} {w : World} {ty yt : TypeId} {x y : Operand} {e q : Rc} (hx : ev ρ x = .agg #[.int .u64 ((e).1 : Int), .int .u64 ((e).2 : Int)]) (hy : ev ρ y = .agg #[.int .u64 ((q).1 : Int), .int .u64 ((q).2 : Int)]) (he : recOk e) (hq : recOk q) : qv Try.prog (.binOp .eql 105 x y yt) ty ρ w (.bool (decide (e = q))) :=
  q_eql_lits (m := 2) (cx := [.int .u64 ((e).1 : Int), .int .u64 ((e).2 : Int)]) (cy := [.int .u64 ((q).1 : Int), .int .u64 ((q).2 : Int)]) hx hy (by kernel_rfl) (by decide) (by kernel_rfl) rc_formed105 rc_formed105 (rc_lits105 he) (rc_lits105 hq) rc_iff
theorem rc_ne105 {ρ : Env} {w : World} {ty yt : TypeId} {x y : Operand} {e q : Rc} (hx : ev ρ x = .agg #[.int .u64 ((e).1 : Int), .int .u64 ((e).2 : Int)]) (hy : ev ρ y = .agg #[.int .u64 ((q).1 : Int), .int .u64 ((q).2 : Int)]) (he : recOk e) (hq : recOk q) : qv Try.prog (.binOp .neq 105 x y yt) ty ρ w (.bool (!decide (e = q))) :=
  q_neq_lits (m := 2) (cx := [.int .u64 ((e).1 : Int), .int .u64 ((e).2 : Int)]) (cy := [.int .u64 ((q).1 : Int), .int .u64 ((q).2 : Int)]) hx hy (by kernel_rfl) (by decide) (by kernel_rfl) rc_formed105 rc_formed105 (rc_lits105 he) (rc_lits105 hq) rc_iff
set_option maxRecDepth 100000 in
theorem rc_lits89 {r : Rc} (h : recOk r) : Try.prog.keyLits 2 89 [.int .u64 ((r).1 : Int), .int .u64 ((r).2 : Int)] = some [.int .u64 (r.1 : Int), .int .u64 (r.2 : Int)] := by
  have h1 : r.1 ≤ 4611686018427387904 := h.1
  have h2 : r.2 ≤ 7 := h.2
  have k0 : Try.prog.keyLits 1 43 [.int .u64 (r.1 : Int)] = some [.int .u64 (r.1 : Int)] := keyLits_int1 Try.underlying43 (rcw (by omega))
  have k1 : Try.prog.keyLits 1 43 [.int .u64 (r.2 : Int)] = some [.int .u64 (r.2 : Int)] := keyLits_int1 Try.underlying43 (rcw (by omega))
  have c0 : Try.prog.cellsOf 43 = 1 := by kernel_rfl
  have cE : Try.prog.cellsOf 89 = 2 := by kernel_rfl
  show Try.prog.keyLits (1 + 1) 89 _ = _
  unfold Program.keyLits
  simp only [Try.underlying89]
  rw [if_pos ⟨by rw [cE]; rfl, by simp⟩]
  simp only [List.mapM_cons, List.mapM_nil, c0]
  have d0 : (List.drop 0 [Value.int .u64 (r.1 : Int), .int .u64 (r.2 : Int)]).take 1 = [.int .u64 (r.1 : Int)] := rfl
  have d1 : (List.drop 1 [Value.int .u64 (r.1 : Int), .int .u64 (r.2 : Int)]).take 1 = [.int .u64 (r.2 : Int)] := rfl
  rw [d0, k0, d1, k1]
  rfl
theorem rc_formed89 {r : Rc} : Value.formed Try.prog 89 (.agg #[.int .u64 ((r).1 : Int), .int .u64 ((r).2 : Int)]) = true := by
  have cE : Try.prog.cellsOf 89 = 2 := by kernel_rfl
  simp [Value.formed, Try.underlying89, cE]
theorem rc_eq89 {ρ : Env} {w : World} {ty yt : TypeId} {x y : Operand} {e q : Rc} (hx : ev ρ x = .agg #[.int .u64 ((e).1 : Int), .int .u64 ((e).2 : Int)]) (hy : ev ρ y = .agg #[.int .u64 ((q).1 : Int), .int .u64 ((q).2 : Int)]) (he : recOk e) (hq : recOk q) : qv Try.prog (.binOp .eql 89 x y yt) ty ρ w (.bool (decide (e = q))) :=
  q_eql_lits (m := 2) (cx := [.int .u64 ((e).1 : Int), .int .u64 ((e).2 : Int)]) (cy := [.int .u64 ((q).1 : Int), .int .u64 ((q).2 : Int)]) hx hy (by kernel_rfl) (by decide) (by kernel_rfl) rc_formed89 rc_formed89 (rc_lits89 he) (rc_lits89 hq) rc_iff
theorem rc_ne89 {ρ : Env} {w : World} {ty yt : TypeId} {x y : Operand} {e q : Rc} (hx : ev ρ x = .agg #[.int .u64 ((e).1 : Int), .int .u64 ((e).2 : Int)]) (hy : ev ρ y = .agg #[.int .u64 ((q).1 : Int), .int .u64 ((q).2 : Int)]) (he : recOk e) (hq : recOk q) : qv Try.prog (.binOp .neq 89 x y yt) ty ρ w (.bool (!decide (e = q))) :=
  q_neq_lits (m := 2) (cx := [.int .u64 ((e).1 : Int), .int .u64 ((e).2 : Int)]) (cy := [.int .u64 ((q).1 : Int), .int .u64 ((q).2 : Int)]) hx hy (by kernel_rfl) (by decide) (by kernel_rfl) rc_formed89 rc_formed89 (rc_lits89 he) (rc_lits89 hq) rc_iff

end Go.Proofs.Ytlppgpidakfnlaa
