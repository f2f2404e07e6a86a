/- Ballots: what their files say, and Save. -/
import Derived.Test.YtlppgpidakfnlaaBf
namespace Go.Proofs.Ytlppgpidakfnlaa
open Go Go.RowKit Go.Lib
variable {W : World}
def mx (x y : Rc) : Rc := if abv y x then y else x
theorem btl_two {a b : List UInt8} {x y : Rc} (h0 : bfl a (0, 0) = (x, true)) (h1 : bfl b (0, 0) = (y, true)) : btl a b = (mx x y, decide (abv y x), 0) := by
  unfold btl mx
  rw [h0, h1, if_pos ⟨rfl, rfl⟩]
  by_cases h : abv y x
  · rw [if_pos h, if_pos h, decide_eq_true h]
  · rw [if_neg h, if_neg h, decide_eq_false h]
theorem chain_ge : ∀ {l : List Rc} {x : Rc}, chain l x → lastR l x = x ∨ abv (lastR l x) x
  | [], x, _ => .inl rfl
  | r :: l, x, h => by
    rcases chain_ge h.2.2 with h1 | h1
    · rcases h.2.1 with h2 | h2
      · exact .inl (h1.trans h2)
      · exact .inr (by show abv (lastR l r) x; rw [h1]; exact h2)
    · rcases h.2.1 with h2 | h2
      · exact .inr (by show abv (lastR l r) x; rw [← h2]; exact h1)
      · exact .inr (abv_trans h1 h2)
theorem chain_ok : ∀ {l : List Rc} {x : Rc}, chain l x → recOk x → recOk (lastR l x)
  | [], _, _, h => h
  | r :: l, _, h, _ => chain_ok (l := l) (x := r) h.2.2 h.1
theorem ok0 : recOk (0, 0) := ⟨Nat.zero_le _, Nat.zero_le _⟩
theorem not_abv0 (r : Rc) : ¬ abv (0, 0) r := by
  unfold abv
  rintro (h | h)
  · exact absurd h (Nat.not_lt_zero _)
  · exact h.2.2 rfl
/-- which file counts -/
def rel (c : Int) (r o : Rc) : Prop := (c = 0 ∧ ¬ abv o r) ∨ (c = 1 ∧ abv r o)
/-- a ballot's files: whole, and synced -/
def BF (d : Dk) (n : Nat) (c : Int) (r : Rc) : Prop := ∃ l0 l1, d.F n = (recsB l0, (recsB l0).length) ∧ d.F (n + 1) = (recsB l1, (recsB l1).length) ∧ chain l0 (0, 0) ∧ chain l1 (0, 0) ∧ ((c = 0 ∧ r = lastR l0 (0, 0) ∧ ¬ abv (lastR l1 (0, 0)) r) ∨ (c = 1 ∧ r = lastR l1 (0, 0) ∧ abv r (lastR l0 (0, 0))))
theorem BF.ok {d : Dk} {n : Nat} {c : Int} {r : Rc} (h : BF d n c r) : recOk r := by
  obtain ⟨l0, l1, _, _, h0, h1, ⟨_, rfl, _⟩ | ⟨_, rfl, _⟩⟩ := h
  · exact chain_ok h0 ok0
  · exact chain_ok h1 ok0
theorem BF.c2 {d : Dk} {n : Nat} {c : Int} {r : Rc} (h : BF d n c r) : c = 0 ∨ c = 1 := by
  obtain ⟨l0, l1, _, _, h0, h1, ⟨h, _⟩ | ⟨h, _⟩⟩ := h
  · exact .inl h
  · exact .inr h
theorem BF.opens {d : Dk} {n : Nat} {c : Int} {r : Rc} (h : BF d n c r) : btl (d.F n).1 (d.F (n + 1)).1 = (r, decide (c = 1), 0) := by
  obtain ⟨l0, l1, f0, f1, h0, h1, hc⟩ := h
  rw [f0, f1, btl_two (bfl_whole h0) (bfl_whole h1)]
  unfold mx
  rcases hc with ⟨rfl, rfl, h⟩ | ⟨rfl, rfl, h⟩
  · rw [if_neg h, decide_eq_false h]; rfl
  · rw [if_pos h, decide_eq_true h]; rfl
theorem BF.tidied {d : Dk} {n : Nat} {c : Int} {r : Rc} (h : BF d n c r) (hG : DGood d) (hg : d.gone = false) (hf : d.fuse < 0) (hn : n ≤ 30) : BF (tdJ d n 2) n c r := by
  obtain ⟨l0, l1, f0, f1, h0, h1, hc⟩ := h
  obtain ⟨g0, o0, p0, _⟩ := tdJ_ok (n := n) hG hg hf 1
  obtain ⟨a1, a2⟩ := tdD_whole (d := d) (i := n) hg hf (by omega) (by rw [f0]; exact endN_recs h0)
  have e1 : tdJ d n 1 = tdD d n := rfl
  have k1 : (tdJ d n 1).F n = (recsB l0, (recsB l0).length) := by rw [e1, a1, f0]; simp
  have k2 : (tdJ d n 1).F (n + 1) = (recsB l1, (recsB l1).length) := by rw [e1, a2 _ (by omega), f1]
  obtain ⟨b1, b2⟩ := tdD_whole (d := tdJ d n 1) (i := n + 1) o0 (by omega) (by omega) (by rw [k2]; exact endN_recs h1)
  have e2 : tdJ d n 2 = tdD (tdJ d n 1) (n + 1) := rfl
  exact ⟨l0, l1, by rw [e2, b2 _ (by omega), k1], by rw [e2, b1, k2]; simp, h0, h1, hc⟩
theorem BF.zero {n : Nat} : BF D0 n 0 (0, 0) := ⟨[], [], rfl, rfl, trivial, trivial, .inl ⟨rfl, rfl, not_abv0 _⟩⟩
section
variable {d : Dk}
def sgn (d e : Dk) : Prop := (d.fuse < 0 → e.fuse < 0) ∧ (0 ≤ d.fuse → 0 ≤ e.fuse)
theorem sgn_trans {a b c : Dk} (h : sgn a b) (k : sgn b c) : sgn a c := ⟨fun x => k.1 (h.1 x), fun x => k.2 (h.2 x)⟩
theorem blow_sgn (F : Nat → List UInt8 × Nat) : sgn d (d.blow.setF F) := by
  have e : (d.blow.setF F).fuse = if 0 < d.fuse then d.fuse - 1 else d.fuse := rfl
  unfold sgn
  rw [e]
  split <;> omega
theorem tn_any {i : Int} {F : Nat → List UInt8 × Nat} (hg : d.gone = false) (hi : 0 ≤ i ∧ i < 32) : (tnE d i 0 = 0 ∧ (tnD d i 0 F).F = F ∧ (tnD d i 0 F).gone = false ∧ sgn d (tnD d i 0 F)) ∨ (0 ≤ d.fuse ∧ tnE d i 0 = 70 ∧ (tnD d i 0 F).F = d.F ∧ (tnD d i 0 F).gone = true) := by
  by_cases hf : d.fuse = 0
  · obtain ⟨h1, h2, _⟩ := tn_fuse (F := F) (i := i) (c := 0) hg hi rfl hf
    rw [h2]
    exact .inr ⟨by omega, h1, rfl, decide_eq_true hf⟩
  · obtain ⟨h1, h2, _⟩ := tn_ok (F := F) (i := i) (c := 0) hg hi rfl hf
    rw [h2]
    exact .inl ⟨h1, rfl, decide_eq_false hf, blow_sgn F⟩
theorem ap_any {i c : Int} {F : Nat → List UInt8 × Nat} (hc : c = 0) (hg : d.gone = false) (hi : 0 ≤ i ∧ i < 32) : (apD d i c F).F = F ∧ ((tnE d i c = 0 ∧ (apD d i c F).gone = false ∧ sgn d (apD d i c F)) ∨ (0 ≤ d.fuse ∧ tnE d i c = 70 ∧ (apD d i c F).gone = true)) := by
  by_cases hf : d.fuse = 0
  · obtain ⟨h1, _, h2⟩ := tn_fuse (F := F) (i := i) (c := c) hg hi hc hf
    rw [h2]
    exact ⟨rfl, .inr ⟨by omega, h1, decide_eq_true hf⟩⟩
  · obtain ⟨h1, _, h2⟩ := tn_ok (F := F) (i := i) (c := c) hg hi hc hf
    rw [h2]
    exact ⟨rfl, .inl ⟨h1, decide_eq_false hf, blow_sgn F⟩⟩
end
def mxc (c : Int) (m o : Rc) : Rc := if c = 0 then mx m o else mx o m
def Fd (d : Dk) (b : Bl) : Nat → List UInt8 × Nat := if bsL d b then drF d.F (b.f0 + (1 - b.cn)).toNat else d.F
/-- where it is written, and what stands there -/
theorem bs_lists {d : Dk} {n : Nat} {c ea : Int} {r X : Rc} (h : BF d n c r) (hn : n ≤ 30) (hea : ea ≤ 1000) (hA : abv X r) :
    ∃ (c' : Int) (lM lO : List Rc) (iM iO : Nat), bsC d ⟨(n : Int), c, ea, r, false⟩ = c' ∧ bsM d ⟨(n : Int), c, ea, r, false⟩ = (iM : Int) ∧ ((c' = 0 ∧ iM = n ∧ iO = n + 1) ∨ (c' = 1 ∧ iM = n + 1 ∧ iO = n)) ∧
      Fd d ⟨(n : Int), c, ea, r, false⟩ iM = (recsB lM, (recsB lM).length) ∧ Fd d ⟨(n : Int), c, ea, r, false⟩ iO = (recsB lO, (recsB lO).length) ∧ chain lM (0, 0) ∧ chain lO (0, 0) ∧ rel c' X (lastR lO (0, 0)) ∧ mxc c' (lastR lM (0, 0)) (lastR lO (0, 0)) = r ∧ (recsB lM).length ≤ 1000 ∧ abv X (lastR lM (0, 0)) := by
  obtain ⟨l0, l1, f0, f1, h0, h1, hc⟩ := h
  have hX0 : ∀ {l : List Rc}, chain l (0, 0) → r = lastR l (0, 0) → abv X (0, 0) := fun hl hr => by
    rcases chain_ge hl with k | k
    · rw [← hr] at k; rw [← k]; exact hA
    · rw [← hr] at k; exact abv_trans hA k
  rcases hc with ⟨rfl, hr, hno⟩ | ⟨rfl, hr, hab⟩
  · -- the first one counts
    have eN : (bsN d ⟨(n : Int), 0, ea, r, false⟩).toNat = n := by show ((n : Int) + 0).toNat = n; omega
    by_cases hL : bsL d ⟨(n : Int), 0, ea, r, false⟩
    · have hC : bsC d ⟨(n : Int), 0, ea, r, false⟩ = 1 := by unfold bsC; rw [if_pos hL]; rfl
      have hF : Fd d ⟨(n : Int), 0, ea, r, false⟩ = drF d.F (n + 1) := by unfold Fd; rw [if_pos hL]; exact congrArg (drF d.F) (by show ((n : Int) + (1 - 0)).toNat = n + 1; omega)
      refine ⟨1, [], l0, n + 1, n, hC, by unfold bsM; rw [hC]; rfl, .inr ⟨rfl, rfl, rfl⟩, ?_, ?_, trivial, h0, .inr ⟨rfl, by rw [← hr]; exact hA⟩, ?_, by decide, hX0 h0 hr⟩
      · rw [hF]; exact updF_at _ _ _
      · rw [hF, ← f0]; exact updF_ne (by omega)
      · unfold mxc mx
        rw [if_neg (by decide), ← hr]
        exact if_neg (not_abv0 r)
    · have hC : bsC d ⟨(n : Int), 0, ea, r, false⟩ = 0 := by unfold bsC; rw [if_neg hL]
      have hF : Fd d ⟨(n : Int), 0, ea, r, false⟩ = d.F := by unfold Fd; rw [if_neg hL]
      have hl : ¬ ea ≤ ((d.F n).1.length : Int) := by have h := hL; unfold bsL at h; rw [eN] at h; exact h
      rw [f0] at hl
      refine ⟨0, l0, l1, n, n + 1, hC, by unfold bsM; rw [hC]; show (n : Int) + 0 = n; omega, .inl ⟨rfl, rfl, rfl⟩, by rw [hF, f0], by rw [hF, f1], h0, h1, .inl ⟨rfl, fun hh => hno (abv_trans hh hA)⟩, ?_, ?_, by rw [← hr]; exact hA⟩
      · unfold mxc mx
        rw [if_pos rfl, ← hr]
        exact if_neg hno
      · have hl2 : ¬ ea ≤ ((recsB l0).length : Int) := hl
        omega
  · -- the second one counts
    have eN : (bsN d ⟨(n : Int), 1, ea, r, false⟩).toNat = n + 1 := by show ((n : Int) + 1).toNat = n + 1; omega
    by_cases hL : bsL d ⟨(n : Int), 1, ea, r, false⟩
    · have hC : bsC d ⟨(n : Int), 1, ea, r, false⟩ = 0 := by unfold bsC; rw [if_pos hL]; rfl
      have hF : Fd d ⟨(n : Int), 1, ea, r, false⟩ = drF d.F n := by unfold Fd; rw [if_pos hL]; exact congrArg (drF d.F) (by show ((n : Int) + (1 - 1)).toNat = n; omega)
      refine ⟨0, [], l1, n, n + 1, hC, by unfold bsM; rw [hC]; show (n : Int) + 0 = n; omega, .inl ⟨rfl, rfl, rfl⟩, ?_, ?_, trivial, h1, .inl ⟨rfl, by rw [← hr]; exact abv_asymm hA⟩, ?_, by decide, hX0 h1 hr⟩
      · rw [hF]; exact updF_at _ _ _
      · rw [hF, ← f1]; exact updF_ne (by omega)
      · unfold mxc mx
        rw [if_pos rfl, ← hr]
        show (if abv r (0, 0) then r else (0, 0)) = r
        rcases chain_ge h1 with k | k
        · rw [← hr] at k
          rw [k]
          exact if_neg (abv_irrefl _)
        · rw [← hr] at k
          exact if_pos k
    · have hC : bsC d ⟨(n : Int), 1, ea, r, false⟩ = 1 := by unfold bsC; rw [if_neg hL]
      have hF : Fd d ⟨(n : Int), 1, ea, r, false⟩ = d.F := by unfold Fd; rw [if_neg hL]
      have hl : ¬ ea ≤ ((d.F (n + 1)).1.length : Int) := by have h := hL; unfold bsL at h; rw [eN] at h; exact h
      rw [f1] at hl
      refine ⟨1, l1, l0, n + 1, n, hC, by unfold bsM; rw [hC]; rfl, .inr ⟨rfl, rfl, rfl⟩, by rw [hF, f1], by rw [hF, f0], h1, h0, .inr ⟨rfl, abv_trans hA hab⟩, ?_, ?_, by rw [← hr]; exact hA⟩
      · unfold mxc mx
        rw [if_neg (by decide), ← hr]
        exact if_pos hab
      · have hl2 : ¬ ea ≤ ((recsB l1).length : Int) := hl
        omega
/-- files that tell r, or X -/
def CF (d : Dk) (n : Nat) (r X : Rc) : Prop := (btl (d.F n).1 (d.F (n + 1)).1).2.2 = 0 ∧ ((btl (d.F n).1 (d.F (n + 1)).1).1 = r ∨ (btl (d.F n).1 (d.F (n + 1)).1).1 = X)
theorem crw {ns : List Int} {d : Dk} {i : Nat} {b : List UInt8} (hi : i < 32) (h : d.F i = (b, b.length)) : (crD ns d).F i = (b, b.length) := by
  rw [crD_at hi, h]
  have hs := crS_le (ns := ns) (i := i) (f := (b, b.length)) (Nat.le_refl _)
  have e : crS ns i (b, b.length) = b.length := by
    have h1 : b.length ≤ crS ns i (b, b.length) := hs.1
    have h2 : crS ns i (b, b.length) ≤ b.length := hs.2
    omega
  unfold crV
  rw [e]
  show (b.take b.length, b.length) = _
  rw [List.take_length]
theorem crt {ns : List Int} {d : Dk} {i : Nat} {l : List Rc} {X : Rc} (hi : i < 32) (hl : chain l (0, 0)) (hX : recOk X) (hab : abv X (lastR l (0, 0))) (h : d.F i = (recsB l ++ recB X, (recsB l).length)) : bfl ((crD ns d).F i).1 (0, 0) = (lastR l (0, 0), true) ∨ bfl ((crD ns d).F i).1 (0, 0) = (X, true) := by
  rw [crD_at hi, h]
  have hs := crS_le (ns := ns) (i := i) (f := (recsB l ++ recB X, (recsB l).length)) (by show (recsB l).length ≤ (recsB l ++ recB X).length; rw [List.length_append]; omega)
  obtain ⟨k, hk⟩ : ∃ k, k = crS ns i (recsB l ++ recB X, (recsB l).length) := ⟨_, rfl⟩
  have h1 : (recsB l).length ≤ k := by rw [hk]; exact hs.1
  show bfl ((recsB l ++ recB X).take (crS ns i (recsB l ++ recB X, (recsB l).length))) (0, 0) = _ ∨ bfl ((recsB l ++ recB X).take (crS ns i (recsB l ++ recB X, (recsB l).length))) (0, 0) = _
  rw [← hk, List.take_append, List.take_of_length_le h1]
  rcases Nat.lt_or_ge (k - (recsB l).length) (recB X).length with h2 | h2
  · exact .inl (bfl_torn hl hX h2)
  · rw [List.take_of_length_le h2, ← recsB_snoc, bfl_whole (chain_snoc hl hX (.inr hab)), lastR_snoc]
    exact .inr rfl
theorem rel_mx {c : Int} {X o : Rc} (h : rel c X o) : mxc c X o = X := by
  unfold mxc mx
  rcases h with ⟨rfl, h⟩ | ⟨rfl, h⟩
  · rw [if_pos rfl, if_neg h]
  · rw [if_neg (by decide), if_pos h]
theorem cf_of {d : Dk} {n iM iO : Nat} {c : Int} {r X m o : Rc} (hi : (c = 0 ∧ iM = n ∧ iO = n + 1) ∨ (c = 1 ∧ iM = n + 1 ∧ iO = n)) (hM : bfl (d.F iM).1 (0, 0) = (m, true)) (hO : bfl (d.F iO).1 (0, 0) = (o, true)) (h : mxc c m o = r ∨ mxc c m o = X) : CF d n r X := by
  rcases hi with ⟨rfl, rfl, rfl⟩ | ⟨rfl, rfl, rfl⟩
  · unfold CF
    rw [btl_two hM hO]
    exact ⟨rfl, h⟩
  · unfold CF
    rw [btl_two hO hM]
    exact ⟨rfl, h⟩
theorem BF.cf {d : Dk} {n : Nat} {c : Int} {r X : Rc} (h : BF d n c r) : CF d n r X := by
  unfold CF
  rw [h.opens]
  exact ⟨rfl, .inl rfl⟩
theorem BF.crash {d : Dk} {n : Nat} {c : Int} {r : Rc} (h : BF d n c r) (hn : n ≤ 30) (ns : List Int) : BF (crD ns d) n c r := by
  obtain ⟨l0, l1, f0, f1, h⟩ := h
  exact ⟨l0, l1, crw (by omega) f0, crw (by omega) f1, h⟩
/-- what Save does to a ballot whose record it tops: it is saved, or the power went -/
theorem BF.save {d : Dk} {n : Nat} {c ea : Int} {r : Rc} {t : Nat} {v : Int} (h : BF d n c r) (hG : DGood d) (hg : d.gone = false) (hn : n ≤ 30) (hea : ea ≤ 1000) (harg : ¬ bsArg t v) (hX : ¬ bsX t v = r) (hA : abv (bsX t v) r) :
    (∃ c' d', bsR d ⟨(n : Int), c, ea, r, false⟩ t v = (0, ⟨(n : Int), c', ea, bsX t v, false⟩, d') ∧ DGood d' ∧ d'.gone = false ∧ sgn d d' ∧ d'.calls ≤ d.calls + 3 ∧ BF d' n c' (bsX t v)) ∨
    (0 ≤ d.fuse ∧ ∃ c' d', bsR d ⟨(n : Int), c, ea, r, false⟩ t v = (70, ⟨(n : Int), c', ea, r, true⟩, d') ∧ (c' = 0 ∨ c' = 1) ∧ DGood d' ∧ d'.gone = true ∧ d'.calls ≤ d.calls + 3 ∧ ∀ ns, CF (crD ns d') n r (bsX t v)) := by
  obtain ⟨c', lM, lO, iM, iO, hC, hM, hi, fM, fO, kM, kO, hrel, hmx, hlen, hab⟩ := bs_lists (ea := ea) h hn hea hA
  obtain ⟨hG1, hG2, hG3⟩ := bs_good (b := ⟨(n : Int), c, ea, r, false⟩) (ys := recB (bsX t v)) hG
  obtain ⟨hc1, hc2, hc3⟩ := bs_cal (d := d) (b := ⟨(n : Int), c, ea, r, false⟩) (ys := recB (bsX t v))
  have hc2' := h.c2
  have hXok := bsX_ok harg
  have hrl := (rec_len hXok).2
  have hi32 : iM < 32 ∧ iO < 32 ∧ iM ≠ iO ∧ (c' = 0 ∨ c' = 1) := by omega
  -- dropping
  have s1 : (bsE1 d ⟨(n : Int), c, ea, r, false⟩ = 0 ∧ (bsD1 d ⟨(n : Int), c, ea, r, false⟩).F = Fd d ⟨(n : Int), c, ea, r, false⟩ ∧ (bsD1 d ⟨(n : Int), c, ea, r, false⟩).gone = false ∧ sgn d (bsD1 d ⟨(n : Int), c, ea, r, false⟩)) ∨ (0 ≤ d.fuse ∧ bsE1 d ⟨(n : Int), c, ea, r, false⟩ = 70 ∧ (bsD1 d ⟨(n : Int), c, ea, r, false⟩).F = d.F ∧ (bsD1 d ⟨(n : Int), c, ea, r, false⟩).gone = true) := by
    unfold bsE1 bsD1 Fd
    by_cases hL : bsL d ⟨(n : Int), c, ea, r, false⟩
    · rw [if_pos hL, if_pos hL, if_pos hL]
      exact tn_any hg (by show 0 ≤ (n : Int) + (1 - c) ∧ (n : Int) + (1 - c) < 32; omega)
    · rw [if_neg hL, if_neg hL, if_neg hL]
      exact .inl ⟨rfl, rfl, hg, id, id⟩
  rcases s1 with ⟨e1, F1, g1, u1⟩ | ⟨u0, e1, F1, g1⟩
  · have hM0 : (bsM d ⟨(n : Int), c, ea, r, false⟩).toNat = iM := by rw [hM]; rfl
    have hE : apE (bsD1 d ⟨(n : Int), c, ea, r, false⟩).F (bsM d ⟨(n : Int), c, ea, r, false⟩).toNat (recB (bsX t v)).length = 0 := by
      unfold apE
      rw [F1, hM0, fM, if_neg]
      show ¬ 1048576 < (recsB lM).length + _
      omega
    obtain ⟨F2, s2⟩ := ap_any (d := bsD1 d ⟨(n : Int), c, ea, r, false⟩) (i := bsM d ⟨(n : Int), c, ea, r, false⟩) (F := apF (bsD1 d ⟨(n : Int), c, ea, r, false⟩).F (bsM d ⟨(n : Int), c, ea, r, false⟩).toNat (recB (bsX t v))) hE g1 (by rw [hM]; omega)
    replace F2 : (bsD2 d ⟨(n : Int), c, ea, r, false⟩ (recB (bsX t v))).F = apF (bsD1 d ⟨(n : Int), c, ea, r, false⟩).F (bsM d ⟨(n : Int), c, ea, r, false⟩).toNat (recB (bsX t v)) := F2
    have m2 : (bsD2 d ⟨(n : Int), c, ea, r, false⟩ (recB (bsX t v))).F iM = (recsB lM ++ recB (bsX t v), (recsB lM).length) := by rw [F2, hM0, F1]; unfold apF; rw [updF_at, fM]
    have o2 : (bsD2 d ⟨(n : Int), c, ea, r, false⟩ (recB (bsX t v))).F iO = (recsB lO, (recsB lO).length) := by rw [F2, hM0, F1]; unfold apF; rw [updF_ne (by omega), fO]
    have torn : ∀ d' : Dk, d'.F iM = (recsB lM ++ recB (bsX t v), (recsB lM).length) → d'.F iO = (recsB lO, (recsB lO).length) → ∀ ns, CF (crD ns d') n r (bsX t v) := fun d' a1 a2 ns => by
      have b2 : bfl ((crD ns d').F iO).1 (0, 0) = (lastR lO (0, 0), true) := by rw [crw hi32.2.1 a2]; exact bfl_whole kO
      rcases crt (ns := ns) hi32.1 kM hXok hab a1 with b1 | b1
      · exact cf_of hi b1 b2 (.inl hmx)
      · exact cf_of hi b1 b2 (.inr (rel_mx hrel))
    rcases s2 with ⟨e2, g2, u2⟩ | ⟨u0, e2, g2⟩
    · have s3 := tn_any (d := bsD2 d ⟨(n : Int), c, ea, r, false⟩ (recB (bsX t v))) (i := bsM d ⟨(n : Int), c, ea, r, false⟩) (F := syF (bsD2 d ⟨(n : Int), c, ea, r, false⟩ (recB (bsX t v))).F (bsM d ⟨(n : Int), c, ea, r, false⟩).toNat) g2 (by rw [hM]; omega)
      rcases s3 with ⟨e3, F3, g3, u3⟩ | ⟨u0, e3, F3, g3⟩
      · refine .inl ⟨c', _, (bsR_8 rfl harg hX hA e1 e2 e3).trans (by rw [hC]), hG3, g3, sgn_trans u1 (sgn_trans u2 u3), hc3, ?_⟩
        replace F3 : (bsD3 d ⟨(n : Int), c, ea, r, false⟩ (recB (bsX t v))).F = syF (bsD2 d ⟨(n : Int), c, ea, r, false⟩ (recB (bsX t v))).F (bsM d ⟨(n : Int), c, ea, r, false⟩).toNat := F3
        have m3 : (bsD3 d ⟨(n : Int), c, ea, r, false⟩ (recB (bsX t v))).F iM = (recsB (lM ++ [bsX t v]), (recsB (lM ++ [bsX t v])).length) := by rw [F3, hM0]; unfold syF; rw [updF_at, m2, recsB_snoc]
        have o3 : (bsD3 d ⟨(n : Int), c, ea, r, false⟩ (recB (bsX t v))).F iO = (recsB lO, (recsB lO).length) := by rw [F3, hM0]; unfold syF; rw [updF_ne (by omega), o2]
        have kM2 := chain_snoc kM hXok (.inr hab)
        rcases hi with ⟨rfl, rfl, rfl⟩ | ⟨rfl, rfl, rfl⟩
        · refine ⟨_, _, m3, o3, kM2, kO, .inl ⟨rfl, (lastR_snoc _ _ _).symm, ?_⟩⟩
          rcases hrel with ⟨_, hh⟩ | ⟨hh, _⟩
          · exact hh
          · cases hh
        · refine ⟨_, _, o3, m3, kO, kM2, .inr ⟨rfl, (lastR_snoc _ _ _).symm, ?_⟩⟩
          rcases hrel with ⟨hh, _⟩ | ⟨_, hh⟩
          · cases hh
          · exact hh
      · refine .inr ⟨by
          rcases Int.lt_or_le d.fuse 0 with hh | hh
          · have := (sgn_trans u1 u2).1 hh
            have h0 : 0 ≤ (bsD2 d ⟨(n : Int), c, ea, r, false⟩ (recB (bsX t v))).fuse := u0
            have h1 : (bsD2 d ⟨(n : Int), c, ea, r, false⟩ (recB (bsX t v))).fuse < 0 := this
            omega
          · exact hh, c', _, (bsR_7 rfl harg hX hA e1 e2 (by show tnE _ _ 0 ≠ 0; rw [e3]; decide)).trans (by rw [hC]), hi32.2.2.2, hG3, g3, hc3, ?_⟩
        replace F3 : (bsD3 d ⟨(n : Int), c, ea, r, false⟩ (recB (bsX t v))).F = (bsD2 d ⟨(n : Int), c, ea, r, false⟩ (recB (bsX t v))).F := F3
        exact torn _ (by rw [F3]; exact m2) (by rw [F3]; exact o2)
    · refine .inr ⟨by
        rcases Int.lt_or_le d.fuse 0 with hh | hh
        · have := u1.1 hh; omega
        · exact hh, c', _, (bsR_6 rfl harg hX hA e1 (by show tnE _ _ _ ≠ 0; rw [e2]; decide)).trans (by rw [hC]), hi32.2.2.2, hG2, g2, by omega, torn _ m2 o2⟩
  · refine .inr ⟨u0, c, _, bsR_5 rfl harg hX hA (by rw [e1]; decide), hc2', hG1, g1, by omega, fun ns => ?_⟩
    have hB : BF (bsD1 d ⟨(n : Int), c, ea, r, false⟩) n c r := by
      obtain ⟨l0, l1, f0, f1, hh⟩ := h
      exact ⟨l0, l1, by rw [F1, f0], by rw [F1, f1], hh⟩
    exact (hB.crash hn ns).cf

end Go.Proofs.Ytlppgpidakfnlaa
