/- Archives: their files: plain. -/
import Derived.Test.YtlppgpidakfnlaaAg
import Derived.Test.YtlppgpidakfnlaaDd
namespace Go.Proofs.Ytlppgpidakfnlaa
open Go Go.RowKit Go.Lib
variable {W : World}
section
variable {d : Dk}
theorem blow_ok (hg : d.gone = false) (hf : d.fuse < 0) : d.blow.gone = false ∧ d.blow.fuse = d.fuse ∧ d.blow.calls = d.calls + 1 ∧ d.blow.F = d.F :=
  ⟨decide_eq_false (by omega), (by show (if 0 < d.fuse then _ else _) = _; rw [if_neg (by omega)]), rfl, rfl⟩
/-- a call of a disk that has power, and keeps it -/
theorem tn_run {i : Int} {F : Nat → List UInt8 × Nat} (hg : d.gone = false) (hf : d.fuse < 0) (hi : 0 ≤ i ∧ i < 32) : tnE d i 0 = 0 ∧ (tnD d i 0 F).F = F ∧ (tnD d i 0 F).gone = false ∧ (tnD d i 0 F).fuse = d.fuse := by
  obtain ⟨h1, h2, _⟩ := tn_ok (F := F) (i := i) (c := 0) hg hi rfl (by omega)
  obtain ⟨b1, b2, _, _⟩ := blow_ok hg hf
  rw [h2]
  exact ⟨h1, rfl, b1, b2⟩
theorem ap_run {i : Int} {c : Int} {F : Nat → List UInt8 × Nat} (hc : c = 0) (hg : d.gone = false) (hf : d.fuse < 0) (hi : 0 ≤ i ∧ i < 32) : tnE d i c = 0 ∧ (apD d i c F).F = F ∧ (apD d i c F).gone = false ∧ (apD d i c F).fuse = d.fuse := by
  obtain ⟨h1, _, h2⟩ := tn_ok (F := F) (i := i) (c := c) hg hi hc (by omega)
  obtain ⟨b1, b2, _, _⟩ := blow_ok hg hf
  rw [h2]
  exact ⟨h1, rfl, b1, b2⟩
theorem updF_at (F : Nat → List UInt8 × Nat) (i : Nat) (v : List UInt8 × Nat) : updF F i v i = v := by unfold updF; rw [if_pos rfl]
theorem updF_ne {F : Nat → List UInt8 × Nat} {i j : Nat} {v : List UInt8 × Nat} (h : j ≠ i) : updF F i v j = F j := by unfold updF; rw [if_neg h]
theorem svF2 {n : Int} {ys : List UInt8} (h : (svD1 d n).F = drF d.F n.toNat) : apF (svD1 d n).F n.toNat ys = updF (svD1 d n).F n.toNat (ys, 0) := by
  unfold apF
  rw [h]
  unfold drF
  rw [updF_at]
  rfl
/-- all four are done -/
theorem sv_run {n old : Int} {ys : List UInt8} (hg : d.gone = false) (hf : d.fuse < 0) (hn : 0 ≤ n ∧ n < 32) (ho : 0 ≤ old ∧ old < 32) (hne : n ≠ old) (hl : ys.length ≤ 1048576) :
    (svP d n old ys).1 = true ∧ (svP d n old ys).2.gone = false ∧ (svP d n old ys).2.fuse = d.fuse ∧ (svP d n old ys).2.F n.toNat = (ys, ys.length) ∧ (svP d n old ys).2.F old.toNat = ([], 0) ∧ (svP d n old ys).2 = svD4 d n old ys := by
  obtain ⟨e1, f1, g1, u1⟩ := tn_run (F := drF d.F n.toNat) hg hf hn
  have f1' : (svD1 d n).F = drF d.F n.toNat := f1
  have hE : apE (svD1 d n).F n.toNat ys.length = 0 := by
    unfold apE
    rw [f1', if_neg]
    unfold drF
    rw [updF_at]
    show ¬ 1048576 < 0 + ys.length
    omega
  have g1' : (svD1 d n).gone = false := g1
  have u1' : (svD1 d n).fuse = d.fuse := u1
  obtain ⟨e2, f2, g2, u2⟩ := ap_run (d := svD1 d n) (F := apF (svD1 d n).F n.toNat ys) hE g1' (by omega) hn
  have e2' : svE2 d n ys = 0 := e2
  have f2' : (svD2 d n ys).F = apF (svD1 d n).F n.toNat ys := f2
  have g2' : (svD2 d n ys).gone = false := g2
  have u2' : (svD2 d n ys).fuse = (svD1 d n).fuse := u2
  obtain ⟨e3, f3, g3, u3⟩ := tn_run (d := svD2 d n ys) (F := syF (svD2 d n ys).F n.toNat) g2' (by omega) hn
  have f3' : (svD3 d n ys).F = syF (svD2 d n ys).F n.toNat := f3
  have g3' : (svD3 d n ys).gone = false := g3
  have u3' : (svD3 d n ys).fuse = (svD2 d n ys).fuse := u3
  obtain ⟨e4, f4, g4, u4⟩ := tn_run (d := svD3 d n ys) (F := drF (svD3 d n ys).F old.toNat) g3' (by omega) ho
  have f4' : (svD4 d n old ys).F = drF (svD3 d n ys).F old.toNat := f4
  have hw : svP d n old ys = (true, svD4 d n old ys) := by rw [svP_4 e1 e2' e3, decide_eq_true e4]
  rw [hw]
  refine ⟨rfl, g4, ?_, ?_, ?_, rfl⟩
  · show (svD4 d n old ys).fuse = d.fuse
    have : (svD4 d n old ys).fuse = (svD3 d n ys).fuse := u4
    omega
  · show (svD4 d n old ys).F n.toNat = _
    rw [f4']
    unfold drF
    rw [updF_ne (by omega), f3']
    unfold syF
    rw [updF_at, f2', svF2 f1', updF_at]
  · show (svD4 d n old ys).F old.toNat = _
    rw [f4']
    unfold drF
    rw [updF_at]
theorem opC_nn {n : Nat} (h0 : tel (d.F n).1 = none) (h1 : tel (d.F (n + 1)).1 = none) : opC d n 2 = (-1, sn0) := by
  unfold opC
  rw [if_neg (by intro hh; have := hh.1; rw [h1] at this; cases this)]
  unfold opC
  rw [if_neg (by intro hh; have := hh.1; rw [Nat.add_zero, h0] at this; cases this)]
  rfl
theorem telS_some {bs : List UInt8} {s : Sn} (h : tel bs = some s) : telS bs = s := by unfold telS; rw [h]; rfl
theorem telS_none {bs : List UInt8} (h : tel bs = none) : telS bs = sn0 := by unfold telS; rw [h]; rfl
theorem opC_1 {n : Nat} {a : Sn} (h0 : tel (d.F n).1 = some a) : opC d n 1 = (0, a) := by
  unfold opC
  rw [if_pos ⟨by rw [Nat.add_zero, h0]; rfl, .inl (by show (-1 : Int) < 0; decide)⟩, Nat.add_zero, telS_some h0]
  rfl
theorem opC_1n {n : Nat} (h0 : tel (d.F n).1 = none) : opC d n 1 = (-1, sn0) := by
  unfold opC
  rw [if_neg (by intro hh; have := hh.1; rw [Nat.add_zero, h0] at this; cases this)]
  rfl
theorem opC_sn {n : Nat} {a : Sn} (h0 : tel (d.F n).1 = some a) (h1 : tel (d.F (n + 1)).1 = none) : opC d n 2 = (0, a) := by
  rw [opC, if_neg (by intro hh; have := hh.1; rw [h1] at this; cases this), opC_1 h0]
theorem opC_ns {n : Nat} {b : Sn} (h0 : tel (d.F n).1 = none) (h1 : tel (d.F (n + 1)).1 = some b) : opC d n 2 = (1, b) := by
  rw [opC, if_pos ⟨by rw [h1]; rfl, .inl (by rw [opC_1n h0]; show (-1 : Int) < 0; decide)⟩, telS_some h1]
  rfl
theorem opC_lt {n : Nat} {a b : Sn} (h0 : tel (d.F n).1 = some a) (h1 : tel (d.F (n + 1)).1 = some b) (h : a.i < b.i) : opC d n 2 = (1, b) := by
  rw [opC, if_pos ⟨by rw [h1]; rfl, .inr (by rw [opC_1 h0, telS_some h1]; exact h)⟩, telS_some h1]
  rfl
theorem opC_ge {n : Nat} {a b : Sn} (h0 : tel (d.F n).1 = some a) (h1 : tel (d.F (n + 1)).1 = some b) (h : b.i ≤ a.i) : opC d n 2 = (0, a) := by
  rw [opC, if_neg, opC_1 h0]
  rintro ⟨_, hh | hh⟩
  · rw [opC_1 h0] at hh
    exact absurd hh (by show ¬ (0 : Int) < 0; decide)
  · rw [opC_1 h0, telS_some h1] at hh
    have : a.i < b.i := hh
    omega
/-- the files of what is opened -/
def opV (f : List UInt8 × Nat) (yes : Bool) : List UInt8 × Nat := if yes then (f.1, f.1.length) else if 0 < f.1.length then ([], 0) else f
theorem opD_F {n : Nat} {c : Int} (hG : DGood d) (hg : d.gone = false) (hf : d.fuse < 0) (hn : n ≤ 30) : (opD d n c 2).F n = opV (d.F n) (decide (c = 0)) ∧ (opD d n c 2).F (n + 1) = opV (d.F (n + 1)) (decide (c = 1)) := by
  obtain ⟨g0, o0, p0, q0⟩ := opD_ok (n := n) (c := c) hG hg hf 0
  obtain ⟨g1, o1, p1, q1⟩ := opD_ok (n := n) (c := c) hG hg hf 1
  have s1 : (opD d n c 1).F n = opV (d.F n) (decide (c = 0)) ∧ (opD d n c 1).F (n + 1) = d.F (n + 1) := by
    rw [opD]
    by_cases h : ((0 : Nat) : Int) = c
    · rw [if_pos h, (tn_run (i := ((n + 0 : Nat) : Int)) o0 (by omega) (by omega)).2.1, show decide (c = 0) = true from decide_eq_true (by omega)]
      unfold syF
      exact ⟨updF_at _ _ _, updF_ne (by omega)⟩
    · rw [if_neg h, show decide (c = 0) = false from decide_eq_false (by omega)]
      by_cases h2 : 0 < ((opD d n c 0).F (n + 0)).1.length
      · rw [if_pos h2, (tn_run (i := ((n + 0 : Nat) : Int)) o0 (by omega) (by omega)).2.1]
        unfold drF
        refine ⟨(updF_at _ _ _).trans ?_, updF_ne (by omega)⟩
        have h2' : 0 < (d.F n).1.length := h2
        unfold opV
        rw [if_neg (by decide), if_pos h2']
      · rw [if_neg h2]
        have h2' : ¬ 0 < (d.F n).1.length := h2
        unfold opV
        rw [if_neg (by decide), if_neg h2']
        exact ⟨rfl, rfl⟩
  rw [opD]
  by_cases h : ((1 : Nat) : Int) = c
  · rw [if_pos h, (tn_run (i := ((n + 1 : Nat) : Int)) o1 (by omega) (by omega)).2.1, show decide (c = 1) = true from decide_eq_true (by omega)]
    unfold syF
    refine ⟨(updF_ne (by omega)).trans s1.1, ?_⟩
    rw [updF_at, s1.2]
    rfl
  · rw [if_neg h, show decide (c = 1) = false from decide_eq_false (by omega)]
    by_cases h2 : 0 < ((opD d n c 1).F (n + 1)).1.length
    · rw [if_pos h2, (tn_run (i := ((n + 1 : Nat) : Int)) o1 (by omega) (by omega)).2.1]
      rw [s1.2] at h2
      unfold drF
      refine ⟨(updF_ne (by omega)).trans s1.1, (updF_at _ _ _).trans ?_⟩
      unfold opV
      rw [if_neg (by decide), if_pos h2]
    · rw [if_neg h2]
      rw [s1.2] at h2
      refine ⟨s1.1, s1.2.trans ?_⟩
      unfold opV
      rw [if_neg (by decide), if_neg h2]
end
/-- an archive that is whole: what it has is in its files, and synced -/
def AFiles (d : Dk) (n : Nat) (c : Int) (s : Sn) : Prop :=
  (c = -1 ∧ s = sn0 ∧ (d.F n).1 = [] ∧ (d.F (n + 1)).1 = []) ∨
  (snE s.i s.t s.b = 0 ∧ ((c = 0 ∧ d.F n = (snB s.i s.t s.b, (snB s.i s.t s.b).length) ∧ (d.F (n + 1)).1 = []) ∨ (c = 1 ∧ (d.F n).1 = [] ∧ d.F (n + 1) = (snB s.i s.t s.b, (snB s.i s.t s.b).length))))
theorem tel_own {s : Sn} (h : snE s.i s.t s.b = 0) : tel (snB s.i s.t s.b) = some s := by
  have := tel_snB h []
  rw [List.append_nil] at this
  exact this
theorem AFiles.opens {d : Dk} {n : Nat} {c : Int} {s : Sn} (h : AFiles d n c s) : opC d n 2 = (c, s) := by
  rcases h with ⟨rfl, rfl, h0, h1⟩ | ⟨hs, ⟨rfl, h0, h1⟩ | ⟨rfl, h0, h1⟩⟩
  · exact opC_nn (by rw [h0]; exact tel_nil) (by rw [h1]; exact tel_nil)
  · exact opC_sn (by rw [h0]; exact tel_own hs) (by rw [h1]; exact tel_nil)
  · exact opC_ns (by rw [h0]; exact tel_nil) (by rw [h1]; exact tel_own hs)
theorem opV_yes (f : List UInt8 × Nat) : opV f true = (f.1, f.1.length) := rfl
theorem opV_no (f : List UInt8 × Nat) : (opV f false).1 = [] := by
  unfold opV
  rw [if_neg (by decide)]
  split
  · rfl
  · rename_i h; exact List.length_eq_zero_iff.1 (by omega)
theorem AFiles.opened {d : Dk} {n : Nat} {c : Int} {s : Sn} (h : AFiles d n c s) (hG : DGood d) (hg : d.gone = false) (hf : d.fuse < 0) (hn : n ≤ 30) : AFiles (opD d n c 2) n c s := by
  obtain ⟨f0, f1⟩ := opD_F (c := c) hG hg hf hn
  rcases h with ⟨rfl, rfl, h0, h1⟩ | ⟨hs, ⟨rfl, h0, h1⟩ | ⟨rfl, h0, h1⟩⟩
  · exact .inl ⟨rfl, rfl, by rw [f0]; exact opV_no _, by rw [f1]; exact opV_no _⟩
  · exact .inr ⟨hs, .inl ⟨rfl, by rw [f0, h0]; rfl, by rw [f1]; exact opV_no _⟩⟩
  · exact .inr ⟨hs, .inr ⟨rfl, by rw [f0]; exact opV_no _, by rw [f1, h1]; rfl⟩⟩
theorem AFiles.nw {d : Dk} {n : Nat} {c : Int} {s : Sn} (h : AFiles d n c s) : (if c < 0 then sn0 else s) = s := by
  rcases h with ⟨rfl, rfl, _⟩ | ⟨_, ⟨rfl, _⟩ | ⟨rfl, _⟩⟩ <;> rfl
theorem AFiles.len {d : Dk} {n : Nat} {c : Int} {s : Sn} (h : AFiles d n c s) : s.b.length ≤ 524288 ∧ s.i ≤ 4611686018427387904 := by
  rcases h with ⟨rfl, rfl, _⟩ | ⟨hs, _⟩
  · exact ⟨Nat.zero_le _, Nat.zero_le _⟩
  · unfold snE at hs
    split at hs
    · cases hs
    · split at hs
      · cases hs
      · omega
theorem sn_lt {i t : Nat} {b : List UInt8} (h : snE i t b = 0) : i ≤ 4611686018427387904 ∧ t ≤ 4611686018427387904 ∧ b.length ≤ 524288 := by
  unfold snE at h
  split at h
  · cases h
  · split at h
    · cases h
    · omega
theorem AFiles.c3 {d : Dk} {n : Nat} {c : Int} {s : Sn} (h : AFiles d n c s) : c = -1 ∨ c = 0 ∨ c = 1 := by
  rcases h with ⟨rfl, _⟩ | ⟨_, ⟨rfl, _⟩ | ⟨rfl, _⟩⟩ <;> simp
/-- what is saved is there -/
theorem AFiles.saved {d : Dk} {n : Nat} {c : Int} {s x : Sn} (h : AFiles d n c s) (hg : d.gone = false) (hf : d.fuse < 0) (hn : n ≤ 30) (hx : snE x.i x.t x.b = 0) :
    (saP ⟨(n : Int), c, s, false⟩ d x).1 = true ∧ (saP ⟨(n : Int), c, s, false⟩ d x).2.gone = false ∧ (saP ⟨(n : Int), c, s, false⟩ d x).2.fuse = d.fuse ∧ AFiles (saP ⟨(n : Int), c, s, false⟩ d x).2 n (saTo ⟨(n : Int), c, s, false⟩) x ∧ (saP ⟨(n : Int), c, s, false⟩ d x).2.calls ≤ d.calls + 4 ∧ (DGood d → DGood (saP ⟨(n : Int), c, s, false⟩ d x).2) := by
  have hl := snB_len (i := x.i) (t := x.t) (b := x.b) (by have := sn_lt hx; omega) (by have := sn_lt hx; omega) (sn_lt hx).2.2
  have key : ∀ to : Int, to = 0 ∨ to = 1 → (svP d ((n : Int) + to) ((n : Int) + (1 - to)) (snB x.i x.t x.b)).1 = true ∧ (svP d ((n : Int) + to) ((n : Int) + (1 - to)) (snB x.i x.t x.b)).2.gone = false ∧ (svP d ((n : Int) + to) ((n : Int) + (1 - to)) (snB x.i x.t x.b)).2.fuse = d.fuse ∧ AFiles (svP d ((n : Int) + to) ((n : Int) + (1 - to)) (snB x.i x.t x.b)).2 n to x ∧ (svP d ((n : Int) + to) ((n : Int) + (1 - to)) (snB x.i x.t x.b)).2.calls ≤ d.calls + 4 ∧ (DGood d → DGood (svP d ((n : Int) + to) ((n : Int) + (1 - to)) (snB x.i x.t x.b)).2) := by
    intro to hto
    obtain ⟨r1, r2, r3, r4, r5, r6⟩ := sv_run (d := d) (n := (n : Int) + to) (old := (n : Int) + (1 - to)) (ys := snB x.i x.t x.b) hg hf (by omega) (by omega) (by omega) hl.1
    refine ⟨r1, r2, r3, .inr ⟨hx, ?_⟩, ?_, ?_⟩
    · rcases hto with rfl | rfl
      · rw [show ((n : Int) + 0).toNat = n by omega] at r4
        rw [show ((n : Int) + (1 - 0)).toNat = n + 1 by omega] at r5
        exact .inl ⟨rfl, r4, by rw [r5]⟩
      · rw [show ((n : Int) + 1).toNat = n + 1 by omega] at r4
        rw [show ((n : Int) + (1 - 1)).toNat = n by omega] at r5
        exact .inr ⟨rfl, by rw [r5], r4⟩
    · rw [r6]
      exact sv_cal.2.2.2
    · intro hG
      rw [r6]
      exact (sv_good hG).2.2.2
  unfold saP
  have hto2 : saTo ⟨(n : Int), c, s, false⟩ = 0 ∨ saTo ⟨(n : Int), c, s, false⟩ = 1 := by unfold saTo; split <;> simp
  exact key _ hto2
end Go.Proofs.Ytlppgpidakfnlaa
