/- Wherever the power goes: what is opened behind the crash: the walk. -/
import Derived.Test.YtlppgpidakfnlaaAu
namespace Go.Proofs.Ytlppgpidakfnlaa
open Go Go.RowKit Go.Lib
variable {W : World}
section
variable {d : Dk}
theorem run_pos {i : Int} {F : Nat → List UInt8 × Nat} (hg : d.gone = false) (hf : 0 < d.fuse) (hi : 0 ≤ i ∧ i < 32) : tnE d i 0 = 0 ∧ (tnD d i 0 F).F = F ∧ (tnD d i 0 F).gone = false ∧ (tnD d i 0 F).fuse = d.fuse - 1 := by
  obtain ⟨h1, h2, _⟩ := tn_ok (F := F) (i := i) (c := 0) hg hi rfl (by omega)
  rw [h2]
  exact ⟨h1, rfl, decide_eq_false (by omega), (by show (if 0 < d.fuse then _ else _) = _; rw [if_pos hf])⟩
theorem run_zero {i : Int} {F : Nat → List UInt8 × Nat} (hg : d.gone = false) (hf : d.fuse = 0) (hi : 0 ≤ i ∧ i < 32) : tnE d i 0 = 70 ∧ (tnD d i 0 F).F = d.F ∧ (tnD d i 0 F).gone = true := by
  obtain ⟨h1, h2, _⟩ := tn_fuse (F := F) (i := i) (c := 0) hg hi rfl hf
  rw [h2]
  exact ⟨h1, rfl, decide_eq_true hf⟩
theorem apr_pos {i c : Int} {F : Nat → List UInt8 × Nat} (hc : c = 0) (hg : d.gone = false) (hf : 0 < d.fuse) (hi : 0 ≤ i ∧ i < 32) : tnE d i c = 0 ∧ (apD d i c F).F = F ∧ (apD d i c F).gone = false ∧ (apD d i c F).fuse = d.fuse - 1 := by
  obtain ⟨h1, _, h2⟩ := tn_ok (F := F) (i := i) (c := c) hg hi hc (by omega)
  rw [h2]
  exact ⟨h1, rfl, decide_eq_false (by omega), (by show (if 0 < d.fuse then _ else _) = _; rw [if_pos hf])⟩
theorem apr_zero {i c : Int} {F : Nat → List UInt8 × Nat} (hc : c = 0) (hg : d.gone = false) (hf : d.fuse = 0) (hi : 0 ≤ i ∧ i < 32) : tnE d i c = 70 ∧ (apD d i c F).F = F ∧ (apD d i c F).gone = true := by
  obtain ⟨h1, _, h2⟩ := tn_fuse (F := F) (i := i) (c := c) hg hi hc hf
  rw [h2]
  exact ⟨h1, rfl, decide_eq_true hf⟩
/-- saving while the power may go -/
theorem sv_arm {n old : Int} {ys : List UInt8} (hg : d.gone = false) (hf : 0 ≤ d.fuse) (hn : 0 ≤ n ∧ n < 32) (ho : 0 ≤ old ∧ old < 32) (hne : n ≠ old) (hl : ys.length ≤ 1048576) :
    ((svP d n old ys).1 = true ∧ (svP d n old ys).2.gone = false ∧ 0 ≤ (svP d n old ys).2.fuse ∧ (svP d n old ys).2.F n.toNat = (ys, ys.length) ∧ (svP d n old ys).2.F old.toNat = ([], 0)) ∨
    ((svP d n old ys).1 = false ∧ (svP d n old ys).2.gone = true ∧ (svP d n old ys).2.F old.toNat = d.F old.toNat ∧ ((svP d n old ys).2.F n.toNat = d.F n.toNat ∨ ((svP d n old ys).2.F n.toNat).1 = ys)) := by
  rcases Int.lt_or_eq_of_le hf with f0 | f0
  · obtain ⟨e1, f1, g1, u1⟩ := run_pos (F := drF d.F n.toNat) hg f0 hn
    have f1' : (svD1 d n).F = drF d.F n.toNat := f1
    have g1' : (svD1 d n).gone = false := g1
    have u1' : (svD1 d n).fuse = d.fuse - 1 := u1
    have hE : apE (svD1 d n).F n.toNat ys.length = 0 := by
      unfold apE
      rw [f1', if_neg]
      unfold drF
      rw [updF_at]
      show ¬ 1048576 < 0 + ys.length
      omega
    have o1 : (svD1 d n).F old.toNat = d.F old.toNat := by rw [f1']; unfold drF; exact updF_ne (by omega)
    rcases Int.lt_or_eq_of_le (show 0 ≤ (svD1 d n).fuse by omega) with h1 | h1
    · obtain ⟨e2, f2, g2, u2⟩ := apr_pos (d := svD1 d n) (F := apF (svD1 d n).F n.toNat ys) hE g1' h1 hn
      have e2' : svE2 d n ys = 0 := e2
      have f2' : (svD2 d n ys).F = apF (svD1 d n).F n.toNat ys := f2
      have g2' : (svD2 d n ys).gone = false := g2
      have u2' : (svD2 d n ys).fuse = (svD1 d n).fuse - 1 := u2
      have n2 : (svD2 d n ys).F n.toNat = (ys, 0) := by rw [f2', svF2 f1', updF_at]
      have o2 : (svD2 d n ys).F old.toNat = d.F old.toNat := by rw [f2', svF2 f1', updF_ne (by omega), o1]
      rcases Int.lt_or_eq_of_le (show 0 ≤ (svD2 d n ys).fuse by omega) with h2 | h2
      · obtain ⟨e3, f3, g3, u3⟩ := run_pos (d := svD2 d n ys) (F := syF (svD2 d n ys).F n.toNat) g2' h2 hn
        have f3' : (svD3 d n ys).F = syF (svD2 d n ys).F n.toNat := f3
        have g3' : (svD3 d n ys).gone = false := g3
        have u3' : (svD3 d n ys).fuse = (svD2 d n ys).fuse - 1 := u3
        have n3 : (svD3 d n ys).F n.toNat = (ys, ys.length) := by rw [f3']; unfold syF; rw [updF_at, n2]
        have o3 : (svD3 d n ys).F old.toNat = d.F old.toNat := by rw [f3']; unfold syF; rw [updF_ne (by omega), o2]
        rcases Int.lt_or_eq_of_le (show 0 ≤ (svD3 d n ys).fuse by omega) with h3 | h3
        · obtain ⟨e4, f4, g4, u4⟩ := run_pos (d := svD3 d n ys) (F := drF (svD3 d n ys).F old.toNat) g3' h3 ho
          have f4' : (svD4 d n old ys).F = drF (svD3 d n ys).F old.toNat := f4
          have hw : svP d n old ys = (true, svD4 d n old ys) := by rw [svP_4 e1 e2' e3, decide_eq_true e4]
          rw [hw]
          refine .inl ⟨rfl, g4, ?_, ?_, ?_⟩
          · have : (svD4 d n old ys).fuse = (svD3 d n ys).fuse - 1 := u4
            show 0 ≤ (svD4 d n old ys).fuse
            omega
          · show (svD4 d n old ys).F n.toNat = _
            rw [f4']; unfold drF; rw [updF_ne (by omega), n3]
          · show (svD4 d n old ys).F old.toNat = _
            rw [f4']; unfold drF; rw [updF_at]
        · obtain ⟨e4, f4, g4⟩ := run_zero (d := svD3 d n ys) (F := drF (svD3 d n ys).F old.toNat) g3' h3.symm ho
          have f4' : (svD4 d n old ys).F = (svD3 d n ys).F := f4
          have hw : svP d n old ys = (false, svD4 d n old ys) := by rw [svP_4 e1 e2' e3, decide_eq_false (by omega)]
          rw [hw]
          exact .inr ⟨rfl, g4, by show (svD4 d n old ys).F old.toNat = _; rw [f4', o3], .inr (by show ((svD4 d n old ys).F n.toNat).1 = _; rw [f4', n3])⟩
      · obtain ⟨e3, f3, g3⟩ := run_zero (d := svD2 d n ys) (F := syF (svD2 d n ys).F n.toNat) g2' h2.symm hn
        have f3' : (svD3 d n ys).F = (svD2 d n ys).F := f3
        rw [svP_3 e1 e2' (by omega)]
        exact .inr ⟨rfl, g3, by show (svD3 d n ys).F old.toNat = _; rw [f3', o2], .inr (by show ((svD3 d n ys).F n.toNat).1 = _; rw [f3', n2])⟩
    · obtain ⟨e2, f2, g2⟩ := apr_zero (d := svD1 d n) (F := apF (svD1 d n).F n.toNat ys) hE g1' h1.symm hn
      have f2' : (svD2 d n ys).F = apF (svD1 d n).F n.toNat ys := f2
      have e2' : svE2 d n ys = 70 := e2
      rw [svP_2 e1 (by omega)]
      exact .inr ⟨rfl, g2, by show (svD2 d n ys).F old.toNat = _; rw [f2', svF2 f1', updF_ne (by omega), o1], .inr (by show ((svD2 d n ys).F n.toNat).1 = _; rw [f2', svF2 f1', updF_at])⟩
  · obtain ⟨e1, f1, g1⟩ := run_zero (F := drF d.F n.toNat) hg f0.symm hn
    have f1' : (svD1 d n).F = d.F := f1
    rw [svP_1 (by omega)]
    exact .inr ⟨rfl, g1, by show (svD1 d n).F old.toNat = _; rw [f1'], .inl (by show (svD1 d n).F n.toNat = _; rw [f1'])⟩
end
def Oth (f : List UInt8 × Nat) (x : Sn) : Prop := f.1 = [] ∨ f.1 = snB x.i x.t x.b
/-- the power went while x was saved -/
def Half (d : Dk) (c : Int) (s x : Sn) : Prop := snE x.i x.t x.b = 0 ∧ ((c = -1 ∧ s = sn0 ∧ Oth (d.F 0) x ∧ (d.F 1).1 = []) ∨
  (snE s.i s.t s.b = 0 ∧ s.i < x.i ∧ ((c = 0 ∧ d.F 0 = (snB s.i s.t s.b, (snB s.i s.t s.b).length) ∧ Oth (d.F 1) x) ∨ (c = 1 ∧ Oth (d.F 0) x ∧ d.F 1 = (snB s.i s.t s.b, (snB s.i s.t s.b).length)))))
theorem cr_whole {ns : List Int} {d : Dk} {i : Nat} {b : List UInt8} (hi : i < 32) (h : d.F i = (b, b.length)) : (crD ns d).F i = (b, b.length) := by
  rw [crD_at hi, h]
  have hs := crS_le (ns := ns) (i := i) (f := (b, b.length)) (Nat.le_refl _)
  have e : crS ns i (b, b.length) = b.length := by
    have h1 : b.length ≤ crS ns i (b, b.length) := hs.1
    have h2 : crS ns i (b, b.length) ≤ b.length := hs.2
    omega
  unfold crV
  rw [e]
  show (b.take b.length, b.length) = _
  rw [List.take_length]
theorem cr_nil {ns : List Int} {d : Dk} {i : Nat} (hi : i < 32) (h : (d.F i).1 = []) : ((crD ns d).F i).1 = [] := by
  rw [crD_at hi]
  show (d.F i).1.take _ = []
  rw [h, List.take_nil]
theorem cr_oth {ns : List Int} {d : Dk} {i : Nat} {x : Sn} (hi : i < 32) (hG : DGood d) (hx : snE x.i x.t x.b = 0) (h : Oth (d.F i) x) : tel ((crD ns d).F i).1 = none ∨ tel ((crD ns d).F i).1 = some x := by
  rcases h with h | h
  · rw [cr_nil hi h]; exact .inl tel_nil
  · rw [crD_at hi]
    show tel ((d.F i).1.take (crS ns i (d.F i))) = none ∨ tel ((d.F i).1.take (crS ns i (d.F i))) = some x
    rw [h]
    rcases Nat.lt_or_ge (crS ns i (d.F i)) (snB x.i x.t x.b).length with h1 | h1
    · exact .inl (tel_torn hx h1)
    · rw [List.take_of_length_le h1]; exact .inr (tel_own hx)
theorem half_opens {ns : List Int} {d : Dk} {c : Int} {s x : Sn} (hG : DGood d) (h : Half d c s x) : opC (crD ns d) 0 2 = (c, s) ∨ ∃ c', opC (crD ns d) 0 2 = (c', x) ∧ 0 ≤ c' := by
  obtain ⟨hx, ⟨rfl, rfl, h0, h1⟩ | ⟨hs, hlt, ⟨rfl, h0, h1⟩ | ⟨rfl, h0, h1⟩⟩⟩ := h
  · have n1 : tel ((crD ns d).F (0 + 1)).1 = none := by rw [cr_nil (by decide) h1]; exact tel_nil
    rcases cr_oth (ns := ns) (by decide) hG hx h0 with h | h
    · exact .inl (opC_nn h n1)
    · exact .inr ⟨0, opC_sn h n1, by decide⟩
  · have n0 : tel ((crD ns d).F 0).1 = some s := by rw [cr_whole (by decide) h0]; exact tel_own hs
    rcases cr_oth (ns := ns) (by decide) hG hx h1 with h | h
    · exact .inl (opC_sn n0 h)
    · exact .inr ⟨1, opC_lt n0 h hlt, by decide⟩
  · have n1 : tel ((crD ns d).F (0 + 1)).1 = some s := by rw [cr_whole (by decide) h1]; exact tel_own hs
    rcases cr_oth (ns := ns) (by decide) hG hx h0 with h | h
    · exact .inl (opC_ns h n1)
    · exact .inr ⟨0, opC_ge h n1 (by omega), by decide⟩
theorem whole_opens {ns : List Int} {d : Dk} {c : Int} {s : Sn} (h : AFiles d 0 c s) : opC (crD ns d) 0 2 = (c, s) := by
  refine AFiles.opens (d := crD ns d) (n := 0) ?_
  rcases h with ⟨rfl, rfl, h0, h1⟩ | ⟨hs, ⟨rfl, h0, h1⟩ | ⟨rfl, h0, h1⟩⟩
  · exact .inl ⟨rfl, rfl, cr_nil (by decide) h0, cr_nil (by decide) h1⟩
  · exact .inr ⟨hs, .inl ⟨rfl, cr_whole (by decide) h0, cr_nil (by decide) h1⟩⟩
  · exact .inr ⟨hs, .inr ⟨rfl, cr_nil (by decide) h0, cr_whole (by decide) h1⟩⟩
theorem sv_crash {d : Dk} {c : Int} {s x : Sn} (h : AFiles d 0 c s) (hG : DGood d) (hg : d.gone = false) (hf : 0 ≤ d.fuse) :
    (saE ⟨((0 : Nat) : Int), c, s, false⟩ d x ≠ 0 ∧ saA ⟨((0 : Nat) : Int), c, s, false⟩ d x = ⟨((0 : Nat) : Int), c, s, false⟩ ∧ saD ⟨((0 : Nat) : Int), c, s, false⟩ d x = d) ∨
    (saE ⟨((0 : Nat) : Int), c, s, false⟩ d x = 0 ∧ ∃ c2 d2, saA ⟨((0 : Nat) : Int), c, s, false⟩ d x = ⟨((0 : Nat) : Int), c2, x, false⟩ ∧ saD ⟨((0 : Nat) : Int), c, s, false⟩ d x = d2 ∧ DGood d2 ∧ d2.gone = false ∧ 0 ≤ d2.fuse ∧ d2.calls ≤ d.calls + 4 ∧ AFiles d2 0 c2 x ∧ 0 ≤ c2) ∨
    (saE ⟨((0 : Nat) : Int), c, s, false⟩ d x = 70 ∧ ∃ d2, saA ⟨((0 : Nat) : Int), c, s, false⟩ d x = ⟨((0 : Nat) : Int), c, s, true⟩ ∧ saD ⟨((0 : Nat) : Int), c, s, false⟩ d x = d2 ∧ DGood d2 ∧ d2.gone = true ∧ d2.calls ≤ d.calls + 4 ∧ Half d2 c s x) := by
  by_cases h1 : snE x.i x.t x.b = 0
  · by_cases h2 : 0 ≤ c ∧ x.i ≤ s.i
    · obtain ⟨e1, e2, e3⟩ := sa_3 (a := ⟨((0 : Nat) : Int), c, s, false⟩) (d := d) (s := x) rfl h1 h2
      exact .inl ⟨by rw [e1]; decide, e2, e3⟩
    · have hl := snB_len (i := x.i) (t := x.t) (b := x.b) (by have := sn_lt h1; omega) (by have := sn_lt h1; omega) (sn_lt h1).2.2
      have hcal : (saP ⟨((0 : Nat) : Int), c, s, false⟩ d x).2.calls ≤ d.calls + 4 := by
        unfold saP svP
        obtain ⟨k1, k2, k3, k4⟩ := sv_cal (d := d) (n := ((0 : Nat) : Int) + saTo ⟨((0 : Nat) : Int), c, s, false⟩) (old := ((0 : Nat) : Int) + (1 - saTo ⟨((0 : Nat) : Int), c, s, false⟩)) (ys := snB x.i x.t x.b)
        dsimp only
        split
        · show (svD1 _ _).calls ≤ _; omega
        · split
          · show (svD2 _ _ _).calls ≤ _; omega
          · split
            · show (svD3 _ _ _).calls ≤ _; omega
            · show (svD4 _ _ _ _).calls ≤ _; omega
      have hgood : DGood (saP ⟨((0 : Nat) : Int), c, s, false⟩ d x).2 := by
        unfold saP svP
        obtain ⟨k1, k2, k3, k4⟩ := sv_good (n := ((0 : Nat) : Int) + saTo ⟨((0 : Nat) : Int), c, s, false⟩) (old := ((0 : Nat) : Int) + (1 - saTo ⟨((0 : Nat) : Int), c, s, false⟩)) (ys := snB x.i x.t x.b) hG
        dsimp only
        split
        · exact k1
        · split
          · exact k2
          · split
            · exact k3
            · exact k4
      have hto : (c = 0 → saTo ⟨((0 : Nat) : Int), c, s, false⟩ = 1) ∧ (c ≠ 0 → saTo ⟨((0 : Nat) : Int), c, s, false⟩ = 0) := ⟨fun hh => by unfold saTo; rw [if_pos hh], fun hh => by unfold saTo; rw [if_neg hh]⟩
      obtain ⟨to, hto0⟩ : ∃ y, y = saTo ⟨((0 : Nat) : Int), c, s, false⟩ := ⟨_, rfl⟩
      have h01 : to = 0 ∨ to = 1 := by by_cases hh : c = 0; exact .inr (by rw [hto0]; exact hto.1 hh); exact .inl (by rw [hto0]; exact hto.2 hh)
      have harm := sv_arm (d := d) (n := ((0 : Nat) : Int) + to) (old := ((0 : Nat) : Int) + (1 - to)) (ys := snB x.i x.t x.b) hg hf (by omega) (by omega) (by omega) hl.1
      have hP : saP ⟨((0 : Nat) : Int), c, s, false⟩ d x = svP d (((0 : Nat) : Int) + to) (((0 : Nat) : Int) + (1 - to)) (snB x.i x.t x.b) := by rw [hto0]; rfl
      rw [← hP] at harm
      rcases harm with ⟨r1, r2, r3, r4, r5⟩ | ⟨r1, r2, r4, r5⟩
      · obtain ⟨e1, e2, e3⟩ := sa_5 (a := ⟨((0 : Nat) : Int), c, s, false⟩) (d := d) (s := x) rfl h1 h2 r1
        refine .inr (.inl ⟨e1, _, _, e2, e3, hgood, r2, r3, hcal, .inr ⟨h1, ?_⟩, by rw [← hto0]; omega⟩)
        rw [← hto0]
        rcases h01 with rfl | rfl
        · exact .inl ⟨rfl, r4, congrArg Prod.fst r5⟩
        · exact .inr ⟨rfl, congrArg Prod.fst r5, r4⟩
      · obtain ⟨e1, e2, e3⟩ := sa_4 (a := ⟨((0 : Nat) : Int), c, s, false⟩) (d := d) (s := x) rfl h1 h2 r1
        refine .inr (.inr ⟨e1, _, e2, e3, hgood, r2, hcal, h1, ?_⟩)
        rcases h with ⟨rfl, rfl, q0, q1⟩ | ⟨hs, ⟨rfl, q0, q1⟩ | ⟨rfl, q0, q1⟩⟩
        · obtain rfl : to = 0 := by rw [hto0]; exact hto.2 (by decide)
          refine .inl ⟨rfl, rfl, ?_, (congrArg Prod.fst r4).trans q1⟩
          rcases r5 with r5 | r5
          · exact .inl ((congrArg Prod.fst r5).trans q0)
          · exact .inr r5
        · obtain rfl : to = 1 := by rw [hto0]; exact hto.1 rfl
          refine .inr ⟨hs, by omega, .inl ⟨rfl, r4.trans q0, ?_⟩⟩
          rcases r5 with r5 | r5
          · exact .inl ((congrArg Prod.fst r5).trans q1)
          · exact .inr r5
        · obtain rfl : to = 0 := by rw [hto0]; exact hto.2 (by decide)
          refine .inr ⟨hs, by omega, .inr ⟨rfl, ?_, r4.trans q1⟩⟩
          rcases r5 with r5 | r5
          · exact .inl ((congrArg Prod.fst r5).trans q0)
          · exact .inr r5
  · obtain ⟨e1, e2, e3⟩ := sa_2 (a := ⟨((0 : Nat) : Int), c, s, false⟩) (d := d) (s := x) rfl h1
    exact .inl ⟨by rw [e1]; exact h1, e2, e3⟩
structure BlowV where
  fuse : Int
  keep : Sl Int
instance : Inhabited BlowV := ⟨⟨0, default⟩⟩
def BlowV.cells (x : BlowV) : List Value := [.int .u8 x.fuse, .slice x.keep.A x.keep.l.length x.keep.c]
structure BlowV.Ok (w : World) (x : BlowV) : Prop where
  fuse : 0 ≤ x.fuse ∧ x.fuse < 256
  keep : (Sl.Ok 1 (fun n : Int => [.int .i64 n]) (fun n : Int => -9223372036854775808 ≤ n ∧ n ≤ 9223372036854775807) w) x.keep
set_option maxRecDepth 100000 in
theorem opn_BlowV {H : Type} {enc : TypeId × Value → H} {w : World} : Opn enc Try.prog w 80 BlowV.cells (BlowV.Ok w) := fun _ _ _ h => by
  obtain ⟨parts, rfl, hl, hf⟩ := opn_parts Try.underlying80 (by kernel_rfl) (by kernel_rfl) h
  match parts, hl with
  | [p0, p1], _ =>
    obtain ⟨f0, x0, h0⟩ := hf 0 _ rfl
    obtain ⟨a0, e0, k0⟩ := (opn_u8 Try.underlying5) _ _ _ h0
    replace e0 : p0 = _ := e0
    obtain ⟨f1, x1, h1⟩ := hf 1 _ rfl
    obtain ⟨a1, e1, k1⟩ := (opn_slice (β := Int) (size := 1) Try.underlying26 (by kernel_rfl) (by decide) (opn_i64 Try.underlying3)) _ _ _ h1
    replace e1 : p1 = _ := e1
    subst e0 e1
    exact ⟨⟨a0, a1⟩, by simp [BlowV.cells, Sl.cells], ⟨k0, k1⟩⟩
theorem oc_start : opC D0 0 2 = (-1, sn0) ∧ ∃ d, opD D0 0 (-1) 2 = d ∧ DGood d ∧ d.gone = false ∧ d.calls ≤ 2 ∧ AFiles d 0 (-1) sn0 := by
  obtain ⟨h1, h2, h3, h4⟩ := opD_ok (n := 0) (c := -1) D0_ok.1 D0_ok.2.1 D0_ok.2.2 2
  exact ⟨D0_files.opens, _, rfl, h1, h2, h4, D0_files.opened D0_ok.1 D0_ok.2.1 D0_ok.2.2 (by decide)⟩
theorem DGood.arm {d : Dk} (h : DGood d) {n : Int} (hn : -9223372036854775808 ≤ n ∧ n ≤ 9223372036854775807) : DGood { d with fuse := n } := ⟨h.sync, h.len, hn, h.calls⟩
attribute [local irreducible] blkA rowA rdrA rdO dskA arA
set_option maxHeartbeats 4000000 in
set_option maxRecDepth 100000 in
theorem ArchiveCrash_calls {A : Option Addr} {c0 : Nat} {l : List AOp} {y : BlowV} (hl : RdAO W A l) (hok : ∀ x ∈ l, x.Ok W) (hm : l.length ≤ maxLen) (hy : y.Ok W) : Calls Try.prog 10 #[.slice A l.length c0, .agg y.cells.toArray] W fun e w' => e = .returned (.bool true) ∧ St W w' [] := by
  have hyf := hy.fuse
  have hyk : RdI W .i64 y.keep.A y.keep.l := hy.keep.rd
  have hS := St.init W
  refine calls_of_wpE (args := [_, _]) Try.func10 rfl rfl rfl ?_
  refine c_seq ?_
  refine c_region ?_
  refine t_box (v := (.agg _)) rfl rfl hS (fun g3 w hS => ?_)
  replace hS := hS.recast (show _ = blkA g3 80 y.cells from rfl)
  refine t_q (q_assign) ?_
  refine t_nil ?_
  refine c_seq ?_
  refine c_seq ?_
  refine c_region ?_
  refine t_q (q_mv (.slice _ _ _) rfl) ?_
  refine t_call Try.call31 (few_calls (hl.st hS) hm) rfl ?_
  rintro e w ⟨rfl, hT⟩
  refine ⟨_, rfl, ?_⟩
  replace hS := hS.after hT
  refine t_q (q_not rfl) ?_
  refine t_q (q_mv (.bool _) rfl) ?_
  refine t_case 21 rfl ?_ ?_
  · intro hg2
    refine t_no rfl rfl (by rw [(congrArg not (not_back hg2))]; decide) ?_
    refine t_no rfl rfl (by rw [(congrArg not (not_back hg2))]; decide) ?_
    refine t_no rfl rfl (by rw [(congrArg not (not_back hg2))]; decide) ?_
    refine t_no rfl rfl (by rw [(congrArg not (not_back hg2))]; decide) ?_
    refine t_q (q_pick_t rfl (congrArg not (not_back hg2))) ?_
    refine t_nil ?_
    refine c_cond_t rfl rfl ?_
    refine c_seq ?_
    refine c_region ?_
    refine t_call Try.call26 (alives_calls) rfl ?_
    rintro e w ⟨rfl, hT⟩
    refine ⟨_, rfl, ?_⟩
    replace hS := hS.after hT
    refine t_q (q_as (.bool _) rfl) ?_
    refine t_nil ?_
    refine c_ret ?_
    refine r_one rfl rfl ?_
    exact ⟨rfl, hS.nil⟩
  · intro hg2
    refine t_yes rfl rfl (congrArg not (not_back hg2)) ?_
    refine t_q (q_fieldAddr 1 Try.runUnderlying80 rfl Try.sizeOf26 (by decide) rfl rfl) ?_
    refine t_yes rfl rfl (congrArg not (not_back hg2)) ?_
    refine t_q (q_load1 Try.isAgg26 rfl (hS.cell (by repeat first | exact .here _ _ | assumption | apply Pick.there) rfl)) ?_
    refine t_yes rfl rfl (congrArg not (not_back hg2)) ?_
    refine t_q (q_len_slice Try.runUnderlying26 rfl) ?_
    refine t_yes rfl rfl (congrArg not (not_back hg2)) ?_
    refine t_q (q_gtr rfl rfl) ?_
    refine t_q (q_pick_f rfl (congrArg not (not_back hg2))) ?_
    refine t_nil ?_
    refine c_cond rfl ?_ ?_
    · intro hc5
      have hc5d := of_decide_eq_true hc5
      refine c_seq ?_
      refine c_region ?_
      refine t_call Try.call26 (alives_calls) rfl ?_
      rintro e w ⟨rfl, hT⟩
      refine ⟨_, rfl, ?_⟩
      replace hS := hS.after hT
      refine t_q (q_as (.bool _) rfl) ?_
      refine t_nil ?_
      refine c_ret ?_
      refine r_one rfl rfl ?_
      exact ⟨rfl, hS.nil⟩
    · intro hc5
      have hc5d := of_decide_eq_false hc5
      have hfb : fewB l = true := not_back (by assumption)
      have h40 := few_len hfb
      have hk40 : y.keep.l.length ≤ 40 := by omega
      refine c_skip ?_
      refine c_seq ?_
      refine c_region ?_
      refine t_call Try.call32 (dnew_calls hS) rfl ?_
      rintro e w ⟨gd, rfl, hS⟩
      refine ⟨_, rfl, ?_⟩
      refine t_q (q_as (.pointer _) rfl) ?_
      refine t_nil ?_
      refine c_seq ?_
      refine c_region ?_
      refine t_q (q_mv (.pointer _) rfl) ?_
      refine t_call Try.call33 (open_calls (d := D0) (n := 0) ((hS.pick (A := dskA gd D0) (by repeat first | exact .here _ _ | assumption | apply Pick.there))) (by decide) D0_ok.1 D0_ok.2.1 D0_ok.2.2 (by decide)) rfl ?_
      rintro e w ⟨ga, rfl, hS⟩
      refine ⟨_, rfl, ?_⟩
      obtain ⟨hO, d1, hd1, hG1, hg1, hc1, hF1⟩ := oc_start
      rw [hO] at hS
      rw [hd1] at hS
      refine t_q (q_mv (.tuple _) rfl) ?_
      refine t_q (q_extract rfl rfl) ?_
      refine t_q (q_extract rfl rfl) ?_
      refine t_q (q_as (.pointer _) rfl) ?_
      refine t_q (q_as (.int _ _) rfl) ?_
      refine t_nil ?_
      refine c_seq ?_
      refine c_seq ?_
      refine c_region ?_
      refine t_q (q_mv (.int _ _) rfl) ?_
      refine t_q (q_cast (v' := .bool false) (q_neq rfl rfl) (by rfl)) ?_
      refine t_nil ?_
      refine c_cond_f rfl rfl ?_
      refine c_skip ?_
      refine c_seq ?_
      refine c_region ?_
      refine t_q (q_mv (.pointer _) rfl) ?_
      refine t_q (q_fieldAddr 0 Try.runUnderlying80 rfl Try.sizeOf5 (by decide) rfl rfl) ?_
      refine t_q (q_load1 Try.isAgg5 rfl (hS.cell (by repeat first | exact .here _ _ | assumption | apply Pick.there) rfl)) ?_
      refine t_q (q_rem_n rfl rfl (by omega) (by omega)) ?_
      refine t_q (q_conv_i64 Try.runUnderlying5 Try.runUnderlying3 rfl (by omega)) ?_
      refine t_call Try.call42 (arm_calls (n := y.fuse % 64) hS (by repeat first | exact .here _ _ | assumption | apply Pick.there)) rfl ?_
      rintro e w ⟨rfl, hS⟩
      refine ⟨_, rfl, ?_⟩
      refine t_nil ?_
      refine c_seq ?_
      refine c_region ?_
      refine t_alloc Try.zeroValue50 rfl hS (fun g8 w hS => ?_)
      refine t_alloc Try.zeroValue50 rfl hS (fun g9 w hS => ?_)
      refine t_nil ?_
      refine c_seq ?_
      refine c_region ?_
      refine t_q (q_assign) ?_
      refine t_q (q_assign) ?_
      refine t_nil ?_
      refine c_cut [4, 10, 11, 13, 14, 15, 42, 43, 44, 45, 46, 47, 48, 49, 50, 51, 52, 53, 54, 55, 56, 57, 58, 59, 60, 61, 62, 63, 64, 65, 66, 67, 68, 69, 70, 71, 72, 73, 74] (fun σ w => ∃ (c : Int) (s z : Sn) (d : Dk) (dn : Bool) (Bl : Option Addr) (cl : Nat) (Bn : Option Addr) (cn : Nat), σ 10 = .bool (decide (0 ≤ c)) ∧ σ 11 = .bool dn ∧ DGood d ∧ d.calls ≤ 1000 ∧ (∀ ns, opC (crD ns d) 0 2 = (c, s) ∨ (dn = true ∧ ∃ c', opC (crD ns d) 0 2 = (c', z) ∧ 0 ≤ c')) ∧ (if c < 0 then sn0 else s) = s ∧ (s.b.length ≤ 524288 ∧ z.b.length ≤ 524288) ∧ RdB W Bl s.b ∧ RdB W Bn z.b ∧ St W w [dskA gd d, blkA g8 50 [.int .u64 (s.i : Int), .int .u64 (s.t : Int), .slice Bl s.b.length cl], blkA g9 50 [.int .u64 (z.i : Int), .int .u64 (z.t : Int), .slice Bn z.b.length cn], blkA g3 80 y.cells]) rfl ?_ ?_
      ·
        refine c_seq ?_
        refine c_region ?_
        refine t_q (q_mv (.slice _ _ _) rfl) ?_
        refine t_q (q_len_slice Try.runUnderlying56 rfl) ?_
        refine t_q (q_move) ?_
        refine t_nil ?_
        refine c_block ?_
        refine c_loop [4, 10, 11, 13, 14, 15, 44, 45, 46, 47, 48, 49, 50, 51, 52, 53, 54, 55, 56, 57, 58, 59, 60, 61, 62, 63, 64, 65, 66, 67, 68, 69, 70, 71, 72, 73, 74] (fun k σ w => ∃ (j : Nat) (c : Int) (s : Sn) (d : Dk) (Bl : Option Addr) (cl : Nat), σ 44 = .int .i64 (j : Int) ∧ σ 10 = .bool (decide (0 ≤ c)) ∧ σ 11 = .bool false ∧ j ≤ l.length ∧ l.length - j ≤ k ∧ DGood d ∧ d.gone = false ∧ 0 ≤ d.fuse ∧ d.calls ≤ 8 * (j : Int) + 2 ∧ AFiles d 0 c s ∧ RdB W Bl s.b ∧ s.i < 18446744073709551616 ∧ St W w [arA ga gd ⟨((0 : Nat) : Int), c, s, false⟩, dskA gd d, blkA g8 50 [.int .u64 (s.i : Int), .int .u64 (s.t : Int), .slice Bl s.b.length cl], blkA g9 50 [.int .u64 (sn0.i : Int), .int .u64 (sn0.t : Int), .slice none sn0.b.length 0], blkA g3 80 y.cells]) (l.length) rfl (⟨0, -1, sn0, { d1 with fuse := y.fuse % 64 }, none, 0, rfl, rfl, rfl, by omega, by omega, hG1.arm (by omega), hg1, (by show 0 ≤ y.fuse % 64; omega), (by show d1.calls ≤ _; omega), hF1, Rd.none_ _ _ _ _, by decide, ((((((hS.pick (A := blkA g3 80 y.cells) (by repeat first | exact .here _ _ | assumption | apply Pick.there)).pick (A := blkA g9 50 _) (by repeat first | exact .here _ _ | assumption | apply Pick.there)).pick (A := blkA g8 50 _) (by repeat first | exact .here _ _ | assumption | apply Pick.there)).pick (A := dskA gd _) (by repeat first | exact .here _ _ | assumption | apply Pick.there)).pick (A := arA ga gd _) (by repeat first | exact .here _ _ | assumption | apply Pick.there)))⟩) ?_
        skip
        rintro k σ w ⟨j, c, s, d, Bl, cl, h44, h10, h11, hj, hk, hG, hg, hfu, hdc, hF, hBl, hsi, hS⟩
        refine c_know 44 h44 ?_
        refine c_know 10 h10 ?_
        refine c_know 11 h11 ?_
        clear h44 h10 h11
        refine c_seq ?_
        refine c_region ?_
        refine t_q (q_lss rfl rfl) ?_
        refine t_nil ?_
        refine c_seq ?_
        refine c_cond rfl ?_ ?_
        · intro hc14
          have hc14d := of_decide_eq_true hc14
          refine c_skip ?_
          refine c_seq ?_
          refine c_block ?_
          refine c_seq ?_
          refine c_region ?_
          first | refine t_index_nat Try.runUnderlying56 Try.sizeOf64 (hl.st hS) rfl rfl (by omega) (fun ad15 hl15 hx15 => ?_) | refine t_index Try.runUnderlying56 Try.sizeOf64 (hl.st hS) rfl rfl (by omega) (fun ad15 hl15 hx15 => ?_)
          refine t_q (q_loadN Try.isAgg64 Try.sizeOf64 rfl hl15 hx15) ?_
          refine t_alloc Try.zeroValue64 rfl hS (fun g13 w hS => ?_)
          refine t_store (v := (.agg _)) Try.sizeOf64 hS (by repeat first | exact .here _ _ | assumption | apply Pick.there) rfl rfl rfl rfl rfl rfl (fun w hS => ?_)
          obtain ⟨x, hx⟩ : ∃ x, x = (l.getD j default) := ⟨_, rfl⟩
          replace hS := hS.recast (show blkA g13 64 _ = blkA g13 64 x.cells from by rw [hx]; rfl)
          have hxo : x.Ok W := by rw [hx]; exact hok _ (getD_mem (by omega))
          have hxb : RdB W x.s.body.A x.s.body.l := hxo.s.body.rd
          have hx5 : x.s.body.l.length ≤ 5000 := by rw [hx]; exact few_at hfb (by omega)
          have hxc : x.s.body.l.length ≤ x.s.body.c ∧ x.s.body.l.length ≤ 9223372036854775807 := ⟨hxo.s.body.le.1, by omega⟩
          obtain ⟨z0, hz0⟩ : ∃ z0 : Sn, z0 = (⟨opI x s.i, opT x, x.s.body.l⟩ : Sn) := ⟨_, rfl⟩
          obtain ⟨s0, hs0⟩ : ∃ s0 : Sn, s0 = s := ⟨_, rfl⟩
          have hcr := sv_crash (x := z0) hF hG hg hfu
          refine t_nil ?_
          refine c_seq ?_
          refine c_region ?_
          refine t_q (q_load_blk Try.isAgg64 Try.sizeOf64 rfl (hS.blk (by repeat first | exact .here _ _ | assumption | apply Pick.there)) rfl) ?_
          refine t_q (q_fieldAddr 0 Try.runUnderlying50 rfl Try.sizeOf43 (by decide) rfl rfl) ?_
          refine t_q (q_load1 Try.isAgg43 rfl (hS.cell (by repeat first | exact .here _ _ | assumption | apply Pick.there) rfl)) ?_
          refine t_call Try.call34 (snap_calls hxo hsi) rfl ?_
          rintro e w ⟨rfl, hT⟩
          refine ⟨_, rfl, ?_⟩
          replace hS := hS.after hT
          refine t_alloc Try.zeroValue45 rfl hS (fun g14 w hS => ?_)
          refine t_store (v := (.agg _)) Try.sizeOf45 hS (by repeat first | exact .here _ _ | assumption | apply Pick.there) rfl rfl rfl rfl rfl rfl (fun w hS => ?_)
          replace hS := hS.recast (show blkA g14 45 _ = blkA g14 45 [.int .u64 (z0.i : Int), .int .u64 (z0.t : Int), .slice x.s.body.A z0.b.length x.s.body.c] from by rw [hz0]; rfl)
          refine t_nil ?_
          refine c_seq ?_
          refine c_region ?_
          refine t_q (q_mv (.pointer _) rfl) ?_
          refine t_q (q_cast (v' := .agg #[.int .u64 (opI x s.i : Int), .int .u64 (opT x : Int), .slice x.s.body.A x.s.body.l.length x.s.body.c]) (q_load_blk Try.isAgg45 Try.sizeOf45 rfl (hS.blk (by repeat first | exact .here _ _ | assumption | apply Pick.there)) rfl) (by rw [hz0])) ?_
          refine t_call Try.call35 (save_calls (a := ⟨((0 : Nat) : Int), c, s, false⟩) (d := d) (i := opI x s.i) (t := opT x) (bs := x.s.body.l) (((hS.pick (A := dskA gd d) (by repeat first | exact .here _ _ | assumption | apply Pick.there)).pick (A := arA ga gd ⟨((0 : Nat) : Int), c, s, false⟩) (by repeat first | exact .here _ _ | assumption | apply Pick.there))) (fun w h => Rd.st hxb h) hxc (op_good (now := s.i) hxo).1 (op_good (now := s.i) hxo).2 hG (by omega) ⟨by show (0 : Int) ≤ ((0 : Nat) : Int); decide, by show ((0 : Nat) : Int) ≤ 30; decide⟩) rfl ?_
          rintro e w ⟨rfl, hS⟩
          refine ⟨_, rfl, ?_⟩
          rw [← hz0] at hS
          rw [← hz0]
          obtain ⟨F0, hF0⟩ : ∃ y, y = saE ⟨((0 : Nat) : Int), c, s, false⟩ d z0 := ⟨_, rfl⟩
          rw [← hF0]
          rw [← hF0] at hcr
          refine t_q (q_as (.int _ _) rfl) ?_
          refine t_nil ?_
          refine c_cut [10, 55, 56, 57] (fun σ w => ∃ (c : Int) (s : Sn) (d : Dk) (br : Bool) (Bl : Option Addr) (cl : Nat), σ 10 = .bool (decide (0 ≤ c)) ∧ DGood d ∧ d.gone = br ∧ (br = true → F0 = 70) ∧ d.calls ≤ 8 * (j : Int) + 6 ∧ (br = false → 0 ≤ d.fuse ∧ AFiles d 0 c s) ∧ (br = true → Half d c s z0) ∧ (if c < 0 then sn0 else s) = s ∧ (s.b.length ≤ 524288 ∧ s.i < 18446744073709551616) ∧ RdB W Bl s.b ∧ St W w [arA ga gd ⟨((0 : Nat) : Int), c, s, br⟩, dskA gd d, blkA g8 50 [.int .u64 (s.i : Int), .int .u64 (s.t : Int), .slice Bl s.b.length cl], blkA g9 50 [.int .u64 (sn0.i : Int), .int .u64 (sn0.t : Int), .slice none sn0.b.length 0], blkA g14 45 [.int .u64 (z0.i : Int), .int .u64 (z0.t : Int), .slice x.s.body.A z0.b.length x.s.body.c], blkA g3 80 y.cells]) rfl ?_ ?_
          ·
            refine c_seq ?_
            refine c_region ?_
            refine t_q (q_mv (.int _ _) rfl) ?_
            refine t_q (q_eql rfl rfl) ?_
            refine t_nil ?_
            refine c_cond rfl ?_ ?_
            · intro hc19
              have hc19d := of_decide_eq_true hc19
              refine c_region ?_
              refine t_q (q_load_blk Try.isAgg45 Try.sizeOf45 rfl (hS.blk (by repeat first | exact .here _ _ | assumption | apply Pick.there)) rfl) ?_
              refine t_store (v := (.agg _)) Try.sizeOf50 hS (by repeat first | exact .here _ _ | assumption | apply Pick.there) rfl rfl rfl rfl rfl rfl (fun w hS => ?_)
              replace hS := hS.recast (show blkA g8 50 _ = blkA g8 50 [.int .u64 (z0.i : Int), .int .u64 (z0.t : Int), .slice x.s.body.A z0.b.length x.s.body.c] from rfl)
              refine t_q (q_assign) ?_
              refine t_nil ?_
              rcases hcr with ⟨a1, a2, a3⟩ | ⟨b1, c2, d2, e2, e3, hG2, hg2, hf2, hc2, hF2, hp2⟩ | ⟨b1, d2, e2, e3, hG2, hg2, hc2, hF2⟩
              · first
                  | (exfalso; omega)
                  | (rw [a2, a3] at hS
                     exact ⟨c, s, d, false, Bl, cl, rfl, hG, hg, (fun h => by cases h), by omega, (fun _ => ⟨hfu, hF⟩), (fun h => by cases h), hF.nw, ⟨hF.len.1, hsi⟩, hBl, (((((((hS.pick (A := blkA g3 80 y.cells) (by repeat first | exact .here _ _ | assumption | apply Pick.there)).pick (A := blkA g14 45 _) (by repeat first | exact .here _ _ | assumption | apply Pick.there)).pick (A := blkA g9 50 _) (by repeat first | exact .here _ _ | assumption | apply Pick.there)).pick (A := blkA g8 50 _) (by repeat first | exact .here _ _ | assumption | apply Pick.there)).pick (A := dskA gd d) (by repeat first | exact .here _ _ | assumption | apply Pick.there)).pick (A := arA ga gd ⟨((0 : Nat) : Int), c, s, false⟩) (by repeat first | exact .here _ _ | assumption | apply Pick.there))).front6⟩)
              · first
                  | (exfalso; omega)
                  | (rw [e2, e3] at hS
                     exact ⟨c2, z0, d2, false, x.s.body.A, x.s.body.c, (congrArg Value.bool (decide_eq_true hp2)).symm, hG2, hg2, (fun h => by cases h), by omega, (fun _ => ⟨hf2, hF2⟩), (fun h => by cases h), hF2.nw, ⟨hF2.len.1, by rw [hz0]; exact (op_good (now := s.i) hxo).1⟩, (by rw [hz0]; exact hxb), (((((((hS.pick (A := blkA g3 80 y.cells) (by repeat first | exact .here _ _ | assumption | apply Pick.there)).pick (A := blkA g14 45 _) (by repeat first | exact .here _ _ | assumption | apply Pick.there)).pick (A := blkA g9 50 _) (by repeat first | exact .here _ _ | assumption | apply Pick.there)).pick (A := blkA g8 50 _) (by repeat first | exact .here _ _ | assumption | apply Pick.there)).pick (A := dskA gd d2) (by repeat first | exact .here _ _ | assumption | apply Pick.there)).pick (A := arA ga gd ⟨((0 : Nat) : Int), c2, z0, false⟩) (by repeat first | exact .here _ _ | assumption | apply Pick.there))).front6⟩)
              · first
                  | (exfalso; omega)
                  | (rw [e2, e3] at hS
                     exact ⟨c, s, d2, true, Bl, cl, rfl, hG2, hg2, (fun _ => b1), by omega, (fun h => by cases h), (fun _ => hF2), hF.nw, ⟨hF.len.1, hsi⟩, hBl, (((((((hS.pick (A := blkA g3 80 y.cells) (by repeat first | exact .here _ _ | assumption | apply Pick.there)).pick (A := blkA g14 45 _) (by repeat first | exact .here _ _ | assumption | apply Pick.there)).pick (A := blkA g9 50 _) (by repeat first | exact .here _ _ | assumption | apply Pick.there)).pick (A := blkA g8 50 _) (by repeat first | exact .here _ _ | assumption | apply Pick.there)).pick (A := dskA gd d2) (by repeat first | exact .here _ _ | assumption | apply Pick.there)).pick (A := arA ga gd ⟨((0 : Nat) : Int), c, s, true⟩) (by repeat first | exact .here _ _ | assumption | apply Pick.there))).front6⟩)
            · intro hc19
              have hc19d := of_decide_eq_false hc19
              refine c_skip ?_
              rcases hcr with ⟨a1, a2, a3⟩ | ⟨b1, c2, d2, e2, e3, hG2, hg2, hf2, hc2, hF2, hp2⟩ | ⟨b1, d2, e2, e3, hG2, hg2, hc2, hF2⟩
              · first
                  | (exfalso; omega)
                  | (rw [a2, a3] at hS
                     exact ⟨c, s, d, false, Bl, cl, rfl, hG, hg, (fun h => by cases h), by omega, (fun _ => ⟨hfu, hF⟩), (fun h => by cases h), hF.nw, ⟨hF.len.1, hsi⟩, hBl, (((((((hS.pick (A := blkA g3 80 y.cells) (by repeat first | exact .here _ _ | assumption | apply Pick.there)).pick (A := blkA g14 45 _) (by repeat first | exact .here _ _ | assumption | apply Pick.there)).pick (A := blkA g9 50 _) (by repeat first | exact .here _ _ | assumption | apply Pick.there)).pick (A := blkA g8 50 _) (by repeat first | exact .here _ _ | assumption | apply Pick.there)).pick (A := dskA gd d) (by repeat first | exact .here _ _ | assumption | apply Pick.there)).pick (A := arA ga gd ⟨((0 : Nat) : Int), c, s, false⟩) (by repeat first | exact .here _ _ | assumption | apply Pick.there))).front6⟩)
              · first
                  | (exfalso; omega)
                  | (rw [e2, e3] at hS
                     exact ⟨c2, z0, d2, false, x.s.body.A, x.s.body.c, (congrArg Value.bool (decide_eq_true hp2)).symm, hG2, hg2, (fun h => by cases h), by omega, (fun _ => ⟨hf2, hF2⟩), (fun h => by cases h), hF2.nw, ⟨hF2.len.1, by rw [hz0]; exact (op_good (now := s.i) hxo).1⟩, (by rw [hz0]; exact hxb), (((((((hS.pick (A := blkA g3 80 y.cells) (by repeat first | exact .here _ _ | assumption | apply Pick.there)).pick (A := blkA g14 45 _) (by repeat first | exact .here _ _ | assumption | apply Pick.there)).pick (A := blkA g9 50 _) (by repeat first | exact .here _ _ | assumption | apply Pick.there)).pick (A := blkA g8 50 _) (by repeat first | exact .here _ _ | assumption | apply Pick.there)).pick (A := dskA gd d2) (by repeat first | exact .here _ _ | assumption | apply Pick.there)).pick (A := arA ga gd ⟨((0 : Nat) : Int), c2, z0, false⟩) (by repeat first | exact .here _ _ | assumption | apply Pick.there))).front6⟩)
              · first
                  | (exfalso; omega)
                  | (rw [e2, e3] at hS
                     exact ⟨c, s, d2, true, Bl, cl, rfl, hG2, hg2, (fun _ => b1), by omega, (fun h => by cases h), (fun _ => hF2), hF.nw, ⟨hF.len.1, hsi⟩, hBl, (((((((hS.pick (A := blkA g3 80 y.cells) (by repeat first | exact .here _ _ | assumption | apply Pick.there)).pick (A := blkA g14 45 _) (by repeat first | exact .here _ _ | assumption | apply Pick.there)).pick (A := blkA g9 50 _) (by repeat first | exact .here _ _ | assumption | apply Pick.there)).pick (A := blkA g8 50 _) (by repeat first | exact .here _ _ | assumption | apply Pick.there)).pick (A := dskA gd d2) (by repeat first | exact .here _ _ | assumption | apply Pick.there)).pick (A := arA ga gd ⟨((0 : Nat) : Int), c, s, true⟩) (by repeat first | exact .here _ _ | assumption | apply Pick.there))).front6⟩)
          ·
            clear hcr
            rintro σ w ⟨c, s, d, br, Bl, cl, h10, hG, hgb, h70, hdc, hwf, hhf, hnw, hln, hBl, hS⟩
            refine c_know 10 h10 ?_
            refine c_seq ?_
            refine c_region ?_
            refine t_q (q_mv (.pointer _) rfl) ?_
            refine t_call Try.call44 (down_calls hS (by repeat first | exact .here _ _ | assumption | apply Pick.there)) rfl ?_
            rintro e w ⟨rfl, hS⟩
            refine ⟨_, rfl, ?_⟩
            refine t_nil ?_
            refine c_cond rfl ?_ ?_
            · intro hc21
              have hbr : br = true := hgb.symm.trans hc21
              subst hbr
              have hbr : true = true := rfl
              have hH := hhf rfl
              refine c_seq ?_
              refine c_region ?_
              refine t_q (q_load_blk Try.isAgg45 Try.sizeOf45 rfl (hS.blk (by repeat first | exact .here _ _ | assumption | apply Pick.there)) rfl) ?_
              refine t_store (v := (.agg _)) Try.sizeOf50 hS (by repeat first | exact .here _ _ | assumption | apply Pick.there) rfl rfl rfl rfl rfl rfl (fun w hS => ?_)
              replace hS := hS.recast (show blkA g9 50 _ = blkA g9 50 [.int .u64 (z0.i : Int), .int .u64 (z0.t : Int), .slice x.s.body.A z0.b.length x.s.body.c] from rfl)
              refine t_q (q_assign) ?_
              refine t_nil ?_
              refine c_seq ?_
              refine c_seq ?_
              refine c_region ?_
              refine t_q (q_mv (.int _ _) rfl) ?_
              refine t_q (q_cast (v' := .bool false) (q_neq rfl rfl) (by rw [h70 hbr]; rfl)) ?_
              refine t_q (q_mv (.bool _) rfl) ?_
              refine t_yes rfl rfl rfl ?_
              refine t_q (q_mv (.pointer _) rfl) ?_
              refine t_yes rfl rfl rfl ?_
              refine t_call Try.call37 (broken_calls hS (by repeat first | exact .here _ _ | assumption | apply Pick.there)) rfl ?_
              rintro e w ⟨rfl, hS⟩
              refine ⟨_, rfl, ?_⟩
              refine t_yes rfl rfl rfl ?_
              refine t_q (q_cast (v' := .bool false) (q_not rfl) (by rfl)) ?_
              refine t_q (q_pick_f rfl rfl) ?_
              refine t_q (q_mv (.bool _) rfl) ?_
              refine t_yes rfl rfl rfl ?_
              refine t_q (q_mv (.pointer _) rfl) ?_
              refine t_yes rfl rfl rfl ?_
              refine t_q (q_load_blk Try.isAgg45 Try.sizeOf45 rfl (hS.blk (by repeat first | exact .here _ _ | assumption | apply Pick.there)) rfl) ?_
              refine t_yes rfl rfl rfl ?_
              refine t_call Try.call35 (save_calls (a := ⟨((0 : Nat) : Int), c, s, true⟩) (d := d) (i := z0.i) (t := z0.t) (bs := z0.b) (((hS.pick (A := dskA gd d) (by repeat first | exact .here _ _ | assumption | apply Pick.there)).pick (A := arA ga gd ⟨((0 : Nat) : Int), c, s, true⟩) (by repeat first | exact .here _ _ | assumption | apply Pick.there))) (fun w h => Rd.st (show RdB W x.s.body.A z0.b by rw [hz0]; exact hxb) h) (by rw [hz0]; exact hxc) (by rw [hz0]; exact (op_good hxo).1) (by rw [hz0]; exact (op_good (now := 0) hxo).2) hG (by omega) ⟨by show (0 : Int) ≤ ((0 : Nat) : Int); decide, by show ((0 : Nat) : Int) ≤ 30; decide⟩) rfl ?_
              rintro e w ⟨rfl, hS⟩
              refine ⟨_, rfl, ?_⟩
              obtain ⟨e1, e2, e3⟩ := sa_1 (a := ⟨((0 : Nat) : Int), c, s, true⟩) (d := d) (s := ⟨z0.i, z0.t, z0.b⟩) rfl
              rw [e1]
              rw [e2, e3] at hS
              refine t_yes rfl rfl rfl ?_
              refine t_q (q_cast (v' := .bool false) (q_neq rfl rfl) (by rfl)) ?_
              refine t_q (q_pick_f rfl rfl) ?_
              refine t_nil ?_
              refine c_cond_f rfl rfl ?_
              refine c_skip ?_
              refine c_exit ?_
              refine ite_f (by decide) ?_
              refine ite_t rfl ?_
              first
                | exact ⟨c, s, sn0, d, false, Bl, cl, none, 0, rfl, rfl, hG, by omega, (fun ns => .inl (whole_opens hF)), hF.nw, ⟨hF.len.1, Nat.zero_le _⟩, hBl, Rd.none_ _ _ _ _, (((((hS.pick (A := blkA g3 80 y.cells) (by repeat first | exact .here _ _ | assumption | apply Pick.there)).pick (A := blkA g9 50 _) (by repeat first | exact .here _ _ | assumption | apply Pick.there)).pick (A := blkA g8 50 _) (by repeat first | exact .here _ _ | assumption | apply Pick.there)).pick (A := dskA gd d) (by repeat first | exact .here _ _ | assumption | apply Pick.there))).front4⟩
                | exact ⟨c, s, z0, d, true, Bl, cl, x.s.body.A, x.s.body.c, rfl, rfl, hG, by omega, (fun ns => (half_opens hG hH).imp id fun h => ⟨rfl, h⟩), hnw, ⟨hln.1, by rw [hz0]; show x.s.body.l.length ≤ _; omega⟩, hBl, (by rw [hz0]; exact hxb), (((((hS.pick (A := blkA g3 80 y.cells) (by repeat first | exact .here _ _ | assumption | apply Pick.there)).pick (A := blkA g9 50 _) (by repeat first | exact .here _ _ | assumption | apply Pick.there)).pick (A := blkA g8 50 _) (by repeat first | exact .here _ _ | assumption | apply Pick.there)).pick (A := dskA gd d) (by repeat first | exact .here _ _ | assumption | apply Pick.there))).front4⟩
            · intro hc21
              have hbr : br = false := hgb.symm.trans hc21
              subst hbr
              obtain ⟨hfu2, hF2⟩ := hwf rfl
              refine c_skip ?_
              refine c_region ?_
              refine t_q (q_add_i64 rfl rfl (by omega)) ?_
              refine t_q (q_mv (.int _ _) rfl) ?_
              refine t_nil ?_
              exact ⟨k - 1, by omega, j + 1, c, s, d, Bl, cl, rfl, rfl, rfl, by omega, by omega, hG, hgb, hfu2, by omega, hF2, hBl, hln.2, ((((((hS.pick (A := blkA g3 80 y.cells) (by repeat first | exact .here _ _ | assumption | apply Pick.there)).pick (A := blkA g9 50 _) (by repeat first | exact .here _ _ | assumption | apply Pick.there)).pick (A := blkA g8 50 _) (by repeat first | exact .here _ _ | assumption | apply Pick.there)).pick (A := dskA gd d) (by repeat first | exact .here _ _ | assumption | apply Pick.there)).pick (A := arA ga gd ⟨((0 : Nat) : Int), c, s, false⟩) (by repeat first | exact .here _ _ | assumption | apply Pick.there))).front5⟩
        · intro hc14
          have hc14d := of_decide_eq_false hc14
          refine c_exit ?_
          refine ite_t rfl ?_
          first
            | exact ⟨c, s, sn0, d, false, Bl, cl, none, 0, rfl, rfl, hG, by omega, (fun ns => .inl (whole_opens hF)), hF.nw, ⟨hF.len.1, Nat.zero_le _⟩, hBl, Rd.none_ _ _ _ _, (((((hS.pick (A := blkA g3 80 y.cells) (by repeat first | exact .here _ _ | assumption | apply Pick.there)).pick (A := blkA g9 50 _) (by repeat first | exact .here _ _ | assumption | apply Pick.there)).pick (A := blkA g8 50 _) (by repeat first | exact .here _ _ | assumption | apply Pick.there)).pick (A := dskA gd d) (by repeat first | exact .here _ _ | assumption | apply Pick.there))).front4⟩
            | exact ⟨c, s, z0, d, true, Bl, cl, x.s.body.A, x.s.body.c, rfl, rfl, hG, by omega, (fun ns => (half_opens hG hH).imp id fun h => ⟨rfl, h⟩), hnw, ⟨hln.1, by rw [hz0]; show x.s.body.l.length ≤ _; omega⟩, hBl, (by rw [hz0]; exact hxb), (((((hS.pick (A := blkA g3 80 y.cells) (by repeat first | exact .here _ _ | assumption | apply Pick.there)).pick (A := blkA g9 50 _) (by repeat first | exact .here _ _ | assumption | apply Pick.there)).pick (A := blkA g8 50 _) (by repeat first | exact .here _ _ | assumption | apply Pick.there)).pick (A := dskA gd d) (by repeat first | exact .here _ _ | assumption | apply Pick.there))).front4⟩
      ·
        rintro σ w ⟨c, s, z, d, dn, Bl, cl, Bn, cn, h10, h11, hG, hdc, hO2, hnw, hln, hBl, hBn, hS⟩
        refine c_know 10 h10 ?_
        refine c_know 11 h11 ?_
        refine c_seq ?_
        refine c_region ?_
        refine t_q (q_mv (.pointer _) rfl) ?_
        refine t_q (q_fieldAddr 1 Try.runUnderlying80 rfl Try.sizeOf26 (by decide) rfl rfl) ?_
        refine t_q (q_load1 Try.isAgg26 rfl (hS.cell (by repeat first | exact .here _ _ | assumption | apply Pick.there) rfl)) ?_
        refine t_call Try.call45 (crash_calls (ns := y.keep.l) hS (by repeat first | exact .here _ _ | assumption | apply Pick.there) hG (fun w h => Rd.st hyk h) (by omega)) rfl ?_
        rintro e w ⟨rfl, hS⟩
        refine ⟨_, rfl, ?_⟩
        refine t_nil ?_
        refine c_seq ?_
        refine c_region ?_
        refine t_q (q_mv (.pointer _) rfl) ?_
        refine t_call Try.call33 (open_calls (d := crD y.keep.l d) (n := 0) ((hS.pick (A := dskA gd _) (by repeat first | exact .here _ _ | assumption | apply Pick.there))) (by decide) (hG.crash _) (by rfl) (by show (-1 : Int) < 0; decide) (by show d.calls ≤ _; omega)) rfl ?_
        rintro e w ⟨ga1, rfl, hS⟩
        refine ⟨_, rfl, ?_⟩
        obtain ⟨AO, hAO⟩ : ∃ y1 : Ar, y1 = ⟨((0 : Nat) : Int), (opC (crD y.keep.l d) 0 2).1, (opC (crD y.keep.l d) 0 2).2, false⟩ := ⟨_, rfl⟩
        rw [← hAO] at hS
        have hcase := hO2 y.keep.l
        have hAl : AO.s.b.length ≤ 524288 := by
          rw [hAO]
          rcases hcase with h | ⟨_, c', h, _⟩ <;> rw [h]
          · exact hln.1
          · exact hln.2
        refine t_q (q_mv (.tuple _) rfl) ?_
        refine t_q (q_extract rfl rfl) ?_
        refine t_q (q_extract rfl rfl) ?_
        refine t_q (q_as (.pointer _) rfl) ?_
        refine t_q (q_as (.int _ _) rfl) ?_
        refine t_nil ?_
        refine c_seq ?_
        refine c_seq ?_
        refine c_region ?_
        refine t_q (q_mv (.int _ _) rfl) ?_
        refine t_q (q_cast (v' := .bool false) (q_neq rfl rfl) (by rfl)) ?_
        refine t_nil ?_
        refine c_cond_f rfl rfl ?_
        refine c_skip ?_
        refine c_seq ?_
        refine c_region ?_
        refine t_q (q_mv (.pointer _) rfl) ?_
        refine t_call Try.call36 (newest_calls hS (by repeat first | exact .here _ _ | assumption | apply Pick.there) (by omega)) rfl ?_
        rintro e w ⟨A88, c88, rfl, hS⟩
        refine ⟨_, rfl, ?_⟩
        refine t_q (q_mv (.tuple _) rfl) ?_
        refine t_q (q_extract rfl rfl) ?_
        refine t_q (q_extract rfl rfl) ?_
        refine t_alloc Try.zeroValue45 rfl hS (fun g16 w hS => ?_)
        refine t_store (v := (.agg _)) Try.sizeOf45 hS (by repeat first | exact .here _ _ | assumption | apply Pick.there) rfl rfl rfl rfl rfl rfl (fun w hS => ?_)
        replace hS := hS.recast (show blkA g16 45 _ = blkA g16 45 [.int .u64 ((nwS AO).i : Int), .int .u64 ((nwS AO).t : Int), .slice A88 (nwS AO).b.length c88] from rfl)
        refine t_q (q_as (.bool _) rfl) ?_
        refine t_nil ?_
        refine c_seq ?_
        refine c_seq ?_
        refine c_region ?_
        refine t_q (q_mv (.bool _) rfl) ?_
        refine t_q (q_mv (.bool _) rfl) ?_
        refine t_case 92 rfl ?_ ?_
        · intro hg34
          refine t_yes rfl rfl hg34 ?_
          refine t_q (q_mv (.bool _) rfl) ?_
          refine t_q (q_pick_t rfl hg34) ?_
          refine t_q (q_mv (.bool _) rfl) ?_
          refine t_case 95 rfl ?_ ?_
          · intro hg35
            refine t_yes rfl rfl hg35 ?_
            refine t_q (q_load_blk Try.isAgg45 Try.sizeOf45 rfl (hS.blk (by repeat first | exact .here _ _ | assumption | apply Pick.there)) rfl) ?_
            refine t_yes rfl rfl hg35 ?_
            refine t_q (q_load_blk Try.isAgg50 Try.sizeOf50 rfl (hS.blk (by repeat first | exact .here _ _ | assumption | apply Pick.there)) rfl) ?_
            refine t_yes rfl rfl hg35 ?_
            refine t_call Try.call30 (asame_calls (a := (nwS AO).b) (b := z.b) (hS.rowRd (A := A88) (c := c88) (bs := (nwS AO).b) (by repeat first | exact .here _ _ | assumption | apply Pick.there) rfl) (Rd.st hBn hS)) rfl ?_
            rintro e w ⟨rfl, hT⟩
            refine ⟨_, rfl, ?_⟩
            replace hS := hS.after hT
            refine t_q (q_pick_t rfl hg35) ?_
            refine t_nil ?_
            refine c_cond rfl ?_ ?_
            · intro hc37
              refine c_seq ?_
              refine c_region ?_
              refine t_call Try.call26 (alives_calls) rfl ?_
              rintro e w ⟨rfl, hT⟩
              refine ⟨_, rfl, ?_⟩
              replace hS := hS.after hT
              refine t_q (q_as (.bool _) rfl) ?_
              refine t_nil ?_
              refine c_ret ?_
              refine r_one rfl rfl ?_
              exact ⟨rfl, hS.nil⟩
            · intro hc37
              have hO : opC (crD y.keep.l d) 0 2 = (c, s) := by
                rcases hcase with h | ⟨h1, c', h2, h3⟩
                · exact h
                · exfalso
                  have hn : nwS AO = z := by rw [hAO, h2]; unfold nwS; rw [if_neg (show ¬ c' < 0 by omega)]
                  have hc2 : decide (0 ≤ AO.cn) = true := by rw [hAO, h2]; exact decide_eq_true h3
                  first
                    | exact absurd h1 (by rw [‹dn = false›]; decide)
                    | exact absurd hc2 (by rw [‹decide (0 ≤ AO.cn) = false›]; decide)
                    | exact of_decide_eq_false ‹decide (((nwS AO).i : Int) = (z.i : Int) ∧ ((nwS AO).t : Int) = (z.t : Int) ∧ (nwS AO).b = z.b) = false› (by rw [hn]; exact ⟨rfl, rfl, rfl⟩)
              have hA0 : nwS AO = s := by rw [hAO, hO]; exact hnw
              refine c_skip ?_
              refine c_seq ?_
              refine c_region ?_
              refine t_q (q_mv (.bool _) rfl) ?_
              refine t_q (q_mv (.bool _) rfl) ?_
              refine t_q (q_cast (v' := .bool true) (q_eql_bool Try.runUnderlying4 rfl rfl) (by rw [hAO, hO]; simp)) ?_
              refine t_q (q_mv (.bool _) rfl) ?_
              refine t_yes rfl rfl rfl ?_
              refine t_q (q_load_blk Try.isAgg45 Try.sizeOf45 rfl (hS.blk (by repeat first | exact .here _ _ | assumption | apply Pick.there)) rfl) ?_
              refine t_yes rfl rfl rfl ?_
              refine t_q (q_load_blk Try.isAgg50 Try.sizeOf50 rfl (hS.blk (by repeat first | exact .here _ _ | assumption | apply Pick.there)) rfl) ?_
              refine t_yes rfl rfl rfl ?_
              refine t_call Try.call30 (asame_calls (a := (nwS AO).b) (b := s.b) (hS.rowRd (A := A88) (c := c88) (bs := (nwS AO).b) (by repeat first | exact .here _ _ | assumption | apply Pick.there) rfl) (Rd.st hBl hS)) rfl ?_
              rintro e w ⟨rfl, hT⟩
              refine ⟨_, rfl, ?_⟩
              replace hS := hS.after hT
              rw [hA0]
              rw [show decide ((s.i : Int) = (s.i : Int) ∧ (s.t : Int) = (s.t : Int) ∧ s.b = s.b) = true from decide_eq_true ⟨rfl, rfl, rfl⟩]
              refine t_q (q_pick_t rfl rfl) ?_
              refine t_q (q_mv (.bool _) rfl) ?_
              refine t_yes rfl rfl rfl ?_
              refine t_call Try.call26 (alives_calls) rfl ?_
              rintro e w ⟨rfl, hT⟩
              refine ⟨_, rfl, ?_⟩
              replace hS := hS.after hT
              refine t_q (q_pick_t rfl rfl) ?_
              refine t_q (q_as (.bool _) rfl) ?_
              refine t_nil ?_
              refine c_ret ?_
              refine r_one rfl rfl ?_
              exact ⟨rfl, hS.nil⟩
          · intro hg35
            refine t_no rfl rfl (by rw [hg35]; decide) ?_
            refine t_no rfl rfl (by rw [hg35]; decide) ?_
            refine t_no rfl rfl (by rw [hg35]; decide) ?_
            refine t_q (q_pick_f rfl hg35) ?_
            refine t_nil ?_
            refine c_cond_f rfl rfl ?_
            have hO : opC (crD y.keep.l d) 0 2 = (c, s) := by
              rcases hcase with h | ⟨h1, c', h2, h3⟩
              · exact h
              · exfalso
                have hn : nwS AO = z := by rw [hAO, h2]; unfold nwS; rw [if_neg (show ¬ c' < 0 by omega)]
                have hc2 : decide (0 ≤ AO.cn) = true := by rw [hAO, h2]; exact decide_eq_true h3
                first
                  | exact absurd h1 (by rw [‹dn = false›]; decide)
                  | exact absurd hc2 (by rw [‹decide (0 ≤ AO.cn) = false›]; decide)
                  | exact of_decide_eq_false ‹decide (((nwS AO).i : Int) = (z.i : Int) ∧ ((nwS AO).t : Int) = (z.t : Int) ∧ (nwS AO).b = z.b) = false› (by rw [hn]; exact ⟨rfl, rfl, rfl⟩)
            have hA0 : nwS AO = s := by rw [hAO, hO]; exact hnw
            refine c_skip ?_
            refine c_seq ?_
            refine c_region ?_
            refine t_q (q_mv (.bool _) rfl) ?_
            refine t_q (q_mv (.bool _) rfl) ?_
            refine t_q (q_cast (v' := .bool true) (q_eql_bool Try.runUnderlying4 rfl rfl) (by rw [hAO, hO]; simp)) ?_
            refine t_q (q_mv (.bool _) rfl) ?_
            refine t_yes rfl rfl rfl ?_
            refine t_q (q_load_blk Try.isAgg45 Try.sizeOf45 rfl (hS.blk (by repeat first | exact .here _ _ | assumption | apply Pick.there)) rfl) ?_
            refine t_yes rfl rfl rfl ?_
            refine t_q (q_load_blk Try.isAgg50 Try.sizeOf50 rfl (hS.blk (by repeat first | exact .here _ _ | assumption | apply Pick.there)) rfl) ?_
            refine t_yes rfl rfl rfl ?_
            refine t_call Try.call30 (asame_calls (a := (nwS AO).b) (b := s.b) (hS.rowRd (A := A88) (c := c88) (bs := (nwS AO).b) (by repeat first | exact .here _ _ | assumption | apply Pick.there) rfl) (Rd.st hBl hS)) rfl ?_
            rintro e w ⟨rfl, hT⟩
            refine ⟨_, rfl, ?_⟩
            replace hS := hS.after hT
            rw [hA0]
            rw [show decide ((s.i : Int) = (s.i : Int) ∧ (s.t : Int) = (s.t : Int) ∧ s.b = s.b) = true from decide_eq_true ⟨rfl, rfl, rfl⟩]
            refine t_q (q_pick_t rfl rfl) ?_
            refine t_q (q_mv (.bool _) rfl) ?_
            refine t_yes rfl rfl rfl ?_
            refine t_call Try.call26 (alives_calls) rfl ?_
            rintro e w ⟨rfl, hT⟩
            refine ⟨_, rfl, ?_⟩
            replace hS := hS.after hT
            refine t_q (q_pick_t rfl rfl) ?_
            refine t_q (q_as (.bool _) rfl) ?_
            refine t_nil ?_
            refine c_ret ?_
            refine r_one rfl rfl ?_
            exact ⟨rfl, hS.nil⟩
        · intro hg34
          refine t_no rfl rfl (by rw [hg34]; decide) ?_
          refine t_q (q_pick_f rfl hg34) ?_
          refine t_q (q_mv (.bool _) rfl) ?_
          refine t_no rfl rfl (by decide) ?_
          refine t_no rfl rfl (by decide) ?_
          refine t_no rfl rfl (by decide) ?_
          refine t_q (q_pick_f rfl rfl) ?_
          refine t_nil ?_
          refine c_cond_f rfl rfl ?_
          have hO : opC (crD y.keep.l d) 0 2 = (c, s) := by
            rcases hcase with h | ⟨h1, c', h2, h3⟩
            · exact h
            · exfalso
              have hn : nwS AO = z := by rw [hAO, h2]; unfold nwS; rw [if_neg (show ¬ c' < 0 by omega)]
              have hc2 : decide (0 ≤ AO.cn) = true := by rw [hAO, h2]; exact decide_eq_true h3
              first
                | exact absurd h1 (by rw [‹dn = false›]; decide)
                | exact absurd hc2 (by rw [‹decide (0 ≤ AO.cn) = false›]; decide)
                | exact of_decide_eq_false ‹decide (((nwS AO).i : Int) = (z.i : Int) ∧ ((nwS AO).t : Int) = (z.t : Int) ∧ (nwS AO).b = z.b) = false› (by rw [hn]; exact ⟨rfl, rfl, rfl⟩)
          have hA0 : nwS AO = s := by rw [hAO, hO]; exact hnw
          refine c_skip ?_
          refine c_seq ?_
          refine c_region ?_
          refine t_q (q_mv (.bool _) rfl) ?_
          refine t_q (q_mv (.bool _) rfl) ?_
          refine t_q (q_cast (v' := .bool true) (q_eql_bool Try.runUnderlying4 rfl rfl) (by rw [hAO, hO]; simp)) ?_
          refine t_q (q_mv (.bool _) rfl) ?_
          refine t_yes rfl rfl rfl ?_
          refine t_q (q_load_blk Try.isAgg45 Try.sizeOf45 rfl (hS.blk (by repeat first | exact .here _ _ | assumption | apply Pick.there)) rfl) ?_
          refine t_yes rfl rfl rfl ?_
          refine t_q (q_load_blk Try.isAgg50 Try.sizeOf50 rfl (hS.blk (by repeat first | exact .here _ _ | assumption | apply Pick.there)) rfl) ?_
          refine t_yes rfl rfl rfl ?_
          refine t_call Try.call30 (asame_calls (a := (nwS AO).b) (b := s.b) (hS.rowRd (A := A88) (c := c88) (bs := (nwS AO).b) (by repeat first | exact .here _ _ | assumption | apply Pick.there) rfl) (Rd.st hBl hS)) rfl ?_
          rintro e w ⟨rfl, hT⟩
          refine ⟨_, rfl, ?_⟩
          replace hS := hS.after hT
          rw [hA0]
          rw [show decide ((s.i : Int) = (s.i : Int) ∧ (s.t : Int) = (s.t : Int) ∧ s.b = s.b) = true from decide_eq_true ⟨rfl, rfl, rfl⟩]
          refine t_q (q_pick_t rfl rfl) ?_
          refine t_q (q_mv (.bool _) rfl) ?_
          refine t_yes rfl rfl rfl ?_
          refine t_call Try.call26 (alives_calls) rfl ?_
          rintro e w ⟨rfl, hT⟩
          refine ⟨_, rfl, ?_⟩
          replace hS := hS.after hT
          refine t_q (q_pick_t rfl rfl) ?_
          refine t_q (q_as (.bool _) rfl) ?_
          refine t_nil ?_
          refine c_ret ?_
          refine r_one rfl rfl ?_
          exact ⟨rfl, hS.nil⟩
end Go.Proofs.Ytlppgpidakfnlaa
