/- Commands read from bytes: plain; the numbers. -/
import Derived.Test.YtmgobaojioaioaaVf
import Derived.Test.YtmgobaojioaioaaUg
import Derived.Test.YtmgobaojioaioaaMp
namespace Go.Proofs.Ytmgobaojioaioaa
open Go Go.RowKit Go.Lib
variable {W : World}
/-- what Read reads of a command, step by step -/
def oqI (v : Int) (m : Nat) (s : Rs) : Int × Rs := if hasC v m then s.int else (0, s)
def oqU (v : Int) (m : Nat) (s : Rs) : Nat × Rs := if hasC v m then s.nat allNat else (0, s)
theorem oqI_in (v : Int) (m : Nat) (s : Rs) : -9223372036854775808 ≤ (oqI v m s).1 ∧ (oqI v m s).1 ≤ 9223372036854775807 := by
  unfold oqI
  split
  · exact int_in s
  · exact (show (-9223372036854775808 : Int) ≤ 0 ∧ (0 : Int) ≤ 9223372036854775807 by decide)
theorem oqU_le (v : Int) (m : Nat) (s : Rs) : (oqU v m s).1 ≤ allNat := by
  unfold oqU
  split
  · exact s.nat_le _
  · exact Nat.zero_le _
theorem oqI_only {v : Int} {m : Nat} {s : Rs} (h : (oqI v m s).2.bad = false) : s.left = oI v m (oqI v m s).1 ++ (oqI v m s).2.left ∧ s.bad = false := by
  unfold oqI oI at *
  split at h
  · rename_i hv
    rw [if_pos hv, if_pos hv]
    exact Rs.int_only h
  · rename_i hv
    rw [if_neg hv, if_neg hv]
    exact ⟨rfl, h⟩
theorem oqU_only {v : Int} {m : Nat} {s : Rs} (h : (oqU v m s).2.bad = false) : s.left = oU v m ((oqU v m s).1 : Int) ++ (oqU v m s).2.left ∧ s.bad = false := by
  unfold oqU oU at *
  split at h
  · rename_i hv
    rw [if_pos hv, if_pos hv]
    exact Rs.nat_only h
  · rename_i hv
    rw [if_neg hv, if_neg hv]
    exact ⟨rfl, h⟩
theorem oqI_go {v v' : Int} {m : Nat} {n : Int} {s : Rs} {rest : List UInt8} {c : Bool} (hv : v = v') (hs : s = ⟨oI v' m n ++ rest, c⟩) (h : -9223372036854775808 ≤ n ∧ n ≤ 9223372036854775807) : oqI v m s = (if hasC v' m then n else 0, ⟨rest, c⟩) := by
  subst hv hs
  unfold oqI oI
  split
  · exact Rs.int_enc h.1 h.2 rest c
  · rfl
theorem oqU_go {v v' : Int} {m : Nat} {n : Int} {s : Rs} {rest : List UInt8} {c : Bool} (hv : v = v') (hs : s = ⟨oU v' m n ++ rest, c⟩) (h : 0 ≤ n ∧ n < 18446744073709551616) : oqU v m s = (if hasC v' m then n.toNat else 0, ⟨rest, c⟩) := by
  subst hv hs
  unfold oqU oU
  split
  · exact Rs.nat_enc (by unfold allNat; omega) (by decide) rest c
  · rfl
def c0 (s : Rs) : Nat × Rs := s.nat 15
def c1 (s : Rs) : Nat × Rs := (c0 s).2.nat 8
def c2 (s : Rs) : Nat × Rs := (c1 s).2.nat allNat
def cv (s : Rs) : Int := cfl ((c0 s).1 : Int)
def c3 (s : Rs) : Int × Rs := oqI (cv s) 1 (c2 s).2
def c4 (s : Rs) : Int × Rs := oqI (cv s) 16 (c3 s).2
def c5 (s : Rs) : Nat × Rs := oqU (cv s) 2 (c4 s).2
def c6 (s : Rs) : Int × Rs := oqI (cv s) 4 (c5 s).2
def c7 (s : Rs) : Int × Rs := oqI (cv s) 8 (c6 s).2
def c8 (s : Rs) : Int × Rs := oqI (cv s) 32 (c7 s).2
def c9 (s : Rs) : Int × Rs := oqI (cv s) 64 (c8 s).2
def c10 (s : Rs) : Int × Rs := oqI (cv s) 128 (c9 s).2
def c11 (s : Rs) : Int × Rs := oqI (cv s) 256 (c10 s).2
def c12 (s : Rs) : Nat × Rs := oqU (cv s) 512 (c11 s).2
def cR (s : Rs) (A : Option Addr) (c : Nat) (B : Option Addr) (d : Nat) : RuV := if hasC (cv s) 1024 then ruT (c12 s).2 A c B d else ruZ
def c13 (s : Rs) : Rs := if hasC (cv s) 1024 then ruS (c12 s).2 else (c12 s).2
def mkC (s : Rs) (r : RuV) : CmdV := ⟨((c0 s).1 : Int), ((c1 s).1 : Int), ((c2 s).1 : Int), (c3 s).1, ((c5 s).1 : Int), (c6 s).1, (c7 s).1, (c4 s).1, (c8 s).1, (c9 s).1, (c11 s).1, (c10 s).1, ((c12 s).1 : Int), r⟩
def cmM (s : Rs) : Cm := (mkC s (cR s none 0 none 0)).vw
attribute [local irreducible] Rs.nat Rs.int oqI oqU
theorem ruT_vw (s : Rs) (A : Option Addr) (c : Nat) (B : Option Addr) (d : Nat) : (ruT s A c B d).vw = (ruT s none 0 none 0).vw := by
  unfold ruT
  cases ruOk s <;> rfl
theorem cR_vw (s : Rs) (A : Option Addr) (c : Nat) (B : Option Addr) (d : Nat) : (cR s A c B d).vw = (cR s none 0 none 0).vw := by
  unfold cR
  cases hasC (cv s) 1024
  · rfl
  · exact ruT_vw _ _ _ _ _
theorem mkC_vw {s : Rs} {r : RuV} (h : ∃ A c B d, r = cR s A c B d) : (mkC s r).vw = cmM s := by
  obtain ⟨A, c, B, d, rfl⟩ := h
  unfold cmM
  rw [cm_iff]
  exact ⟨rfl, rfl, rfl, rfl, rfl, rfl, rfl, rfl, rfl, rfl, rfl, rfl, rfl, cR_vw s A c B d⟩
theorem ruT_gd {w : World} {s : Rs} {A B : Option Addr} {c d : Nat} (h1 : RdTk w (ruT s A c B d).ticks.A (ruT s A c B d).ticks.l) (h2 : RdTr w (ruT s A c B d).fees.A (ruT s A c B d).fees.l) : (ruT s A c B d).Gd w := by
  cases hb : ruOk s with
  | false => rw [(ruT_no hb).1]; exact ruZ_gd
  | true =>
    rw [(ruT_yes hb).1] at h1 h2 ⊢
    exact ruV_gd h1 h2
theorem cR_gd {w : World} {s : Rs} {r : RuV} (h : ∃ A c B d, r = cR s A c B d) (h1 : RdTk w r.ticks.A r.ticks.l) (h2 : RdTr w r.fees.A r.fees.l) : r.Gd w := by
  obtain ⟨A, c, B, d, rfl⟩ := h
  unfold cR at h1 h2 ⊢
  cases hb : hasC (cv s) 1024 with
  | false => exact ruZ_gd
  | true =>
    rw [hb] at h1 h2
    exact ruT_gd h1 h2
theorem nat0 (n : Nat) (h : n ≤ allNat) : 0 ≤ (n : Int) ∧ (n : Int) < 18446744073709551616 := by unfold allNat at h; omega
section
attribute [local irreducible] c0 c1 c2 c3 c4 c5 c6 c7 c8 c9 c10 c11 c12
theorem mkC_gd' {w : World} {s : Rs} {r : RuV} (h0 : (c0 s).1 ≤ 15) (h1 : (c1 s).1 ≤ 8) (h2 : (c2 s).1 ≤ allNat) (h3 : -9223372036854775808 ≤ (c3 s).1 ∧ (c3 s).1 ≤ 9223372036854775807) (h4 : -9223372036854775808 ≤ (c4 s).1 ∧ (c4 s).1 ≤ 9223372036854775807) (h5 : (c5 s).1 ≤ allNat) (h6 : -9223372036854775808 ≤ (c6 s).1 ∧ (c6 s).1 ≤ 9223372036854775807) (h7 : -9223372036854775808 ≤ (c7 s).1 ∧ (c7 s).1 ≤ 9223372036854775807) (h8 : -9223372036854775808 ≤ (c8 s).1 ∧ (c8 s).1 ≤ 9223372036854775807) (h9 : -9223372036854775808 ≤ (c9 s).1 ∧ (c9 s).1 ≤ 9223372036854775807) (h10 : -9223372036854775808 ≤ (c10 s).1 ∧ (c10 s).1 ≤ 9223372036854775807) (h11 : -9223372036854775808 ≤ (c11 s).1 ∧ (c11 s).1 ≤ 9223372036854775807) (h12 : (c12 s).1 ≤ allNat) (hr : r.Gd w) : (mkC s r).Gd w := by
  unfold mkC
  exact ⟨⟨by dsimp only; omega, by dsimp only; omega⟩, nat0 _ (Nat.le_trans h1 (by decide)), nat0 _ h2, h3, nat0 _ h5, h6, h7, h4, h8, h9, h11, h10, nat0 _ h12, hr⟩
end
theorem mkC_gd {w : World} {s : Rs} {r : RuV} (hr : r.Gd w) : (mkC s r).Gd w :=
  mkC_gd' (by unfold c0; exact Rs.nat_le _ _) (by unfold c1; exact Rs.nat_le _ _) (by unfold c2; exact Rs.nat_le _ _) (by unfold c3; exact oqI_in _ _ _) (by unfold c4; exact oqI_in _ _ _) (by unfold c5; exact oqU_le _ _ _) (by unfold c6; exact oqI_in _ _ _) (by unfold c7; exact oqI_in _ _ _) (by unfold c8; exact oqI_in _ _ _) (by unfold c9; exact oqI_in _ _ _) (by unfold c10; exact oqI_in _ _ _) (by unfold c11; exact oqI_in _ _ _) (by unfold c12; exact oqU_le _ _ _) hr
theorem ruB_vw {x y : RuV} (h : x.vw = y.vw) : ruB x = ruB y := by
  obtain ⟨h1, h2, h3, h4, h5, h6, h7, h8, h9⟩ := ru_iff.1 h
  have e2 := sameTk_eq (decide_eq_true h2)
  have e5 := sameTr_eq (decide_eq_true h5)
  rw [ruB_flat, ruB_flat, h1, e2, h3, h4, e5, h6, h7, h8, h9]
theorem sndC_vw {x y : CmdV} (h : x.vw = y.vw) : sndC x = sndC y := by
  obtain ⟨h1, h2, h3, h4, h5, h6, h7, h8, h9, h10, h11, h12, h13, h14⟩ := cm_iff.1 h
  have hk : ((keepC (cfl x.kind) x).vw = x.vw) ↔ ((keepC (cfl y.kind) y).vw = y.vw) := by
    have e : (keepC (cfl x.kind) x).vw = (keepC (cfl y.kind) y).vw := by
      rw [cm_iff]
      unfold keepC
      dsimp only
      rw [h1, h2, h3, h4, h5, h6, h7, h8, h9, h10, h11, h12, h13]
      refine ⟨rfl, rfl, rfl, rfl, rfl, rfl, rfl, rfl, rfl, rfl, rfl, rfl, rfl, ?_⟩
      cases hasC (cfl y.kind) 1024
      · rfl
      · exact h14
    rw [e, h]
  unfold sndC
  rw [goodR_vw h14, h1, h2, decide_eq_decide.2 hk] at *
theorem ruS_only {s : Rs} (h : (ruS s).bad = false) (A : Option Addr) (c : Nat) (B : Option Addr) (d : Nat) : s.left = ruB (ruT s A c B d) ++ (ruS s).left ∧ s.bad = false := by
  cases hb : ruOk s with
  | false => rw [(ruT_no (A := A) (c := c) (B := B) (d := d) hb).2] at h; cases h
  | true =>
    obtain ⟨e1, e2⟩ := ruT_yes (A := A) (c := c) (B := B) (d := d) hb
    rw [e2] at h
    rw [e1, e2]
    exact ruV_only A c B d h
theorem endOk_z {s : Rs} (h : s.endOk = 0) : s.bad = false ∧ s.left = [] := by
  unfold Rs.endOk at h
  split at h
  · cases h
  · rename_i h0
    rw [not_or] at h0
    refine ⟨by simpa using h0.1, ?_⟩
    exact List.eq_nil_of_length_eq_zero (by omega)
theorem cbB_flat (x : CmdV) : cbB x = enc x.kind.toNat ++ (enc x.client.toNat ++ (enc x.req.toNat ++ (oI (cfl x.kind) 1 x.account ++ (oI (cfl x.kind) 16 x.asset ++ (oU (cfl x.kind) 2 x.id ++ (oI (cfl x.kind) 4 x.side ++ (oI (cfl x.kind) 8 x.typ ++ (oI (cfl x.kind) 32 x.price ++ (oI (cfl x.kind) 64 x.qty ++ (oI (cfl x.kind) 128 x.replica ++ (oI (cfl x.kind) 256 x.version ++ (oU (cfl x.kind) 512 x.at_ ++ oR (cfl x.kind) x.rules)))))))))))) := by
  unfold cbB cb11 cb10 cb9 cb8 cb7 cb6 cb5 cb4 cb3 cb2 cb1 cb0
  simp only [List.append_assoc]
/-- what is read, to its end, are the bytes of what was told -/
theorem cm_only {s : Rs} {x : CmdV} (h : (c13 s).endOk = 0) (hx : x.vw = cmM s) : s.left = cbB x := by
  obtain ⟨g13, hl⟩ := endOk_z h
  have e13 : (c12 s).2.left = oR (cv s) (cR s none 0 none 0) ∧ (c12 s).2.bad = false := by
    unfold c13 at g13 hl
    unfold oR cR
    cases hb : hasC (cv s) 1024 with
    | false =>
      rw [hb] at g13 hl
      exact ⟨hl, g13⟩
    | true =>
      rw [hb] at g13 hl
      obtain ⟨e, g⟩ := ruS_only (s := (c12 s).2) g13 none 0 none 0
      change (ruS (c12 s).2).left = [] at hl
      rw [hl, List.append_nil] at e
      exact ⟨e, g⟩
  obtain ⟨e13, g12⟩ := e13
  obtain ⟨e12, g11⟩ := oqU_only (s := (c11 s).2) g12
  obtain ⟨e11, g10⟩ := oqI_only (s := (c10 s).2) g11
  obtain ⟨e10, g9⟩ := oqI_only (s := (c9 s).2) g10
  obtain ⟨e9, g8⟩ := oqI_only (s := (c8 s).2) g9
  obtain ⟨e8, g7⟩ := oqI_only (s := (c7 s).2) g8
  obtain ⟨e7, g6⟩ := oqI_only (s := (c6 s).2) g7
  obtain ⟨e6, g5⟩ := oqI_only (s := (c5 s).2) g6
  obtain ⟨e5, g4⟩ := oqU_only (s := (c4 s).2) g5
  obtain ⟨e4, g3⟩ := oqI_only (s := (c3 s).2) g4
  obtain ⟨e3, g2⟩ := oqI_only (s := (c2 s).2) g3
  obtain ⟨e2, g1⟩ := Rs.nat_only (s := (c1 s).2) g2
  obtain ⟨e1, g0⟩ := Rs.nat_only (s := (c0 s).2) g1
  obtain ⟨e0, _⟩ := Rs.nat_only (s := s) g0
  change (c11 s).2.left = oU (cv s) 512 ((c12 s).1 : Int) ++ (c12 s).2.left at e12
  change (c10 s).2.left = oI (cv s) 256 (c11 s).1 ++ (c11 s).2.left at e11
  change (c9 s).2.left = oI (cv s) 128 (c10 s).1 ++ (c10 s).2.left at e10
  change (c8 s).2.left = oI (cv s) 64 (c9 s).1 ++ (c9 s).2.left at e9
  change (c7 s).2.left = oI (cv s) 32 (c8 s).1 ++ (c8 s).2.left at e8
  change (c6 s).2.left = oI (cv s) 8 (c7 s).1 ++ (c7 s).2.left at e7
  change (c5 s).2.left = oI (cv s) 4 (c6 s).1 ++ (c6 s).2.left at e6
  change (c4 s).2.left = oU (cv s) 2 ((c5 s).1 : Int) ++ (c5 s).2.left at e5
  change (c3 s).2.left = oI (cv s) 16 (c4 s).1 ++ (c4 s).2.left at e4
  change (c2 s).2.left = oI (cv s) 1 (c3 s).1 ++ (c3 s).2.left at e3
  change (c1 s).2.left = enc (c2 s).1 ++ (c2 s).2.left at e2
  change (c0 s).2.left = enc (c1 s).1 ++ (c1 s).2.left at e1
  change s.left = enc (c0 s).1 ++ (c0 s).2.left at e0
  rw [e0, e1, e2, e3, e4, e5, e6, e7, e8, e9, e10, e11, e12, e13, cbB_flat]
  unfold cmM at hx
  obtain ⟨h1, h2, h3, h4, h5, h6, h7, h8, h9, h10, h11, h12, h13, h14⟩ := cm_iff.1 hx
  have hr : oR (cfl x.kind) x.rules = oR (cfl x.kind) (cR s none 0 none 0) := by
    unfold oR
    split
    · exact ruB_vw h14
    · rfl
  rw [hr, h1, h2, h3, h4, h5, h6, h7, h8, h9, h10, h11, h12, h13]
  rfl
theorem if_nat {b : Bool} {n : Int} (h : 0 ≤ n) : (((if b then n.toNat else 0 : Nat)) : Int) = if b then n else 0 := by
  cases b
  · rfl
  · exact Int.toNat_of_nonneg h
/-- a command's bytes are read as it was -/
theorem cm_back {x : CmdV} {w : World} (hx : x.Gd w) (hs : sndC x = true) : cmM ⟨cbB x, false⟩ = x.vw ∧ (c13 ⟨cbB x, false⟩).endOk = 0 := by
  have hs0 := hs
  unfold sndC cok at hs
  simp only [Bool.and_eq_true, decide_eq_true_eq, Bool.or_eq_true, Bool.not_eq_true', decide_eq_false_iff_not] at hs
  obtain ⟨⟨k1, k2⟩, q1, q2, q3⟩ := hs
  have h1 := hx.client
  have h2 := hx.req
  obtain ⟨s, hs⟩ : ∃ s : Rs, s = ⟨cbB x, false⟩ := ⟨_, rfl⟩
  rw [← hs]
  rw [cbB_flat] at hs
  have hkind : ((x.kind.toNat : Nat) : Int) = x.kind := Int.toNat_of_nonneg (by omega)
  have z0 := nat_go (m := 15) hs (by omega) (by decide)
  have zv : cv s = cfl x.kind := by
    have e : (c0 s).1 = x.kind.toNat := congrArg Prod.fst z0
    unfold cv
    rw [e, hkind]
  have z1 := nat_go (m := 8) (congrArg Prod.snd z0) (by omega) (by decide)
  have z2 := nat_go (m := allNat) (congrArg Prod.snd z1) (by unfold allNat; omega) (by decide)
  have z3 := oqI_go zv (congrArg Prod.snd z2) hx.account
  have z4 := oqI_go zv (congrArg Prod.snd z3) hx.asset
  have z5 := oqU_go zv (congrArg Prod.snd z4) hx.id
  have z6 := oqI_go zv (congrArg Prod.snd z5) hx.side
  have z7 := oqI_go zv (congrArg Prod.snd z6) hx.typ
  have z8 := oqI_go zv (congrArg Prod.snd z7) hx.price
  have z9 := oqI_go zv (congrArg Prod.snd z8) hx.qty
  have z10 := oqI_go zv (congrArg Prod.snd z9) hx.replica
  have z11 := oqI_go zv (congrArg Prod.snd z10) hx.version
  have z12 := oqU_go zv (congrArg Prod.snd z11) hx.at_
  change c0 s = _ at z0
  change c1 s = _ at z1
  change c2 s = _ at z2
  change c3 s = _ at z3
  change c4 s = _ at z4
  change c5 s = _ at z5
  change c6 s = _ at z6
  change c7 s = _ at z7
  change c8 s = _ at z8
  change c9 s = _ at z9
  change c10 s = _ at z10
  change c11 s = _ at z11
  change c12 s = _ at z12
  have hR : (cR s none 0 none 0).vw = (if hasC (cfl x.kind) 1024 then x.rules else ruZ).vw ∧ (c13 s).endOk = 0 := by
    unfold cR c13
    rw [zv, z12]
    unfold oR
    cases hb : hasC (cfl x.kind) 1024 with
    | false => exact ⟨rfl, rfl⟩
    | true =>
      rw [cfl_1024] at hb
      have h9 := of_decide_eq_true hb
      have hg : goodR x.rules = true := by
        rcases q3 with h | h
        · exact absurd h9 h
        · exact h
      obtain ⟨_, r2, r3⟩ := ru_yes hx.rules hg [] none 0 none 0
      rw [List.append_nil] at r2 r3
      refine ⟨r2, ?_⟩
      show (ruS ⟨ruB x.rules, false⟩).endOk = 0
      rw [r3]
      rfl
  refine ⟨?_, hR.2⟩
  rw [← q2]
  unfold cmM mkC
  rw [cm_iff]
  rw [z0, z1, z2, z3, z4, z5, z6, z7, z8, z9, z10, z11, z12]
  have h48 : hasC (cfl x.kind) 8 = hasC (cfl x.kind) 4 := by
    rcases cfl_vals x.kind with h | h | h | h | h | h | h | h | h | h <;> rw [h] <;> decide
  unfold keepC
  dsimp only
  rw [h48]
  exact ⟨hkind, Int.toNat_of_nonneg h1.1, Int.toNat_of_nonneg h2.1, rfl, if_nat hx.id.1, rfl, rfl, rfl, rfl, rfl, rfl, rfl, if_nat hx.at_.1, hR.1⟩
def zC : CmdV := ⟨0, 0, 0, 0, 0, 0, 0, 0, 0, 0, 0, 0, 0, ruZ⟩
theorem zC_gd {w : World} : zC.Gd w := ⟨by decide, by decide, by decide, by decide, by decide, by decide, by decide, by decide, by decide, by decide, by decide, by decide, by decide, ruZ_gd⟩
/-- the rows of a command, and that it stands by them -/
def cmR (x : CmdV) : List RdP := [⟨2, x.rules.ticks.A, x.rules.ticks.l.length, fun i => (x.rules.ticks.l.getD i default).cells⟩, ⟨3, x.rules.fees.A, x.rules.fees.l.length, fun i => (x.rules.fees.l.getD i default).cells⟩]
def CmBy (x : CmdV) : Prop := ∀ {V w : World} {L R : List Asn}, St V w L → Pick L (rdsA (cmR x)) R → x.Gd w
theorem mkC_by {s : Rs} {r : RuV} (h : ∃ A c B d, r = cR s A c B d) : CmBy (mkC s r) := fun hS pk => mkC_gd (cR_gd h (hS.rds (p := ⟨2, r.ticks.A, r.ticks.l.length, fun i => (r.ticks.l.getD i default).cells⟩) pk (.head _)) (hS.rds (p := ⟨3, r.fees.A, r.fees.l.length, fun i => (r.fees.l.getD i default).cells⟩) pk (.tail _ (.head _))))
theorem zC_by : CmBy zC := fun _ _ => zC_gd
theorem St.rds_none {V w : World} {R : List Asn} {l : List RdP} (size : Nat) (f : Nat → List Value) (hS : St V w (rdsA l :: R)) : St V w (rdsA (⟨size, none, 0, f⟩ :: l) :: R) :=
  hS.upd fun F hF => ⟨Fr.refl _ _, F, ⟨hF.1, fun p hp => by
    rcases List.mem_cons.1 hp with h | h
    · subst h; exact ⟨Rd.none_ _ _ _ _, fun h => absurd h (Nat.lt_irrefl 0)⟩
    · exact hF.2 p h⟩, fun k hk => .inl hk⟩
theorem zC_rds {V w : World} {L : List Asn} (hS : St V w L) : St V w [rdsA (cmR zC)] := (hS.nil.rds0.rds_none 3 (fun i => (([] : List Tr).getD i default).cells)).rds_none 2 (fun i => (([] : List Tk).getD i default).cells)
theorem mkC_rds {V w : World} {t t' : Nat} {L R R2 : List Asn} {s : Rs} {r : RuV} (hS : St V w L) (p1 : Pick L (rowA t 2 r.ticks.A r.ticks.l.length r.ticks.c (r.ticks.l.flatMap Tk.cells)) R) (p2 : Pick R (rowA t' 3 r.fees.A r.fees.l.length r.fees.c (r.fees.l.flatMap Tr.cells)) R2) : St V w [rdsA (cmR (mkC s r))] := by
  have hF := rowRdTr (hS.pick p1) (.there p2) rfl
  have hT := rowRdTk hS p1 rfl
  have h1 := (((hS.pick p1).pick (.there p2)).front2).rds0
  have h2 : St V w (rowA t' 3 r.fees.A r.fees.l.length r.fees.c (r.fees.l.flatMap Tr.cells) :: rdsA [] :: [rowA t 2 r.ticks.A r.ticks.l.length r.ticks.c (r.ticks.l.flatMap Tk.cells)]) := h1.pick (.there (.here _ _))
  have h3 := h2.rds_add (f := fun i => (r.fees.l.getD i default).cells) hF
  have h4 := h3.pick (.there (.here _ _))
  exact h4.rds_add (f := fun i => (r.ticks.l.getD i default).cells) hT
/-- what Read tells of any bytes -/
def OutC (bs : List UInt8) (x : CmdV) (er : Int) : Prop := (er = 0 ∧ bs.length ≤ 512 ∧ x.vw = cmM ⟨bs, false⟩ ∧ (c13 ⟨bs, false⟩).endOk = 0 ∧ sndC x = true) ∨ (er = 21 ∧ 512 < bs.length ∧ x = zC) ∨ (er = 20 ∧ bs.length ≤ 512 ∧ x = zC ∧ ((c13 ⟨bs, false⟩).endOk = 0 → ∀ y : CmdV, y.vw = cmM ⟨bs, false⟩ → sndC y = false))
theorem outC_back {x y : CmdV} {w : World} {er : Int} (hx : x.Gd w) (hs : sndC x = true) (hl : (cbB x).length ≤ 512) (h : OutC (cbB x) y er) : er = 0 ∧ y.vw = x.vw := by
  obtain ⟨e1, e2⟩ := cm_back hx hs
  rcases h with ⟨h0, _, hv, _, _⟩ | ⟨_, h2, _⟩ | ⟨_, _, _, hno⟩
  · exact ⟨h0, hv.trans e1⟩
  · omega
  · have h := hno e2 x e1.symm
    rw [hs] at h
    cases h
theorem outC_again {bs : List UInt8} {x : CmdV} (h : OutC bs x 0) : cbE x = 0 ∧ cbL x = bs := by
  rcases h with ⟨_, hl, hv, he, hs⟩ | ⟨h0, _⟩ | ⟨h0, _⟩
  · have h1 := cm_only he hv
    change bs = _ at h1
    obtain ⟨e1, e2⟩ := cbE_ok hs (by rw [← h1]; omega)
    exact ⟨e1, e2.trans h1.symm⟩
  · cases h0
  · cases h0
theorem outsC_eq {bs : List UInt8} {x y : CmdV} {a b : Int} (h : OutC bs x a) (k : OutC bs y b) : a = b ∧ x.vw = y.vw := by
  rcases h with ⟨h0, hl, hv, he, hs⟩ | ⟨h0, hl, hz⟩ | ⟨h0, hl, hz, hno⟩ <;> rcases k with ⟨k0, kl, kv, ke, ks⟩ | ⟨k0, kl, kz⟩ | ⟨k0, kl, kz, kno⟩
  · exact ⟨h0.trans k0.symm, hv.trans kv.symm⟩
  · omega
  · exact absurd (kno he x hv) (by rw [hs]; decide)
  · omega
  · exact ⟨h0.trans k0.symm, by rw [hz, kz]⟩
  · omega
  · exact absurd (hno ke y kv) (by rw [ks]; decide)
  · omega
  · exact ⟨h0.trans k0.symm, by rw [hz, kz]⟩
theorem cR_yes {s : Rs} (h : hasC (cv s) 1024 = true) (A : Option Addr) (c : Nat) (B : Option Addr) (d : Nat) : cR s A c B d = ruT (c12 s).2 A c B d := by unfold cR; rw [h]; rfl
theorem cR_no {s : Rs} (h : hasC (cv s) 1024 = false) (A : Option Addr) (c : Nat) (B : Option Addr) (d : Nat) : cR s A c B d = ruZ := by unfold cR; rw [h]; rfl
theorem St.front7 {W w : World} {A B C D E F G : Asn} {R : List Asn} (h : St W w (A :: B :: C :: D :: E :: F :: G :: R)) : St W w [A, B, C, D, E, F, G] := St.front [A, B, C, D, E, F, G] h
theorem c0_le (s : Rs) : (c0 s).1 ≤ 15 := by unfold c0; exact Rs.nat_le _ _
theorem outC_big {bs : List UInt8} (h : 512 < bs.length) : OutC bs zC 21 := .inr (.inl ⟨rfl, h, rfl⟩)
theorem outC_no {bs : List UInt8} {s : Rs} (hs : s = ⟨bs, false⟩) (hl : bs.length ≤ 512) (h : cok ((c0 s).1 : Int) = false ∨ (c13 s).endOk ≠ 0 ∨ ∃ r, (∃ A c B d, r = cR s A c B d) ∧ sndC (mkC s r) = false) : OutC bs zC 20 := by
  subst hs
  refine .inr (.inr ⟨rfl, hl, rfl, fun he y hy => ?_⟩)
  rcases h with h | h | ⟨r, hr, h⟩
  · have hk : y.kind = ((c0 ⟨bs, false⟩).1 : Int) := (cm_iff.1 hy).1
    unfold sndC
    rw [hk, h]
    rfl
  · exact absurd he h
  · exact (sndC_vw (hy.trans (mkC_vw hr).symm)).trans h
theorem outC_yes {bs : List UInt8} {s : Rs} {r : RuV} (hs : s = ⟨bs, false⟩) (hl : bs.length ≤ 512) (he : (c13 s).endOk = 0) (hr : ∃ A c B d, r = cR s A c B d) (h : sndC (mkC s r) = true) : OutC bs (mkC s r) 0 := by
  subst hs
  exact .inl ⟨rfl, hl, mkC_vw hr, he, h⟩
attribute [local irreducible] blkA rowA rdrA
set_option maxRecDepth 100000 in
theorem crd_no {w : World} {R : List Asn} {g g4 g6 : Nat} {v m : Int} {s : Rs} (h : decide (IntKind.i64.wrap (BitVec.ofInt IntKind.i64.bits v &&& BitVec.ofInt IntKind.i64.bits m).toNat = 0) = true) (hS : St W w (rdrA W 149 g s :: blkA g6 3 [.int .i64 v] :: blkA g4 79 [.pointer (some ⟨g, 0, none⟩)] :: R)) : Calls Try.prog 96 #[.int .i64 m, .pointer (some ⟨g6, 0, none⟩), .pointer (some ⟨g4, 0, none⟩)] w fun e w' => e = .returned (.int .i64 0) ∧ St W w' (rdrA W 149 g s :: blkA g6 3 [.int .i64 v] :: blkA g4 79 [.pointer (some ⟨g, 0, none⟩)] :: R) := by
  refine calls_of_wpE (args := [_, _, _]) Try.func96 rfl rfl rfl ?_
  refine c_seq ?_
  refine c_region ?_
  refine t_q (q_assign) ?_
  refine t_nil ?_
  refine c_seq ?_
  refine c_seq ?_
  refine c_region ?_
  refine t_q (q_load1 Try.isAgg3 rfl (hS.cell (by repeat first | exact .here _ _ | assumption | apply Pick.there) rfl)) ?_
  refine t_q (q_mv (.int _ _) rfl) ?_
  refine t_q (q_and rfl rfl) ?_
  refine t_q (q_eql rfl rfl) ?_
  refine t_nil ?_
  refine c_cond_t rfl h ?_
  refine c_seq ?_
  refine c_region ?_
  refine t_q (q_assign) ?_
  refine t_nil ?_
  refine c_ret ?_
  refine r_one rfl rfl ?_
  exact ⟨rfl, (((hS.pick (A := blkA g4 79 [.pointer (some ⟨g, 0, none⟩)]) (by repeat first | exact .here _ _ | assumption | apply Pick.there)).pick (A := blkA g6 3 [.int .i64 _]) (by repeat first | exact .here _ _ | assumption | apply Pick.there)).pick (A := rdrA W 149 g _) (by repeat first | exact .here _ _ | assumption | apply Pick.there))⟩
set_option maxRecDepth 100000 in
theorem crd_yes {w : World} {R : List Asn} {g g4 g6 : Nat} {v m : Int} {s : Rs} (h : decide (IntKind.i64.wrap (BitVec.ofInt IntKind.i64.bits v &&& BitVec.ofInt IntKind.i64.bits m).toNat = 0) = false) (hS : St W w (rdrA W 149 g s :: blkA g6 3 [.int .i64 v] :: blkA g4 79 [.pointer (some ⟨g, 0, none⟩)] :: R)) : Calls Try.prog 96 #[.int .i64 m, .pointer (some ⟨g6, 0, none⟩), .pointer (some ⟨g4, 0, none⟩)] w fun e w' => e = .returned (.int .i64 s.int.1) ∧ St W w' (rdrA W 149 g s.int.2 :: blkA g6 3 [.int .i64 v] :: blkA g4 79 [.pointer (some ⟨g, 0, none⟩)] :: R) := by
  refine calls_of_wpE (args := [_, _, _]) Try.func96 rfl rfl rfl ?_
  refine c_seq ?_
  refine c_region ?_
  refine t_q (q_assign) ?_
  refine t_nil ?_
  refine c_seq ?_
  refine c_seq ?_
  refine c_region ?_
  refine t_q (q_load1 Try.isAgg3 rfl (hS.cell (by repeat first | exact .here _ _ | assumption | apply Pick.there) rfl)) ?_
  refine t_q (q_mv (.int _ _) rfl) ?_
  refine t_q (q_and rfl rfl) ?_
  refine t_q (q_eql rfl rfl) ?_
  refine t_nil ?_
  refine c_cond_f rfl h ?_
  refine c_skip ?_
  refine c_seq ?_
  refine c_region ?_
  refine t_q (q_load1 Try.isAgg79 rfl (hS.cell (by repeat first | exact .here _ _ | assumption | apply Pick.there) rfl)) ?_
  refine t_call Try.call88 (rInt hS (by repeat first | exact .here _ _ | assumption | apply Pick.there)) rfl ?_
  rintro e w ⟨rfl, hS⟩
  refine ⟨_, rfl, ?_⟩
  refine t_q (q_as (.int _ _) rfl) ?_
  refine t_nil ?_
  refine c_ret ?_
  refine r_one rfl rfl ?_
  exact ⟨rfl, (((hS.pick (A := blkA g4 79 [.pointer (some ⟨g, 0, none⟩)]) (by repeat first | exact .here _ _ | assumption | apply Pick.there)).pick (A := blkA g6 3 [.int .i64 _]) (by repeat first | exact .here _ _ | assumption | apply Pick.there)).pick (A := rdrA W 149 g _) (by repeat first | exact .here _ _ | assumption | apply Pick.there))⟩
theorem crd_calls {w : World} {R : List Asn} {g g4 g6 : Nat} {v : Int} {m : Nat} {s : Rs} (h : decide (IntKind.i64.wrap (BitVec.ofInt IntKind.i64.bits v &&& BitVec.ofInt IntKind.i64.bits ((m : Nat) : Int)).toNat = 0) = !hasC v m) (hS : St W w (rdrA W 149 g s :: blkA g6 3 [.int .i64 v] :: blkA g4 79 [.pointer (some ⟨g, 0, none⟩)] :: R)) : Calls Try.prog 96 #[.int .i64 ((m : Nat) : Int), .pointer (some ⟨g6, 0, none⟩), .pointer (some ⟨g4, 0, none⟩)] w fun e w' => e = .returned (.int .i64 (oqI v m s).1) ∧ St W w' (rdrA W 149 g (oqI v m s).2 :: blkA g6 3 [.int .i64 v] :: blkA g4 79 [.pointer (some ⟨g, 0, none⟩)] :: R) := by
  cases hb2 : hasC v m with
  | true =>
    have e : oqI v m s = s.int := by unfold oqI; rw [hb2]; rfl
    rw [hb2] at h
    rw [e]
    exact crd_yes h hS
  | false =>
    have e : oqI v m s = (0, s) := by unfold oqI; rw [hb2]; rfl
    rw [hb2] at h
    rw [e]
    exact crd_no h hS
theorem crd3 {w : World} {R : List Asn} {g g4 g6 : Nat} {s : Rs} (hS : St W w (rdrA W 149 g (c2 s).2 :: blkA g6 3 [.int .i64 (cv s)] :: blkA g4 79 [.pointer (some ⟨g, 0, none⟩)] :: R)) : Calls Try.prog 96 #[.int .i64 1, .pointer (some ⟨g6, 0, none⟩), .pointer (some ⟨g4, 0, none⟩)] w fun e w' => e = .returned (.int .i64 (c3 s).1) ∧ St W w' (rdrA W 149 g (c3 s).2 :: blkA g6 3 [.int .i64 (cv s)] :: blkA g4 79 [.pointer (some ⟨g, 0, none⟩)] :: R) := crd_calls (m := 1) (and_cfl_1 _) hS
theorem crd4 {w : World} {R : List Asn} {g g4 g6 : Nat} {s : Rs} (hS : St W w (rdrA W 149 g (c3 s).2 :: blkA g6 3 [.int .i64 (cv s)] :: blkA g4 79 [.pointer (some ⟨g, 0, none⟩)] :: R)) : Calls Try.prog 96 #[.int .i64 16, .pointer (some ⟨g6, 0, none⟩), .pointer (some ⟨g4, 0, none⟩)] w fun e w' => e = .returned (.int .i64 (c4 s).1) ∧ St W w' (rdrA W 149 g (c4 s).2 :: blkA g6 3 [.int .i64 (cv s)] :: blkA g4 79 [.pointer (some ⟨g, 0, none⟩)] :: R) := crd_calls (m := 16) (and_cfl_16 _) hS
theorem crd6 {w : World} {R : List Asn} {g g4 g6 : Nat} {s : Rs} (hS : St W w (rdrA W 149 g (c5 s).2 :: blkA g6 3 [.int .i64 (cv s)] :: blkA g4 79 [.pointer (some ⟨g, 0, none⟩)] :: R)) : Calls Try.prog 96 #[.int .i64 4, .pointer (some ⟨g6, 0, none⟩), .pointer (some ⟨g4, 0, none⟩)] w fun e w' => e = .returned (.int .i64 (c6 s).1) ∧ St W w' (rdrA W 149 g (c6 s).2 :: blkA g6 3 [.int .i64 (cv s)] :: blkA g4 79 [.pointer (some ⟨g, 0, none⟩)] :: R) := crd_calls (m := 4) (and_cfl_4 _) hS
theorem crd7 {w : World} {R : List Asn} {g g4 g6 : Nat} {s : Rs} (hS : St W w (rdrA W 149 g (c6 s).2 :: blkA g6 3 [.int .i64 (cv s)] :: blkA g4 79 [.pointer (some ⟨g, 0, none⟩)] :: R)) : Calls Try.prog 96 #[.int .i64 8, .pointer (some ⟨g6, 0, none⟩), .pointer (some ⟨g4, 0, none⟩)] w fun e w' => e = .returned (.int .i64 (c7 s).1) ∧ St W w' (rdrA W 149 g (c7 s).2 :: blkA g6 3 [.int .i64 (cv s)] :: blkA g4 79 [.pointer (some ⟨g, 0, none⟩)] :: R) := crd_calls (m := 8) (and_cfl_8 _) hS
theorem crd8 {w : World} {R : List Asn} {g g4 g6 : Nat} {s : Rs} (hS : St W w (rdrA W 149 g (c7 s).2 :: blkA g6 3 [.int .i64 (cv s)] :: blkA g4 79 [.pointer (some ⟨g, 0, none⟩)] :: R)) : Calls Try.prog 96 #[.int .i64 32, .pointer (some ⟨g6, 0, none⟩), .pointer (some ⟨g4, 0, none⟩)] w fun e w' => e = .returned (.int .i64 (c8 s).1) ∧ St W w' (rdrA W 149 g (c8 s).2 :: blkA g6 3 [.int .i64 (cv s)] :: blkA g4 79 [.pointer (some ⟨g, 0, none⟩)] :: R) := crd_calls (m := 32) (and_cfl_32 _) hS
theorem crd9 {w : World} {R : List Asn} {g g4 g6 : Nat} {s : Rs} (hS : St W w (rdrA W 149 g (c8 s).2 :: blkA g6 3 [.int .i64 (cv s)] :: blkA g4 79 [.pointer (some ⟨g, 0, none⟩)] :: R)) : Calls Try.prog 96 #[.int .i64 64, .pointer (some ⟨g6, 0, none⟩), .pointer (some ⟨g4, 0, none⟩)] w fun e w' => e = .returned (.int .i64 (c9 s).1) ∧ St W w' (rdrA W 149 g (c9 s).2 :: blkA g6 3 [.int .i64 (cv s)] :: blkA g4 79 [.pointer (some ⟨g, 0, none⟩)] :: R) := crd_calls (m := 64) (and_cfl_64 _) hS
theorem crd10 {w : World} {R : List Asn} {g g4 g6 : Nat} {s : Rs} (hS : St W w (rdrA W 149 g (c9 s).2 :: blkA g6 3 [.int .i64 (cv s)] :: blkA g4 79 [.pointer (some ⟨g, 0, none⟩)] :: R)) : Calls Try.prog 96 #[.int .i64 128, .pointer (some ⟨g6, 0, none⟩), .pointer (some ⟨g4, 0, none⟩)] w fun e w' => e = .returned (.int .i64 (c10 s).1) ∧ St W w' (rdrA W 149 g (c10 s).2 :: blkA g6 3 [.int .i64 (cv s)] :: blkA g4 79 [.pointer (some ⟨g, 0, none⟩)] :: R) := crd_calls (m := 128) (and_cfl_128 _) hS
theorem crd11 {w : World} {R : List Asn} {g g4 g6 : Nat} {s : Rs} (hS : St W w (rdrA W 149 g (c10 s).2 :: blkA g6 3 [.int .i64 (cv s)] :: blkA g4 79 [.pointer (some ⟨g, 0, none⟩)] :: R)) : Calls Try.prog 96 #[.int .i64 256, .pointer (some ⟨g6, 0, none⟩), .pointer (some ⟨g4, 0, none⟩)] w fun e w' => e = .returned (.int .i64 (c11 s).1) ∧ St W w' (rdrA W 149 g (c11 s).2 :: blkA g6 3 [.int .i64 (cv s)] :: blkA g4 79 [.pointer (some ⟨g, 0, none⟩)] :: R) := crd_calls (m := 256) (and_cfl_256 _) hS
theorem crn0 {w : World} {L R : List Asn} {g : Nat} {s : Rs} (hS : St W w L) (pk : Pick L (rdrA W 149 g s) R) : Calls Try.prog 89 #[.pointer (some ⟨g, 0, none⟩), .int .u64 15] w fun e w' => e = .returned (.int .u64 ((c0 s).1 : Int)) ∧ St W w' (rdrA W 149 g (c0 s).2 :: R) := rNat (most := 15) hS pk (by decide) (by decide)
theorem crn1 {w : World} {L R : List Asn} {g : Nat} {s : Rs} (hS : St W w L) (pk : Pick L (rdrA W 149 g (c0 s).2) R) : Calls Try.prog 89 #[.pointer (some ⟨g, 0, none⟩), .int .u64 8] w fun e w' => e = .returned (.int .u64 ((c1 s).1 : Int)) ∧ St W w' (rdrA W 149 g (c1 s).2 :: R) := rNat (most := 8) hS pk (by decide) (by decide)
theorem crn2 {w : World} {L R : List Asn} {g : Nat} {s : Rs} (hS : St W w L) (pk : Pick L (rdrA W 149 g (c1 s).2) R) : Calls Try.prog 89 #[.pointer (some ⟨g, 0, none⟩), .int .u64 18446744073709551615] w fun e w' => e = .returned (.int .u64 ((c2 s).1 : Int)) ∧ St W w' (rdrA W 149 g (c2 s).2 :: R) := rNat (most := 18446744073709551615) hS pk (by decide) (by decide)
theorem cqn0 {w : World} {L R : List Asn} {g : Nat} {s : Rs} (hS : St W w L) (pk : Pick L (rdrA W 87 g s) R) : Calls Try.prog 91 #[.pointer (some ⟨g, 0, none⟩), .int .u64 15] w fun e w' => e = .returned (.int .u64 ((c0 s).1 : Int)) ∧ St W w' (rdrA W 87 g (c0 s).2 :: R) := qNat (most := 15) hS pk (by decide) (by decide)
theorem cqn1 {w : World} {L R : List Asn} {g : Nat} {s : Rs} (hS : St W w L) (pk : Pick L (rdrA W 87 g (c0 s).2) R) : Calls Try.prog 91 #[.pointer (some ⟨g, 0, none⟩), .int .u64 8] w fun e w' => e = .returned (.int .u64 ((c1 s).1 : Int)) ∧ St W w' (rdrA W 87 g (c1 s).2 :: R) := qNat (most := 8) hS pk (by decide) (by decide)
theorem cqn2 {w : World} {L R : List Asn} {g : Nat} {s : Rs} (hS : St W w L) (pk : Pick L (rdrA W 87 g (c1 s).2) R) : Calls Try.prog 91 #[.pointer (some ⟨g, 0, none⟩), .int .u64 18446744073709551615] w fun e w' => e = .returned (.int .u64 ((c2 s).1 : Int)) ∧ St W w' (rdrA W 87 g (c2 s).2 :: R) := qNat (most := 18446744073709551615) hS pk (by decide) (by decide)
theorem and_cv_2 (s : Rs) : decide (IntKind.i64.wrap (BitVec.ofInt IntKind.i64.bits (cv s) &&& BitVec.ofInt IntKind.i64.bits 2).toNat = 0) = !hasC (cv s) 2 := and_cfl_2 _
theorem and_cv_512 (s : Rs) : decide (IntKind.i64.wrap (BitVec.ofInt IntKind.i64.bits (cv s) &&& BitVec.ofInt IntKind.i64.bits 512).toNat = 0) = !hasC (cv s) 512 := and_cfl_512 _
theorem and_cv_1024 (s : Rs) : decide (IntKind.i64.wrap (BitVec.ofInt IntKind.i64.bits (cv s) &&& BitVec.ofInt IntKind.i64.bits 1024).toNat = 0) = !hasC (cv s) 1024 := and_cfl_1024 _
attribute [local irreducible] c0 c1 c2 c3 c4 c5 c6 c7 c8 c9 c10 c11 c12 c13 cv
end Go.Proofs.Ytmgobaojioaioaa
