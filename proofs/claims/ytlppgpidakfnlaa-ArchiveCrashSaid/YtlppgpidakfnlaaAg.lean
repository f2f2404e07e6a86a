/- Archives: what they have, and how they lie in memory. -/
import Derived.Test.YtlppgpidakfnlaaAd
import Derived.Test.YtlppgpidakfnlaaAe
import Derived.Test.YtlppgpidakfnlaaDp
namespace Go.Proofs.Ytlppgpidakfnlaa
open Go Go.RowKit Go.Lib
variable {W : World}
structure Ar where
  f0 : Int
  cn : Int
  s : Sn
  br : Bool
def arA (g gd : Nat) (a : Ar) : Asn := exA fun A => exA fun c => starA (blkA g 75 [.pointer (some ⟨gd, 0, none⟩), .int .i64 a.f0, .int .i64 (a.f0 + 1), .int .i64 a.cn, .int .u64 (a.s.i : Int), .int .u64 (a.s.t : Int), .slice A a.s.b.length c, .bool a.br]) (rowA 5 1 A a.s.b.length c (a.s.b.map bv))
theorem St.ar {w : World} {R : List Asn} {g gd : Nat} {a : Ar} (h : St W w (arA g gd a :: R)) : ∃ A c, St W w (blkA g 75 [.pointer (some ⟨gd, 0, none⟩), .int .i64 a.f0, .int .i64 (a.f0 + 1), .int .i64 a.cn, .int .u64 (a.s.i : Int), .int .u64 (a.s.t : Int), .slice A a.s.b.length c, .bool a.br] :: rowA 5 1 A a.s.b.length c (a.s.b.map bv) :: R) := by
  obtain ⟨A, h⟩ := h.ex
  obtain ⟨c, h⟩ := h.ex
  exact ⟨A, c, h.star⟩
theorem St.unar {w : World} {R : List Asn} {g gd : Nat} (a : Ar) {A : Option Addr} {c : Nat} (h : St W w (blkA g 75 [.pointer (some ⟨gd, 0, none⟩), .int .i64 a.f0, .int .i64 (a.f0 + 1), .int .i64 a.cn, .int .u64 (a.s.i : Int), .int .u64 (a.s.t : Int), .slice A a.s.b.length c, .bool a.br] :: rowA 5 1 A a.s.b.length c (a.s.b.map bv) :: R)) : St W w (arA g gd a :: R) := St.unex A (St.unex c h.unstar)
/-- one after the other: dropped, written, synced, the other one dropped -/
def svD1 (d : Dk) (n : Int) : Dk := tnD d n 0 (drF d.F n.toNat)
def svE2 (d : Dk) (n : Int) (ys : List UInt8) : Int := tnE (svD1 d n) n (apE (svD1 d n).F n.toNat ys.length)
def svD2 (d : Dk) (n : Int) (ys : List UInt8) : Dk := apD (svD1 d n) n (apE (svD1 d n).F n.toNat ys.length) (apF (svD1 d n).F n.toNat ys)
def svD3 (d : Dk) (n : Int) (ys : List UInt8) : Dk := tnD (svD2 d n ys) n 0 (syF (svD2 d n ys).F n.toNat)
def svD4 (d : Dk) (n old : Int) (ys : List UInt8) : Dk := tnD (svD3 d n ys) old 0 (drF (svD3 d n ys).F old.toNat)
def svP (d : Dk) (n old : Int) (ys : List UInt8) : Bool × Dk :=
  if tnE d n 0 ≠ 0 then (false, svD1 d n) else if svE2 d n ys ≠ 0 then (false, svD2 d n ys) else if tnE (svD2 d n ys) n 0 ≠ 0 then (false, svD3 d n ys)
  else (decide (tnE (svD3 d n ys) old 0 = 0), svD4 d n old ys)
section
variable {d : Dk} {n old : Int} {ys : List UInt8}
theorem svP_1 (h : tnE d n 0 ≠ 0) : svP d n old ys = (false, svD1 d n) := by unfold svP; rw [if_pos h]
theorem svP_2 (h : tnE d n 0 = 0) (h2 : svE2 d n ys ≠ 0) : svP d n old ys = (false, svD2 d n ys) := by unfold svP; rw [if_neg (by omega), if_pos h2]
theorem svP_3 (h : tnE d n 0 = 0) (h2 : svE2 d n ys = 0) (h3 : tnE (svD2 d n ys) n 0 ≠ 0) : svP d n old ys = (false, svD3 d n ys) := by unfold svP; rw [if_neg (by omega), if_neg (by omega), if_pos h3]
theorem svP_4 (h : tnE d n 0 = 0) (h2 : svE2 d n ys = 0) (h3 : tnE (svD2 d n ys) n 0 = 0) : svP d n old ys = (decide (tnE (svD3 d n ys) old 0 = 0), svD4 d n old ys) := by unfold svP; rw [if_neg (by omega), if_neg (by omega), if_neg (by omega)]
theorem tn_cal {i c : Int} {F : Nat → List UInt8 × Nat} : (tnD d i c F).calls ≤ d.calls + 1 := by
  unfold tnD
  split
  · omega
  · split
    · exact Int.le_refl _
    · exact Int.le_refl _
theorem ap_cal {i c : Int} {F : Nat → List UInt8 × Nat} : (apD d i c F).calls ≤ d.calls + 1 := by
  unfold apD
  split
  · omega
  · exact Int.le_refl _
theorem sv_good (hG : DGood d) : DGood (svD1 d n) ∧ DGood (svD2 d n ys) ∧ DGood (svD3 d n ys) ∧ DGood (svD4 d n old ys) := by
  have h1 : DGood (svD1 d n) := hG.tn (drF_good hG.fg _)
  have h2 : DGood (svD2 d n ys) := h1.ap
  have h3 : DGood (svD3 d n ys) := h2.tn (syF_good h2.fg _)
  exact ⟨h1, h2, h3, h3.tn (drF_good h3.fg _)⟩
theorem sv_cal : (svD1 d n).calls ≤ d.calls + 1 ∧ (svD2 d n ys).calls ≤ d.calls + 2 ∧ (svD3 d n ys).calls ≤ d.calls + 3 ∧ (svD4 d n old ys).calls ≤ d.calls + 4 := by
  have h1 : (svD1 d n).calls ≤ _ := tn_cal
  have h2 : (svD2 d n ys).calls ≤ _ := ap_cal
  have h3 : (svD3 d n ys).calls ≤ _ := tn_cal
  have h4 : (svD4 d n old ys).calls ≤ _ := tn_cal
  omega
end
def saTo (a : Ar) : Int := if a.cn = 0 then 1 else 0
def saP (a : Ar) (d : Dk) (s : Sn) : Bool × Dk := svP d (a.f0 + saTo a) (a.f0 + (1 - saTo a)) (snB s.i s.t s.b)
def saBad (a : Ar) (s : Sn) : Prop := a.br = true ∨ snE s.i s.t s.b ≠ 0 ∨ (0 ≤ a.cn ∧ s.i ≤ a.s.i)
instance (a : Ar) (s : Sn) : Decidable (saBad a s) := by unfold saBad; exact inferInstance
def saE (a : Ar) (d : Dk) (s : Sn) : Int := if a.br = true then 70 else if snE s.i s.t s.b ≠ 0 then snE s.i s.t s.b else if 0 ≤ a.cn ∧ s.i ≤ a.s.i then 55 else if (saP a d s).1 = true then 0 else 70
def saA (a : Ar) (d : Dk) (s : Sn) : Ar := if saBad a s then a else if (saP a d s).1 = true then ⟨a.f0, saTo a, s, false⟩ else { a with br := true }
def saD (a : Ar) (d : Dk) (s : Sn) : Dk := if saBad a s then d else (saP a d s).2
section
variable {a : Ar} {d : Dk} {s : Sn}
theorem sa_1 (h : a.br = true) : saE a d s = 70 ∧ saA a d s = a ∧ saD a d s = d := by
  unfold saE saA saD
  rw [if_pos h, if_pos (.inl h), if_pos (.inl h)]
  exact ⟨rfl, rfl, rfl⟩
theorem sa_2 (h : a.br = false) (h2 : snE s.i s.t s.b ≠ 0) : saE a d s = snE s.i s.t s.b ∧ saA a d s = a ∧ saD a d s = d := by
  unfold saE saA saD
  rw [if_neg (by rw [h]; decide), if_pos h2, if_pos (.inr (.inl h2)), if_pos (.inr (.inl h2))]
  exact ⟨rfl, rfl, rfl⟩
theorem sa_3 (h : a.br = false) (h2 : snE s.i s.t s.b = 0) (h3 : 0 ≤ a.cn ∧ s.i ≤ a.s.i) : saE a d s = 55 ∧ saA a d s = a ∧ saD a d s = d := by
  unfold saE saA saD
  rw [if_neg (by rw [h]; decide), if_neg (by omega), if_pos h3, if_pos (.inr (.inr h3)), if_pos (.inr (.inr h3))]
  exact ⟨rfl, rfl, rfl⟩
theorem sa_no (h : a.br = false) (h2 : snE s.i s.t s.b = 0) (h3 : ¬ (0 ≤ a.cn ∧ s.i ≤ a.s.i)) : ¬ saBad a s := by
  rintro (h' | h' | h')
  · rw [h] at h'; cases h'
  · exact h' h2
  · exact h3 h'
theorem sa_4 (h : a.br = false) (h2 : snE s.i s.t s.b = 0) (h3 : ¬ (0 ≤ a.cn ∧ s.i ≤ a.s.i)) (h4 : (saP a d s).1 = false) : saE a d s = 70 ∧ saA a d s = { a with br := true } ∧ saD a d s = (saP a d s).2 := by
  have hn := sa_no h h2 h3
  unfold saE saA saD
  rw [if_neg (by rw [h]; decide), if_neg (by omega), if_neg h3, if_neg hn, if_neg hn, h4]
  exact ⟨rfl, rfl, rfl⟩
theorem sa_5 (h : a.br = false) (h2 : snE s.i s.t s.b = 0) (h3 : ¬ (0 ≤ a.cn ∧ s.i ≤ a.s.i)) (h4 : (saP a d s).1 = true) : saE a d s = 0 ∧ saA a d s = ⟨a.f0, saTo a, s, false⟩ ∧ saD a d s = (saP a d s).2 := by
  have hn := sa_no h h2 h3
  unfold saE saA saD
  rw [if_neg (by rw [h]; decide), if_neg (by omega), if_neg h3, if_neg hn, if_neg hn, h4]
  exact ⟨rfl, rfl, rfl⟩
end
/-- what is opened -/
def opC (d : Dk) (n : Nat) : Nat → Int × Sn
  | 0 => (-1, sn0)
  | j + 1 => if (tel (d.F (n + j)).1).isSome = true ∧ ((opC d n j).1 < 0 ∨ (opC d n j).2.i < (telS (d.F (n + j)).1).i) then ((j : Int), telS (d.F (n + j)).1) else opC d n j
def opD (d : Dk) (n : Nat) (c : Int) : Nat → Dk
  | 0 => d
  | j + 1 => if (j : Int) = c then tnD (opD d n c j) ((n + j : Nat) : Int) 0 (syF (opD d n c j).F (n + j)) else if 0 < ((opD d n c j).F (n + j)).1.length then tnD (opD d n c j) ((n + j : Nat) : Int) 0 (drF (opD d n c j).F (n + j)) else opD d n c j
theorem opD_ok {d : Dk} {n : Nat} {c : Int} (hG : DGood d) (hg : d.gone = false) (hf : d.fuse < 0) : ∀ j, DGood (opD d n c j) ∧ (opD d n c j).gone = false ∧ (opD d n c j).fuse = d.fuse ∧ (opD d n c j).calls ≤ d.calls + j
  | 0 => ⟨hG, hg, rfl, by show d.calls ≤ d.calls + ((0 : Nat) : Int); omega⟩
  | j + 1 => by
    obtain ⟨h1, h2, h3, h4⟩ := opD_ok (n := n) (c := c) hG hg hf j
    have key : ∀ (i : Int) (F : Nat → List UInt8 × Nat), FGood F → DGood (tnD (opD d n c j) i 0 F) ∧ (tnD (opD d n c j) i 0 F).gone = false ∧ (tnD (opD d n c j) i 0 F).fuse = d.fuse ∧ (tnD (opD d n c j) i 0 F).calls ≤ d.calls + ((j + 1 : Nat) : Int) := by
      intro i F hF
      have hb : (opD d n c j).blow.gone = false := by show decide ((opD d n c j).fuse = 0) = false; exact decide_eq_false (by omega)
      have hbf : (opD d n c j).blow.fuse = d.fuse := by show (if 0 < (opD d n c j).fuse then _ else _) = _; rw [if_neg (by omega)]; exact h3
      refine ⟨h1.tn hF, ?_, ?_, ?_⟩
      · unfold tnD
        split
        · exact h2
        · split
          · exact hb
          · exact hb
      · unfold tnD
        split
        · exact h3
        · split
          · exact hbf
          · exact hbf
      · have := tn_cal (d := opD d n c j) (i := i) (c := 0) (F := F)
        omega
    rw [opD]
    split
    · exact key _ _ (syF_good h1.fg _)
    · split
      · exact key _ _ (drF_good h1.fg _)
      · exact ⟨h1, h2, h3, by omega⟩
theorem ar_eq {a : Ar} (h : a.br = false) : ({ a with br := false } : Ar) = a := by cases a; simp_all
theorem files_at {n : Int} {m j : Nat} (hn : n = (m : Int)) (h : j < 2) : [Value.int .i64 n, Value.int .i64 (n + 1)][j]? = some (.int .i64 ((m + j : Nat) : Int)) := by
  subst hn
  match j, h with
  | 0, _ => rfl
  | 1, _ => exact congrArg (fun x => some (Value.int .i64 x)) (by omega)

end Go.Proofs.Ytlppgpidakfnlaa
