/- Ballots: what they are. -/
import Derived.Test.YtlppgpidakfnlaaBc
namespace Go.Proofs.Ytlppgpidakfnlaa
open Go Go.RowKit Go.Lib
variable {W : World}
structure Bl where
  f0 : Int
  cn : Int
  ea : Int
  r : Rc
  br : Bool
theorem tn_good {d : Dk} {i c : Int} {F : Nat → List UInt8 × Nat} (hG : DGood d) (hF : FGood F) : DGood (tnD d i c F) := hG.tn hF
/-- a torn end cut off -/
def td1 (d : Dk) (i : Nat) : Dk := if endN (d.F i).1 < (d.F i).1.length then tnD d (i : Int) 0 (cuF d.F i (endN (d.F i).1 : Int)) else d
def tdD (d : Dk) (i : Nat) : Dk := if (d.F i).1.length = 0 then td1 d i else tnD (td1 d i) (i : Int) 0 (syF (td1 d i).F i)
theorem tn_keep {d : Dk} {i : Int} {F : Nat → List UInt8 × Nat} (hG : DGood d) (hg : d.gone = false) (hf : d.fuse < 0) (hF : FGood F) : DGood (tnD d i 0 F) ∧ (tnD d i 0 F).gone = false ∧ (tnD d i 0 F).fuse = d.fuse ∧ (tnD d i 0 F).calls ≤ d.calls + 1 := by
  have hb : d.blow.gone = false := decide_eq_false (by omega)
  have hbf : d.blow.fuse = d.fuse := by show (if 0 < d.fuse then _ else _) = _; rw [if_neg (by omega)]
  refine ⟨hG.tn hF, ?_, ?_, tn_cal⟩
  · unfold tnD
    split
    · exact hg
    · split
      · exact hb
      · exact hb
  · unfold tnD
    split
    · rfl
    · split
      · exact hbf
      · exact hbf
theorem td1_ok {d : Dk} {i : Nat} (hG : DGood d) (hg : d.gone = false) (hf : d.fuse < 0) : DGood (td1 d i) ∧ (td1 d i).gone = false ∧ (td1 d i).fuse = d.fuse ∧ (td1 d i).calls ≤ d.calls + 1 := by
  unfold td1
  split
  · exact tn_keep hG hg hf (cuF_good hG.fg _ _)
  · exact ⟨hG, hg, rfl, by omega⟩
theorem tdD_ok {d : Dk} {i : Nat} (hG : DGood d) (hg : d.gone = false) (hf : d.fuse < 0) : DGood (tdD d i) ∧ (tdD d i).gone = false ∧ (tdD d i).fuse = d.fuse ∧ (tdD d i).calls ≤ d.calls + 2 := by
  obtain ⟨h1, h2, h3, h4⟩ := td1_ok (i := i) hG hg hf
  unfold tdD
  split
  · exact ⟨h1, h2, h3, by omega⟩
  · obtain ⟨k1, k2, k3, k4⟩ := tn_keep (i := (i : Int)) h1 h2 (by omega) (syF_good h1.fg i)
    exact ⟨k1, k2, by omega, by omega⟩
def tdJ (d : Dk) (n : Nat) : Nat → Dk
  | 0 => d
  | j + 1 => tdD (tdJ d n j) (n + j)
theorem tdJ_ok {d : Dk} {n : Nat} (hG : DGood d) (hg : d.gone = false) (hf : d.fuse < 0) : ∀ j, DGood (tdJ d n j) ∧ (tdJ d n j).gone = false ∧ (tdJ d n j).fuse = d.fuse ∧ (tdJ d n j).calls ≤ d.calls + 2 * (j : Int)
  | 0 => ⟨hG, hg, rfl, by show d.calls ≤ d.calls + 2 * ((0 : Nat) : Int); omega⟩
  | j + 1 => by
    obtain ⟨h1, h2, h3, h4⟩ := tdJ_ok (n := n) hG hg hf j
    obtain ⟨k1, k2, k3, k4⟩ := tdD_ok (i := n + j) h1 h2 (by omega)
    exact ⟨k1, k2, k3.trans h3, by show (tdD (tdJ d n j) (n + j)).calls ≤ _; omega⟩
/-- a file that is whole is but synced -/
theorem tdD_whole {d : Dk} {i : Nat} (hg : d.gone = false) (hf : d.fuse < 0) (hi : i < 32) (hw : endN (d.F i).1 = (d.F i).1.length) : (tdD d i).F i = ((d.F i).1, if (d.F i).1.length = 0 then (d.F i).2 else (d.F i).1.length) ∧ ∀ j, j ≠ i → (tdD d i).F j = d.F j := by
  have e1 : td1 d i = d := by unfold td1; rw [if_neg (by omega)]
  unfold tdD
  rw [e1]
  by_cases h : (d.F i).1.length = 0
  · rw [if_pos h, if_pos h]
    exact ⟨rfl, fun j _ => rfl⟩
  · rw [if_neg h, if_neg h, (tn_run (F := syF d.F i) hg hf (i := (i : Int)) (by omega)).2.1]
    unfold syF
    exact ⟨updF_at _ _ _, fun j hj => updF_ne hj⟩
/-- saving: the other file emptied, if this one is long; written; synced -/
def bsN (d : Dk) (b : Bl) : Int := b.f0 + b.cn
def bsL (d : Dk) (b : Bl) : Prop := b.ea ≤ ((d.F (bsN d b).toNat).1.length : Int)
instance (d : Dk) (b : Bl) : Decidable (bsL d b) := by unfold bsL; exact inferInstance
def bsC (d : Dk) (b : Bl) : Int := if bsL d b then 1 - b.cn else b.cn
def bsE1 (d : Dk) (b : Bl) : Int := if bsL d b then tnE d (b.f0 + (1 - b.cn)) 0 else 0
def bsD1 (d : Dk) (b : Bl) : Dk := if bsL d b then tnD d (b.f0 + (1 - b.cn)) 0 (drF d.F (b.f0 + (1 - b.cn)).toNat) else d
def bsM (d : Dk) (b : Bl) : Int := b.f0 + bsC d b
def bsE2 (d : Dk) (b : Bl) (ys : List UInt8) : Int := tnE (bsD1 d b) (bsM d b) (apE (bsD1 d b).F (bsM d b).toNat ys.length)
def bsD2 (d : Dk) (b : Bl) (ys : List UInt8) : Dk := apD (bsD1 d b) (bsM d b) (apE (bsD1 d b).F (bsM d b).toNat ys.length) (apF (bsD1 d b).F (bsM d b).toNat ys)
def bsE3 (d : Dk) (b : Bl) (ys : List UInt8) : Int := tnE (bsD2 d b ys) (bsM d b) 0
def bsD3 (d : Dk) (b : Bl) (ys : List UInt8) : Dk := tnD (bsD2 d b ys) (bsM d b) 0 (syF (bsD2 d b ys).F (bsM d b).toNat)
def bsX (t : Nat) (v : Int) : Rc := (t, (v + 1).toNat)
def bsArg (t : Nat) (v : Int) : Prop := 4611686018427387904 < t ∨ v < -1 ∨ 7 ≤ v
instance (t : Nat) (v : Int) : Decidable (bsArg t v) := by unfold bsArg; exact inferInstance
/-- what Save tells; the ballot and the disk behind it -/
def bsR (d : Dk) (b : Bl) (t : Nat) (v : Int) : Int × Bl × Dk :=
  if b.br = true then (70, b, d) else if bsArg t v then (2, b, d) else if bsX t v = b.r then (0, b, d) else if ¬ abv (bsX t v) b.r then (55, b, d)
  else if bsE1 d b ≠ 0 then (70, { b with br := true }, bsD1 d b)
  else if bsE2 d b (recB (bsX t v)) ≠ 0 then (70, { b with cn := bsC d b, br := true }, bsD2 d b (recB (bsX t v)))
  else if bsE3 d b (recB (bsX t v)) ≠ 0 then (70, { b with cn := bsC d b, br := true }, bsD3 d b (recB (bsX t v)))
  else (0, ⟨b.f0, bsC d b, b.ea, bsX t v, false⟩, bsD3 d b (recB (bsX t v)))
section
variable {d : Dk} {b : Bl} {t : Nat} {v : Int}
theorem bsR_1 (h : b.br = true) : bsR d b t v = (70, b, d) := by unfold bsR; rw [if_pos h]
theorem bsR_2 (h : b.br = false) (h2 : bsArg t v) : bsR d b t v = (2, b, d) := by unfold bsR; rw [if_neg (by rw [h]; decide), if_pos h2]
theorem bsR_3 (h : b.br = false) (h2 : ¬ bsArg t v) (h3 : bsX t v = b.r) : bsR d b t v = (0, b, d) := by unfold bsR; rw [if_neg (by rw [h]; decide), if_neg h2, if_pos h3]
theorem bsR_4 (h : b.br = false) (h2 : ¬ bsArg t v) (h3 : ¬ bsX t v = b.r) (h4 : ¬ abv (bsX t v) b.r) : bsR d b t v = (55, b, d) := by unfold bsR; rw [if_neg (by rw [h]; decide), if_neg h2, if_neg h3, if_pos h4]
theorem bsR_5 (h : b.br = false) (h2 : ¬ bsArg t v) (h3 : ¬ bsX t v = b.r) (h4 : abv (bsX t v) b.r) (h5 : bsE1 d b ≠ 0) : bsR d b t v = (70, { b with br := true }, bsD1 d b) := by unfold bsR; rw [if_neg (by rw [h]; decide), if_neg h2, if_neg h3, if_neg (fun k => k h4), if_pos h5]
theorem bsR_6 (h : b.br = false) (h2 : ¬ bsArg t v) (h3 : ¬ bsX t v = b.r) (h4 : abv (bsX t v) b.r) (h5 : bsE1 d b = 0) (h6 : bsE2 d b (recB (bsX t v)) ≠ 0) : bsR d b t v = (70, { b with cn := bsC d b, br := true }, bsD2 d b (recB (bsX t v))) := by unfold bsR; rw [if_neg (by rw [h]; decide), if_neg h2, if_neg h3, if_neg (fun k => k h4), if_neg (fun k => k h5), if_pos h6]
theorem bsR_7 (h : b.br = false) (h2 : ¬ bsArg t v) (h3 : ¬ bsX t v = b.r) (h4 : abv (bsX t v) b.r) (h5 : bsE1 d b = 0) (h6 : bsE2 d b (recB (bsX t v)) = 0) (h7 : bsE3 d b (recB (bsX t v)) ≠ 0) : bsR d b t v = (70, { b with cn := bsC d b, br := true }, bsD3 d b (recB (bsX t v))) := by unfold bsR; rw [if_neg (by rw [h]; decide), if_neg h2, if_neg h3, if_neg (fun k => k h4), if_neg (fun k => k h5), if_neg (fun k => k h6), if_pos h7]
theorem bsR_8 (h : b.br = false) (h2 : ¬ bsArg t v) (h3 : ¬ bsX t v = b.r) (h4 : abv (bsX t v) b.r) (h5 : bsE1 d b = 0) (h6 : bsE2 d b (recB (bsX t v)) = 0) (h7 : bsE3 d b (recB (bsX t v)) = 0) : bsR d b t v = (0, ⟨b.f0, bsC d b, b.ea, bsX t v, false⟩, bsD3 d b (recB (bsX t v))) := by unfold bsR; rw [if_neg (by rw [h]; decide), if_neg h2, if_neg h3, if_neg (fun k => k h4), if_neg (fun k => k h5), if_neg (fun k => k h6), if_neg (fun k => k h7)]
theorem bs_good (hG : DGood d) {ys : List UInt8} : DGood (bsD1 d b) ∧ DGood (bsD2 d b ys) ∧ DGood (bsD3 d b ys) := by
  have h1 : DGood (bsD1 d b) := by
    unfold bsD1
    split
    · exact hG.tn (drF_good hG.fg _)
    · exact hG
  have h2 : DGood (bsD2 d b ys) := h1.ap
  exact ⟨h1, h2, h2.tn (syF_good h2.fg _)⟩
theorem bs_cal {ys : List UInt8} : (bsD1 d b).calls ≤ d.calls + 1 ∧ (bsD2 d b ys).calls ≤ d.calls + 2 ∧ (bsD3 d b ys).calls ≤ d.calls + 3 := by
  have h1 : (bsD1 d b).calls ≤ d.calls + 1 := by
    unfold bsD1
    split
    · exact tn_cal
    · omega
  have h2 : (bsD2 d b ys).calls ≤ (bsD1 d b).calls + 1 := ap_cal
  have h3 : (bsD3 d b ys).calls ≤ (bsD2 d b ys).calls + 1 := tn_cal
  exact ⟨h1, by omega, by omega⟩
theorem bsX_ok (h : ¬ bsArg t v) : recOk (bsX t v) := by
  unfold bsArg at h
  unfold bsX recOk mI
  show t ≤ _ ∧ (v + 1).toNat ≤ 7
  omega
end
def blA (g gd : Nat) (b : Bl) : Asn := blkA g 107 [.pointer (some ⟨gd, 0, none⟩), .int .i64 b.f0, .int .i64 (b.f0 + 1), .int .i64 b.cn, .int .i64 b.ea, .int .u64 ((b.r).1 : Int), .int .u64 ((b.r).2 : Int), .bool b.br]
attribute [local irreducible] blkA rowA rdrA rdO dskA
set_option maxRecDepth 100000 in
theorem bnone_nil : Calls Try.prog 98 #[.pointer none] W fun e w' => e = .returned (.bool true) ∧ St W w' [] := by
  have hS := St.init W
  refine calls_of_wpE (args := [_]) Try.func98 rfl rfl rfl ?_
  refine c_seq ?_
  refine c_region ?_
  refine t_q (q_assign) ?_
  refine t_nil ?_
  refine c_seq ?_
  refine c_region ?_
  refine t_q (q_mv (.pointer _) rfl) ?_
  refine t_q (q_eql_ptr_nil Try.runUnderlying85 rfl rfl) ?_
  refine t_q (q_mv (.bool _) rfl) ?_
  refine t_no rfl rfl (by decide) ?_
  refine t_no rfl rfl (by decide) ?_
  refine t_no rfl rfl (by decide) ?_
  refine t_no rfl rfl (by decide) ?_
  refine t_no rfl rfl (by decide) ?_
  refine t_q (q_pick_t rfl rfl) ?_
  refine t_q (q_as (.bool _) rfl) ?_
  refine t_nil ?_
  refine c_ret ?_
  refine r_one rfl rfl ?_
  exact ⟨rfl, hS⟩
set_option maxRecDepth 100000 in
theorem bnone_zero {w : World} {L R : List Asn} {g : Nat} {vs : List Value} (hS : St W w L) (pk : Pick L (blkA g 107 (.pointer none :: vs)) R) : Calls Try.prog 98 #[.pointer (some ⟨g, 0, none⟩)] w fun e w' => e = .returned (.bool true) ∧ St W w' (blkA g 107 (.pointer none :: vs) :: R) := by
  replace hS := hS.pick pk
  clear pk
  refine calls_of_wpE (args := [_]) Try.func98 rfl rfl rfl ?_
  refine c_seq ?_
  refine c_region ?_
  refine t_q (q_assign) ?_
  refine t_nil ?_
  refine c_seq ?_
  refine c_region ?_
  refine t_q (q_mv (.pointer _) rfl) ?_
  refine t_q (q_eql_ptr_nil Try.runUnderlying85 rfl rfl) ?_
  refine t_q (q_mv (.bool _) rfl) ?_
  refine t_yes rfl rfl rfl ?_
  refine t_q (q_mv (.pointer _) rfl) ?_
  refine t_yes rfl rfl rfl ?_
  refine t_q (q_nilCheck rfl) ?_
  refine t_yes rfl rfl rfl ?_
  refine t_q (q_fieldAddr 0 Try.runUnderlying107 rfl Try.sizeOf58 (by decide) rfl rfl) ?_
  refine t_yes rfl rfl rfl ?_
  refine t_q (q_load1 Try.isAgg58 rfl (hS.cell (by repeat first | exact .here _ _ | assumption | apply Pick.there) rfl)) ?_
  refine t_yes rfl rfl rfl ?_
  refine t_q (q_eql_ptr_nil Try.runUnderlying58 rfl rfl) ?_
  refine t_q (q_pick_f rfl rfl) ?_
  refine t_q (q_as (.bool _) rfl) ?_
  refine t_nil ?_
  refine c_ret ?_
  refine r_one rfl rfl ?_
  exact ⟨rfl, hS⟩
set_option maxRecDepth 100000 in
theorem bnone_calls {w : World} {L R : List Asn} {g gd : Nat} {vs : List Value} (hS : St W w L) (pk : Pick L (blkA g 107 (.pointer (some ⟨gd, 0, none⟩) :: vs)) R) : Calls Try.prog 98 #[.pointer (some ⟨g, 0, none⟩)] w fun e w' => e = .returned (.bool false) ∧ St W w' (blkA g 107 (.pointer (some ⟨gd, 0, none⟩) :: vs) :: R) := by
  replace hS := hS.pick pk
  clear pk
  refine calls_of_wpE (args := [_]) Try.func98 rfl rfl rfl ?_
  refine c_seq ?_
  refine c_region ?_
  refine t_q (q_assign) ?_
  refine t_nil ?_
  refine c_seq ?_
  refine c_region ?_
  refine t_q (q_mv (.pointer _) rfl) ?_
  refine t_q (q_eql_ptr_nil Try.runUnderlying85 rfl rfl) ?_
  refine t_q (q_mv (.bool _) rfl) ?_
  refine t_yes rfl rfl rfl ?_
  refine t_q (q_mv (.pointer _) rfl) ?_
  refine t_yes rfl rfl rfl ?_
  refine t_q (q_nilCheck rfl) ?_
  refine t_yes rfl rfl rfl ?_
  refine t_q (q_fieldAddr 0 Try.runUnderlying107 rfl Try.sizeOf58 (by decide) rfl rfl) ?_
  refine t_yes rfl rfl rfl ?_
  refine t_q (q_load1 Try.isAgg58 rfl (hS.cell (by repeat first | exact .here _ _ | assumption | apply Pick.there) rfl)) ?_
  refine t_yes rfl rfl rfl ?_
  refine t_q (q_eql_ptr_nil Try.runUnderlying58 rfl rfl) ?_
  refine t_q (q_pick_f rfl rfl) ?_
  refine t_q (q_as (.bool _) rfl) ?_
  refine t_nil ?_
  refine c_ret ?_
  refine r_one rfl rfl ?_
  exact ⟨rfl, hS⟩
set_option maxRecDepth 100000 in
theorem bdone_calls {w : World} {L R : List Asn} {g gd : Nat} {v1 v2 v3 v4 v5 v6 : Value} {e0 : Int} (hS : St W w L) (pk : Pick L (blkA g 107 [.pointer (some ⟨gd, 0, none⟩), v1, v2, v3, v4, v5, v6, .bool false]) R) : Calls Try.prog 100 #[.pointer (some ⟨g, 0, none⟩), .int .i64 e0] w fun e w' => e = .returned (.bool (decide (e0 = 0))) ∧ St W w' (blkA g 107 [.pointer (some ⟨gd, 0, none⟩), v1, v2, v3, v4, v5, v6, .bool (decide (e0 ≠ 0))] :: R) := by
  replace hS := hS.pick pk
  clear pk
  refine calls_of_wpE (args := [_, _]) Try.func100 rfl rfl rfl ?_
  refine c_seq ?_
  refine c_region ?_
  refine t_q (q_assign) ?_
  refine t_nil ?_
  refine c_seq ?_
  refine c_region ?_
  refine t_q (q_mv (.pointer _) rfl) ?_
  refine t_q (q_mv (.pointer _) rfl) ?_
  refine t_q (q_nilCheck rfl) ?_
  refine t_q (q_fieldAddr 7 Try.runUnderlying107 rfl Try.sizeOf4 (by decide) rfl rfl) ?_
  refine t_q (q_load1 Try.isAgg4 rfl (hS.cell (by repeat first | exact .here _ _ | assumption | apply Pick.there) rfl)) ?_
  refine t_q (q_mv (.bool _) rfl) ?_
  refine t_yes rfl rfl rfl ?_
  refine t_q (q_mv (.int _ _) rfl) ?_
  refine t_yes rfl rfl rfl ?_
  refine t_q (q_neq rfl rfl) ?_
  refine t_q (q_pick_f rfl rfl) ?_
  refine t_q (q_nilCheck rfl) ?_
  refine t_q (q_fieldAddr 7 Try.runUnderlying107 rfl Try.sizeOf4 (by decide) rfl rfl) ?_
  refine t_store (v := (.bool _)) Try.sizeOf4 hS (by repeat first | exact .here _ _ | assumption | apply Pick.there) rfl rfl rfl rfl rfl rfl (fun w hS => ?_)
  replace hS := hS.recast (show _ = blkA g 107 [.pointer (some ⟨gd, 0, none⟩), v1, v2, v3, v4, v5, v6, .bool (decide (e0 ≠ 0))] from rfl)
  refine t_nil ?_
  refine c_seq ?_
  refine c_region ?_
  refine t_q (q_mv (.pointer _) rfl) ?_
  refine t_q (q_nilCheck rfl) ?_
  refine t_q (q_fieldAddr 7 Try.runUnderlying107 rfl Try.sizeOf4 (by decide) rfl rfl) ?_
  refine t_q (q_load1 Try.isAgg4 rfl (hS.cell (by repeat first | exact .here _ _ | assumption | apply Pick.there) rfl)) ?_
  refine t_q (q_not rfl) ?_
  refine t_q (q_as (.bool _) rfl) ?_
  refine t_nil ?_
  refine c_ret ?_
  refine r_one rfl rfl ?_
  refine ⟨congrArg (fun b => Ending.returned (.bool b)) ?_, hS⟩
  by_cases h : e0 = 0 <;> simp [h]
set_option maxRecDepth 100000 in
theorem bterm_nil : Calls Try.prog 53 #[.pointer none] W fun e w' => e = .returned (.int .u64 0) ∧ St W w' [] := by
  have hS := St.init W
  refine calls_of_wpE (args := [_]) Try.func53 rfl rfl rfl ?_
  refine c_seq ?_
  refine c_region ?_
  refine t_q (q_assign) ?_
  refine t_nil ?_
  refine c_seq ?_
  refine c_seq ?_
  refine c_region ?_
  refine t_q (q_mv (.pointer _) rfl) ?_
  refine t_call Try.call98 (bnone_nil) rfl ?_
  rintro e w ⟨rfl, hT⟩
  refine ⟨_, rfl, ?_⟩
  replace hS := hS.after hT
  refine t_nil ?_
  refine c_cond_t rfl rfl ?_
  refine c_seq ?_
  refine c_region ?_
  refine t_q (q_assign) ?_
  refine t_nil ?_
  refine c_ret ?_
  refine r_one rfl rfl ?_
  exact ⟨rfl, hS.nil⟩
set_option maxRecDepth 100000 in
theorem bterm_zero {w : World} {L R : List Asn} {g : Nat} {vs : List Value} (hS : St W w L) (pk : Pick L (blkA g 107 (.pointer none :: vs)) R) : Calls Try.prog 53 #[.pointer (some ⟨g, 0, none⟩)] w fun e w' => e = .returned (.int .u64 0) ∧ St W w' (blkA g 107 (.pointer none :: vs) :: R) := by
  replace hS := hS.pick pk
  clear pk
  refine calls_of_wpE (args := [_]) Try.func53 rfl rfl rfl ?_
  refine c_seq ?_
  refine c_region ?_
  refine t_q (q_assign) ?_
  refine t_nil ?_
  refine c_seq ?_
  refine c_seq ?_
  refine c_region ?_
  refine t_q (q_mv (.pointer _) rfl) ?_
  refine t_call Try.call98 (bnone_zero hS (by repeat first | exact .here _ _ | assumption | apply Pick.there)) rfl ?_
  rintro e w ⟨rfl, hS⟩
  refine ⟨_, rfl, ?_⟩
  refine t_nil ?_
  refine c_cond_t rfl rfl ?_
  refine c_seq ?_
  refine c_region ?_
  refine t_q (q_assign) ?_
  refine t_nil ?_
  refine c_ret ?_
  refine r_one rfl rfl ?_
  exact ⟨rfl, hS⟩
set_option maxRecDepth 100000 in
theorem bterm_calls {w : World} {L R : List Asn} {g gd : Nat} {b : Bl}  (hS : St W w L) (pk : Pick L (blA g gd b) R) : Calls Try.prog 53 #[.pointer (some ⟨g, 0, none⟩)] w fun e w' => e = .returned (.int .u64 (b.r.1 : Int)) ∧ St W w' (blA g gd b :: R) := by
  replace hS := hS.pick pk
  clear pk
  replace hS : St W w (blkA g 107 _ :: R) := hS
  refine calls_of_wpE (args := [_]) Try.func53 rfl rfl rfl ?_
  refine c_seq ?_
  refine c_region ?_
  refine t_q (q_assign) ?_
  refine t_nil ?_
  refine c_seq ?_
  refine c_seq ?_
  refine c_region ?_
  refine t_q (q_mv (.pointer _) rfl) ?_
  refine t_call Try.call98 (bnone_calls hS (by repeat first | exact .here _ _ | assumption | apply Pick.there)) rfl ?_
  rintro e w ⟨rfl, hS⟩
  refine ⟨_, rfl, ?_⟩
  refine t_nil ?_
  refine c_cond_f rfl rfl ?_
  refine c_skip ?_
  refine c_seq ?_
  refine c_region ?_
  refine t_q (q_mv (.pointer _) rfl) ?_
  refine t_q (q_nilCheck rfl) ?_
  refine t_q (q_fieldAddr 5 Try.runUnderlying107 rfl Try.sizeOf105 (by decide) rfl rfl) ?_
  refine t_q (q_fieldAddr 0 Try.runUnderlying105 rfl Try.sizeOf43 (by decide) rfl rfl) ?_
  refine t_q (q_load1 Try.isAgg43 rfl (hS.cell (by repeat first | exact .here _ _ | assumption | apply Pick.there) rfl)) ?_
  refine t_q (q_as (.int _ _) rfl) ?_
  refine t_nil ?_
  refine c_ret ?_
  refine r_one rfl rfl ?_
  exact ⟨rfl, hS⟩
set_option maxRecDepth 100000 in
theorem bvote_nil : Calls Try.prog 54 #[.pointer none] W fun e w' => e = .returned (.int .i64 (-1)) ∧ St W w' [] := by
  have hS := St.init W
  refine calls_of_wpE (args := [_]) Try.func54 rfl rfl rfl ?_
  refine c_seq ?_
  refine c_region ?_
  refine t_q (q_assign) ?_
  refine t_nil ?_
  refine c_seq ?_
  refine c_seq ?_
  refine c_region ?_
  refine t_q (q_mv (.pointer _) rfl) ?_
  refine t_call Try.call98 (bnone_nil) rfl ?_
  rintro e w ⟨rfl, hT⟩
  refine ⟨_, rfl, ?_⟩
  replace hS := hS.after hT
  refine t_nil ?_
  refine c_cond_t rfl rfl ?_
  refine c_seq ?_
  refine c_region ?_
  refine t_q (q_assign) ?_
  refine t_nil ?_
  refine c_ret ?_
  refine r_one rfl rfl ?_
  exact ⟨rfl, hS.nil⟩
set_option maxRecDepth 100000 in
theorem bvote_zero {w : World} {L R : List Asn} {g : Nat} {vs : List Value} (hS : St W w L) (pk : Pick L (blkA g 107 (.pointer none :: vs)) R) : Calls Try.prog 54 #[.pointer (some ⟨g, 0, none⟩)] w fun e w' => e = .returned (.int .i64 (-1)) ∧ St W w' (blkA g 107 (.pointer none :: vs) :: R) := by
  replace hS := hS.pick pk
  clear pk
  refine calls_of_wpE (args := [_]) Try.func54 rfl rfl rfl ?_
  refine c_seq ?_
  refine c_region ?_
  refine t_q (q_assign) ?_
  refine t_nil ?_
  refine c_seq ?_
  refine c_seq ?_
  refine c_region ?_
  refine t_q (q_mv (.pointer _) rfl) ?_
  refine t_call Try.call98 (bnone_zero hS (by repeat first | exact .here _ _ | assumption | apply Pick.there)) rfl ?_
  rintro e w ⟨rfl, hS⟩
  refine ⟨_, rfl, ?_⟩
  refine t_nil ?_
  refine c_cond_t rfl rfl ?_
  refine c_seq ?_
  refine c_region ?_
  refine t_q (q_assign) ?_
  refine t_nil ?_
  refine c_ret ?_
  refine r_one rfl rfl ?_
  exact ⟨rfl, hS⟩
set_option maxRecDepth 100000 in
theorem bvote_calls {w : World} {L R : List Asn} {g gd : Nat} {b : Bl} (h7 : b.r.2 ≤ 7) (hS : St W w L) (pk : Pick L (blA g gd b) R) : Calls Try.prog 54 #[.pointer (some ⟨g, 0, none⟩)] w fun e w' => e = .returned (.int .i64 ((b.r.2 : Int) - 1)) ∧ St W w' (blA g gd b :: R) := by
  replace hS := hS.pick pk
  clear pk
  replace hS : St W w (blkA g 107 _ :: R) := hS
  refine calls_of_wpE (args := [_]) Try.func54 rfl rfl rfl ?_
  refine c_seq ?_
  refine c_region ?_
  refine t_q (q_assign) ?_
  refine t_nil ?_
  refine c_seq ?_
  refine c_seq ?_
  refine c_region ?_
  refine t_q (q_mv (.pointer _) rfl) ?_
  refine t_call Try.call98 (bnone_calls hS (by repeat first | exact .here _ _ | assumption | apply Pick.there)) rfl ?_
  rintro e w ⟨rfl, hS⟩
  refine ⟨_, rfl, ?_⟩
  refine t_nil ?_
  refine c_cond_f rfl rfl ?_
  refine c_skip ?_
  refine c_seq ?_
  refine c_region ?_
  refine t_q (q_mv (.pointer _) rfl) ?_
  refine t_q (q_nilCheck rfl) ?_
  refine t_q (q_fieldAddr 5 Try.runUnderlying107 rfl Try.sizeOf105 (by decide) rfl rfl) ?_
  refine t_q (q_fieldAddr 1 Try.runUnderlying105 rfl Try.sizeOf43 (by decide) rfl rfl) ?_
  refine t_q (q_load1 Try.isAgg43 rfl (hS.cell (by repeat first | exact .here _ _ | assumption | apply Pick.there) rfl)) ?_
  refine t_q (q_conv_i64 Try.runUnderlying43 Try.runUnderlying3 rfl (by omega)) ?_
  refine t_q (q_sub_i64 rfl rfl (by omega)) ?_
  refine t_q (q_as (.int _ _) rfl) ?_
  refine t_nil ?_
  refine c_ret ?_
  refine r_one rfl rfl ?_
  exact ⟨rfl, hS⟩
set_option maxRecDepth 100000 in
theorem bbroken_nil : Calls Try.prog 55 #[.pointer none] W fun e w' => e = .returned (.bool false) ∧ St W w' [] := by
  have hS := St.init W
  refine calls_of_wpE (args := [_]) Try.func55 rfl rfl rfl ?_
  refine c_seq ?_
  refine c_region ?_
  refine t_q (q_assign) ?_
  refine t_nil ?_
  refine c_seq ?_
  refine c_region ?_
  refine t_q (q_mv (.pointer _) rfl) ?_
  refine t_call Try.call98 (bnone_nil) rfl ?_
  rintro e w ⟨rfl, hT⟩
  refine ⟨_, rfl, ?_⟩
  replace hS := hS.after hT
  refine t_q (q_not rfl) ?_
  refine t_q (q_mv (.bool _) rfl) ?_
  refine t_no rfl rfl (by decide) ?_
  refine t_no rfl rfl (by decide) ?_
  refine t_no rfl rfl (by decide) ?_
  refine t_no rfl rfl (by decide) ?_
  refine t_q (q_pick_f rfl rfl) ?_
  refine t_q (q_as (.bool _) rfl) ?_
  refine t_nil ?_
  refine c_ret ?_
  refine r_one rfl rfl ?_
  exact ⟨rfl, hS.nil⟩
set_option maxRecDepth 100000 in
theorem bbroken_zero {w : World} {L R : List Asn} {g : Nat} {vs : List Value} (hS : St W w L) (pk : Pick L (blkA g 107 (.pointer none :: vs)) R) : Calls Try.prog 55 #[.pointer (some ⟨g, 0, none⟩)] w fun e w' => e = .returned (.bool false) ∧ St W w' (blkA g 107 (.pointer none :: vs) :: R) := by
  replace hS := hS.pick pk
  clear pk
  refine calls_of_wpE (args := [_]) Try.func55 rfl rfl rfl ?_
  refine c_seq ?_
  refine c_region ?_
  refine t_q (q_assign) ?_
  refine t_nil ?_
  refine c_seq ?_
  refine c_region ?_
  refine t_q (q_mv (.pointer _) rfl) ?_
  refine t_call Try.call98 (bnone_zero hS (by repeat first | exact .here _ _ | assumption | apply Pick.there)) rfl ?_
  rintro e w ⟨rfl, hS⟩
  refine ⟨_, rfl, ?_⟩
  refine t_q (q_not rfl) ?_
  refine t_q (q_mv (.bool _) rfl) ?_
  refine t_no rfl rfl (by decide) ?_
  refine t_no rfl rfl (by decide) ?_
  refine t_no rfl rfl (by decide) ?_
  refine t_no rfl rfl (by decide) ?_
  refine t_q (q_pick_f rfl rfl) ?_
  refine t_q (q_as (.bool _) rfl) ?_
  refine t_nil ?_
  refine c_ret ?_
  refine r_one rfl rfl ?_
  exact ⟨rfl, hS⟩
set_option maxRecDepth 100000 in
theorem bbroken_calls {w : World} {L R : List Asn} {g gd : Nat} {b : Bl}  (hS : St W w L) (pk : Pick L (blA g gd b) R) : Calls Try.prog 55 #[.pointer (some ⟨g, 0, none⟩)] w fun e w' => e = .returned (.bool b.br) ∧ St W w' (blA g gd b :: R) := by
  replace hS := hS.pick pk
  clear pk
  replace hS : St W w (blkA g 107 _ :: R) := hS
  refine calls_of_wpE (args := [_]) Try.func55 rfl rfl rfl ?_
  refine c_seq ?_
  refine c_region ?_
  refine t_q (q_assign) ?_
  refine t_nil ?_
  refine c_seq ?_
  refine c_region ?_
  refine t_q (q_mv (.pointer _) rfl) ?_
  refine t_call Try.call98 (bnone_calls hS (by repeat first | exact .here _ _ | assumption | apply Pick.there)) rfl ?_
  rintro e w ⟨rfl, hS⟩
  refine ⟨_, rfl, ?_⟩
  refine t_q (q_not rfl) ?_
  refine t_q (q_mv (.bool _) rfl) ?_
  refine t_yes rfl rfl rfl ?_
  refine t_q (q_mv (.pointer _) rfl) ?_
  refine t_yes rfl rfl rfl ?_
  refine t_q (q_nilCheck rfl) ?_
  refine t_yes rfl rfl rfl ?_
  refine t_q (q_fieldAddr 7 Try.runUnderlying107 rfl Try.sizeOf4 (by decide) rfl rfl) ?_
  refine t_yes rfl rfl rfl ?_
  refine t_q (q_load1 Try.isAgg4 rfl (hS.cell (by repeat first | exact .here _ _ | assumption | apply Pick.there) rfl)) ?_
  refine t_q (q_pick_t rfl rfl) ?_
  refine t_q (q_as (.bool _) rfl) ?_
  refine t_nil ?_
  refine c_ret ?_
  refine r_one rfl rfl ?_
  exact ⟨rfl, hS⟩
end Go.Proofs.Ytlppgpidakfnlaa
