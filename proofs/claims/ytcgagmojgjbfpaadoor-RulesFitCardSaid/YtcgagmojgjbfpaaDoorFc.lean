/- The grid: a price's row. -/
import Derived.Test.YtcgagmojgjbfpaaDoorFb
import Derived.Test.YtcgagmojgjbfpaaDoorUb
import Derived.Test.YtcgagmojgjbfpaaDoorDr
namespace Go.Proofs.YtcgagmojgjbfpaaDoor
open Go Go.RowKit Go.Lib
variable {W : World}
theorem rset_at : ∀ (vs pre cs : List Value), cs.length = vs.length → setN (pre ++ cs) pre.length vs = pre ++ vs
  | [], pre, cs, h => by rw [List.eq_nil_of_length_eq_zero h]; rfl
  | v :: vs, pre, [], h => by cases h
  | v :: vs, pre, c :: cs, h => by
    rw [setN, List.set_append_right _ _ (Nat.le_refl _), Nat.sub_self, List.set_cons_zero]
    have ih := rset_at vs (pre ++ [v]) cs (by simpa using h)
    rw [List.length_append, List.append_assoc, List.append_assoc] at ih
    exact ih
theorem rset_full {vs cs : List Value} (h : cs.length = vs.length) : setN cs 0 vs = vs := rset_at vs [] cs h
/-- the rows that begin at a price, or below, ahead of the first that does not -/
def rowK (l : List Tk) (p : Int) : Nat := (l.takeWhile (fun t => decide (t.frm ≤ p))).length
theorem rowK_eq : ∀ {l : List Tk} {p : Int} {j : Nat} (_ : j ≤ l.length) (_ : ∀ i, i < j → (l.getD i default).frm ≤ p) (_ : j < l.length → p < (l.getD j default).frm), rowK l p = j
  | [], _, j, hj, _, _ => by
    obtain rfl : j = 0 := Nat.le_zero.1 hj
    rfl
  | a :: l, p, 0, _, _, h2 => by
    have h3 := h2 (Nat.succ_pos _)
    have h4 : p < a.frm := h3
    unfold rowK
    rw [List.takeWhile_cons_of_neg (by simpa using h4)]
    rfl
  | a :: l, p, j + 1, hj, h1, h2 => by
    have h4 : a.frm ≤ p := h1 0 (Nat.succ_pos _)
    have h5 : rowK l p = j := rowK_eq (Nat.le_of_succ_le_succ hj) (fun i hi => h1 (i + 1) (Nat.succ_lt_succ hi)) (fun h => h2 (Nat.succ_lt_succ h))
    unfold rowK at h5 ⊢
    rw [List.takeWhile_cons_of_pos (by simpa using h4), List.length_cons, h5]
/-- a price's row -/
def rowT (l : List Tk) (p : Int) : Tk := l.getD (rowK l p - 1) default
def mayT (l : List Tk) (p : Int) : Bool := decide (GoodT l ∧ 1 ≤ p ∧ p ≤ 1099511627776)
def floorT (l : List Tk) (p : Int) : Int := p - (p - (rowT l p).frm) % (rowT l p).size
def onT (l : List Tk) (p : Int) : Bool := mayT l p && decide (floorT l p = p)
theorem rowK_pos {l : List Tk} {p : Int} (h : GoodT l) (hp : 1 ≤ p) : 1 ≤ rowK l p := by
  obtain ⟨h1, _, h3, _⟩ := h
  cases l with
  | nil => cases h1
  | cons a l =>
    have h4 : a.frm = 0 := h3
    unfold rowK
    rw [List.takeWhile_cons_of_pos (by simp; omega), List.length_cons]
    omega
theorem rowK_le (l : List Tk) (p : Int) : rowK l p ≤ l.length := by
  unfold rowK
  exact (List.takeWhile_sublist _).length_le
theorem frm_nn {l : List Tk} (h : GoodT l) : ∀ {i : Nat}, i < l.length → 0 ≤ (l.getD i default).frm
  | 0, _ => by rw [h.2.2.1]; decide
  | i + 1, hi => by
    have h1 := frm_nn h (i := i) (by omega)
    have h2 := (h.2.2.2 (i + 1) hi).2.2.2 (by omega)
    have h3 : (l.getD i default).frm < (l.getD (i + 1) default).frm := h2
    omega
theorem rowK_all {p : Int} : ∀ {l : List Tk} {i : Nat}, i < rowK l p → (l.getD i default).frm ≤ p
  | [], i, h => absurd h (Nat.not_lt_zero _)
  | a :: l, i, h => by
    by_cases h1 : a.frm ≤ p
    · cases i with
      | zero => exact h1
      | succ i =>
        unfold rowK at h
        rw [List.takeWhile_cons_of_pos (by simpa using h1), List.length_cons] at h
        exact rowK_all (l := l) (Nat.lt_of_succ_lt_succ h)
    · unfold rowK at h
      rw [List.takeWhile_cons_of_neg (by simpa using h1)] at h
      exact absurd h (Nat.not_lt_zero _)
theorem rowT_ok {l : List Tk} {p : Int} (hg : GoodT l) (hp : 1 ≤ p) (hi : ∀ e ∈ l, e.In) : (rowT l p).In ∧ 1 ≤ (rowT l p).size ∧ 0 ≤ (rowT l p).frm ∧ (rowT l p).frm ≤ p := by
  have h1 := rowK_pos hg hp
  have h2 := rowK_le l p
  have h3 : rowK l p - 1 < l.length := by omega
  refine ⟨hi _ (getD_mem h3), ?_, ?_, rowK_all (by omega)⟩
  · exact (hg.2.2.2 _ h3).1
  · exact frm_nn hg h3
attribute [local irreducible] blkA rowA rdsA
set_option maxRecDepth 100000 in
theorem grow1_calls {w : World} {R : List Asn} {g : Nat} {p : Int} {e : Tk} (hS : St W w (blkA g 2 [.int .i64 p] :: R)) : Calls Tryd.prog 113 #[.agg e.cells.toArray, .pointer (some ⟨g, 0, none⟩)] w fun e1 w' => e1 = .returned (.bool (decide (p < e.frm))) ∧ St W w' (blkA g 2 [.int .i64 p] :: R) := by
  refine calls_of_wpE (args := [_, _]) Tryd.func113 rfl rfl rfl ?_
  refine c_seq ?_
  refine c_region ?_
  refine t_box (v := (.agg _)) rfl rfl hS (fun g2 w hS => ?_)
  replace hS := hS.recast (show _ = blkA g2 54 [.int .i64 e.frm, .int .i64 e.size] from rfl)
  refine t_q (q_assign) ?_
  refine t_nil ?_
  refine c_seq ?_
  refine c_region ?_
  refine t_q (q_fieldAddr 0 Tryd.runUnderlying54 rfl Tryd.sizeOf2 (by decide) rfl rfl) ?_
  refine t_q (q_load1 Tryd.isAgg2 rfl (hS.cell (by repeat first | exact .here _ _ | assumption | apply Pick.there) rfl)) ?_
  refine t_q (q_load1 Tryd.isAgg2 rfl (hS.cell (by repeat first | exact .here _ _ | assumption | apply Pick.there) rfl)) ?_
  refine t_q (q_gtr rfl rfl) ?_
  refine t_q (q_as (.bool _) rfl) ?_
  refine t_nil ?_
  refine c_ret ?_
  refine r_one rfl rfl ?_
  exact ⟨rfl, ((hS.pick (A := blkA g2 54 _) (by repeat first | exact .here _ _ | assumption | apply Pick.there)).drop.pick (A := blkA g 2 [.int .i64 p]) (by repeat first | exact .here _ _ | assumption | apply Pick.there))⟩
set_option maxRecDepth 100000 in
theorem gidx_calls {w : World} {R : List Asn} {g : Nat} {p : Int} {A : Option Addr} {c : Nat} {l : List Tk} (hl : RdTk W A l) (hi : ∀ e ∈ l, e.In) (hm : l.length ≤ 1000000) (hS : St W w (blkA g 2 [.int .i64 p] :: R)) : Calls Tryd.prog 112 #[.slice A l.length c, .func (.func 113) #[] #[.pointer (some ⟨g, 0, none⟩)]] w fun e w' => ∃ r : Int, e = .returned (.int .i64 r) ∧ ((r = -1 ∧ ∀ i, i < l.length → (l.getD i default).frm ≤ p) ∨ ∃ j : Nat, r = (j : Int) ∧ j < l.length ∧ p < (l.getD j default).frm ∧ ∀ i, i < j → (l.getD i default).frm ≤ p) ∧ St W w' (blkA g 2 [.int .i64 p] :: R) := by
  refine calls_of_wpE (args := [_, _]) Tryd.func112 rfl rfl rfl ?_
  refine c_seq ?_
  refine c_region ?_
  refine t_q (q_assign) ?_
  refine t_nil ?_
  refine c_seq ?_
  refine c_seq ?_
  refine c_region ?_
  refine t_q (q_mv (.slice _ _ _) rfl) ?_
  refine t_q (q_len_slice Tryd.runUnderlying39 rfl) ?_
  refine t_q (q_move) ?_
  refine t_nil ?_
  refine c_block ?_
  refine c_loop [4, 5, 8, 9, 10, 11, 12, 13, 14, 15, 16, 17, 18] (fun k σ w => ∃ j : Nat, σ 8 = .int .i64 (j : Int) ∧ j ≤ l.length ∧ l.length - j ≤ k ∧ (∀ i, i < j → (l.getD i default).frm ≤ p) ∧ St W w (blkA g 2 [.int .i64 p] :: R)) (l.length) rfl (⟨0, rfl, by omega, by omega, (fun i h => absurd h (by omega)), hS⟩) ?_
  skip
  rintro k σ w ⟨j, h8, hj, hk, hall, hS⟩
  refine c_know 8 h8 ?_
  clear h8
  refine c_seq ?_
  refine c_region ?_
  refine t_q (q_lss rfl rfl) ?_
  refine t_nil ?_
  refine c_seq ?_
  refine c_cond rfl ?_ ?_
  · intro hc2
    have hc2d := of_decide_eq_true hc2
    refine c_skip ?_
    refine c_seq ?_
    refine c_block ?_
    refine c_seq ?_
    refine c_region ?_
    refine t_q (q_mv (.int _ _) rfl) ?_
    refine t_q (q_as (.int _ _) rfl) ?_
    refine t_nil ?_
    refine c_seq ?_
    refine c_region ?_
    refine t_q (q_mv (.func _ _ _) rfl) ?_
    refine t_q (q_mv (.slice _ _ _) rfl) ?_
    refine t_q (q_mv (.int _ _) rfl) ?_
    first | refine t_index_nat Tryd.runUnderlying39 Tryd.sizeOf54 (hl.st hS) rfl rfl (by omega) (fun ad3 hl3 hx3 => ?_) | refine t_index Tryd.runUnderlying39 Tryd.sizeOf54 (hl.st hS) rfl rfl (by omega) (fun ad3 hl3 hx3 => ?_)
    refine t_q (q_cast (v' := .agg (l.getD j default).cells.toArray) (q_loadN Tryd.isAgg54 Tryd.sizeOf54 rfl hl3 hx3) (by rfl)) ?_
    refine t_callv_b Tryd.call113 rfl (grow1_calls (e := (l.getD j default)) hS) rfl ?_
    rintro e w ⟨rfl, hS⟩
    refine ⟨_, rfl, ?_⟩
    refine t_nil ?_
    refine c_cond rfl ?_ ?_
    · intro hc5
      have hpj : p < (l.getD j default).frm := of_decide_eq_true hc5
      refine c_seq ?_
      refine c_region ?_
      refine t_q (q_mv (.int _ _) rfl) ?_
      refine t_q (q_as (.int _ _) rfl) ?_
      refine t_nil ?_
      refine c_ret ?_
      refine r_one rfl rfl ?_
      first
        | exact ⟨_, rfl, .inr ⟨j, rfl, by omega, by omega, hall⟩, hS⟩
        | exact ⟨_, rfl, .inl ⟨rfl, fun i hi => hall i (by omega)⟩, hS⟩
    · intro hc5
      have hpj : ¬ p < (l.getD j default).frm := of_decide_eq_false hc5
      refine c_skip ?_
      refine c_region ?_
      refine t_q (q_add_i64 rfl rfl (by omega)) ?_
      refine t_q (q_mv (.int _ _) rfl) ?_
      refine t_nil ?_
      exact ⟨k - 1, by omega, j + 1, rfl, by omega, by omega, (fun i hi => by
        rcases Nat.lt_or_ge i j with h | h
        · exact hall i h
        · obtain rfl : i = j := by omega
          omega), hS⟩
  · intro hc2
    have hc2d := of_decide_eq_false hc2
    refine c_exit ?_
    refine ite_t rfl ?_
    refine c_seq ?_
    refine c_region ?_
    refine t_q (q_assign) ?_
    refine t_nil ?_
    refine c_ret ?_
    refine r_one rfl rfl ?_
    first
      | exact ⟨_, rfl, .inr ⟨j, rfl, by omega, by omega, hall⟩, hS⟩
      | exact ⟨_, rfl, .inl ⟨rfl, fun i hi => hall i (by omega)⟩, hS⟩
set_option maxRecDepth 100000 in
theorem grow_calls {p : Int} {A : Option Addr} {c : Nat} {l : List Tk} (hl : RdTk W A l) (hi : ∀ e ∈ l, e.In) (hm : l.length ≤ 1000000) (hg : GoodT l) (hp : 1 ≤ p) : Calls Tryd.prog 102 #[.slice A l.length c, .int .i64 p] W fun e w' => e = .returned (.agg (rowT l p).cells.toArray) ∧ St W w' [] := by
  have hS := St.init W
  have hkp := rowK_pos hg hp
  have hkl := rowK_le l p
  refine calls_of_wpE (args := [_, _]) Tryd.func102 rfl rfl rfl ?_
  refine c_seq ?_
  refine c_region ?_
  refine t_box (v := (.int _ _)) rfl rfl hS (fun g w hS => ?_)
  replace hS := hS.recast (show _ = blkA g 2 [.int .i64 p] from rfl)
  refine t_alloc Tryd.zeroValue54 rfl hS (fun g4 w hS => ?_)
  refine t_nil ?_
  refine c_seq ?_
  refine c_region ?_
  refine t_q (q_mv (.slice _ _ _) rfl) ?_
  refine t_q (q_makeFunc rfl) ?_
  refine t_call Tryd.call112 (gidx_calls (p := p) hl hi hm (hS.pick (A := blkA g 2 [.int .i64 p]) (by repeat first | exact .here _ _ | assumption | apply Pick.there))) rfl ?_
  rintro e w ⟨r, rfl, hr, hS⟩
  refine ⟨_, rfl, ?_⟩
  refine t_q (q_as (.int _ _) rfl) ?_
  refine t_nil ?_
  refine c_seq ?_
  refine c_seq ?_
  refine c_region ?_
  refine t_q (q_mv (.int _ _) rfl) ?_
  refine t_q (q_lss rfl rfl) ?_
  refine t_nil ?_
  refine c_cond rfl ?_ ?_
  · intro hc3
    have hc3d := of_decide_eq_true hc3
    have hK : rowK l p = l.length := by
      rcases hr with ⟨_, h⟩ | ⟨j, h1, _⟩
      · exact rowK_eq (Nat.le_refl _) h (fun h => absurd h (by omega))
      · omega
    refine c_region ?_
    refine t_q (q_mv (.slice _ _ _) rfl) ?_
    refine t_q (q_len_slice Tryd.runUnderlying39 rfl) ?_
    refine t_q (q_as (.int _ _) rfl) ?_
    refine t_nil ?_
    refine c_seq ?_
    refine c_region ?_
    refine t_q (q_mv (.slice _ _ _) rfl) ?_
    refine t_q (q_mv (.int _ _) rfl) ?_
    refine t_q (q_cast (v' := .int .i64 ((rowK l p - 1 : Nat) : Int)) (q_sub_i64 rfl rfl (by omega)) (by congr 1; omega)) ?_
    first | refine t_index_nat Tryd.runUnderlying39 Tryd.sizeOf54 (hl.st hS) rfl rfl (by omega) (fun ad4 hl4 hx4 => ?_) | refine t_index Tryd.runUnderlying39 Tryd.sizeOf54 (hl.st hS) rfl rfl (by omega) (fun ad4 hl4 hx4 => ?_)
    refine t_q (q_cast (v' := .agg (rowT l p).cells.toArray) (q_loadN Tryd.isAgg54 Tryd.sizeOf54 rfl hl4 hx4) (by rfl)) ?_
    refine t_store (v := (.agg _)) Tryd.sizeOf54 hS (by repeat first | exact .here _ _ | assumption | apply Pick.there) rfl rfl rfl rfl rfl rfl (fun w hS => ?_)
    replace hS := hS.recast (congrArg (blkA g4 54) (rset_full (vs := (rowT l p).cells) rfl))
    refine t_nil ?_
    refine c_ret ?_
    refine r_one rfl (res1_cellN Tryd.isAgg54 Tryd.sizeOf54 rfl (hS.blk (by repeat first | exact .here _ _ | assumption | apply Pick.there)) rfl) ?_
    exact ⟨rfl, hS.nil⟩
  · intro hc3
    have hc3d := of_decide_eq_false hc3
    have hK : r = (rowK l p : Int) := by
      rcases hr with ⟨h, _⟩ | ⟨j, h1, h2, h3, h4⟩
      · omega
      · rw [h1, rowK_eq (by omega) h4 (fun _ => h3)]
    refine c_skip ?_
    refine c_seq ?_
    refine c_region ?_
    refine t_q (q_mv (.slice _ _ _) rfl) ?_
    refine t_q (q_mv (.int _ _) rfl) ?_
    refine t_q (q_cast (v' := .int .i64 ((rowK l p - 1 : Nat) : Int)) (q_sub_i64 rfl rfl (by omega)) (by congr 1; omega)) ?_
    first | refine t_index_nat Tryd.runUnderlying39 Tryd.sizeOf54 (hl.st hS) rfl rfl (by omega) (fun ad5 hl5 hx5 => ?_) | refine t_index Tryd.runUnderlying39 Tryd.sizeOf54 (hl.st hS) rfl rfl (by omega) (fun ad5 hl5 hx5 => ?_)
    refine t_q (q_cast (v' := .agg (rowT l p).cells.toArray) (q_loadN Tryd.isAgg54 Tryd.sizeOf54 rfl hl5 hx5) (by rfl)) ?_
    refine t_store (v := (.agg _)) Tryd.sizeOf54 hS (by repeat first | exact .here _ _ | assumption | apply Pick.there) rfl rfl rfl rfl rfl rfl (fun w hS => ?_)
    replace hS := hS.recast (congrArg (blkA g4 54) (rset_full (vs := (rowT l p).cells) rfl))
    refine t_nil ?_
    refine c_ret ?_
    refine r_one rfl (res1_cellN Tryd.isAgg54 Tryd.sizeOf54 rfl (hS.blk (by repeat first | exact .here _ _ | assumption | apply Pick.there)) rfl) ?_
    exact ⟨rfl, hS.nil⟩
set_option maxRecDepth 100000 in
theorem gfloor_calls {p : Int} {A : Option Addr} {c : Nat} {l : List Tk} (hl : RdTk W A l) (hi : ∀ e ∈ l, e.In) (hm : l.length ≤ 1000000) (hg : GoodT l) (hp : 1 ≤ p ∧ p ≤ 1099511627776) : Calls Tryd.prog 86 #[.slice A l.length c, .int .i64 p] W fun e w' => e = .returned (.int .i64 (floorT l p)) ∧ St W w' [] := by
  have hS := St.init W
  have hrt : (rowT l p).In ∧ 1 ≤ (rowT l p).size ∧ 0 ≤ (rowT l p).frm ∧ (rowT l p).frm ≤ p := rowT_ok hg hp.1 hi
  obtain ⟨⟨hf1, hf2⟩, hs1, hs2, hs3⟩ := hrt
  have hm1 := Int.emod_nonneg (p - (rowT l p).frm) (show (rowT l p).size ≠ 0 by omega)
  have hm2 := Int.emod_lt_of_pos (p - (rowT l p).frm) (show 0 < (rowT l p).size by omega)
  refine calls_of_wpE (args := [_, _]) Tryd.func86 rfl rfl rfl ?_
  refine c_seq ?_
  refine c_region ?_
  refine t_q (q_assign) ?_
  refine t_nil ?_
  refine c_seq ?_
  refine c_region ?_
  refine t_q (q_mv (.slice _ _ _) rfl) ?_
  refine t_q (q_mv (.int _ _) rfl) ?_
  refine t_call Tryd.call102 (grow_calls (p := p) (hl.st hS) hi hm hg hp.1) rfl ?_
  rintro e w ⟨rfl, hT⟩
  refine ⟨_, rfl, ?_⟩
  replace hS := hS.after hT
  refine t_alloc Tryd.zeroValue54 rfl hS (fun g5 w hS => ?_)
  refine t_store (v := (.agg _)) Tryd.sizeOf54 hS (by repeat first | exact .here _ _ | assumption | apply Pick.there) rfl rfl rfl rfl rfl rfl (fun w hS => ?_)
  replace hS := hS.recast (show blkA g5 54 _ = blkA g5 54 [.int .i64 (rowT l p).frm, .int .i64 (rowT l p).size] from rfl)
  refine t_nil ?_
  refine c_seq ?_
  refine c_region ?_
  refine t_q (q_mv (.int _ _) rfl) ?_
  refine t_q (q_mv (.int _ _) rfl) ?_
  refine t_q (q_fieldAddr 0 Tryd.runUnderlying54 rfl Tryd.sizeOf2 (by decide) rfl rfl) ?_
  refine t_q (q_load1 Tryd.isAgg2 rfl (hS.cell (by repeat first | exact .here _ _ | assumption | apply Pick.there) rfl)) ?_
  refine t_q (q_sub_i64 rfl rfl (by omega)) ?_
  refine t_q (q_fieldAddr 1 Tryd.runUnderlying54 rfl Tryd.sizeOf2 (by decide) rfl rfl) ?_
  refine t_q (q_load1 Tryd.isAgg2 rfl (hS.cell (by repeat first | exact .here _ _ | assumption | apply Pick.there) rfl)) ?_
  refine t_q (q_cast (v' := .int .i64 ((p - (rowT l p).frm) % (rowT l p).size)) (q_rem_n rfl rfl (by omega) (by omega)) (by rfl)) ?_
  refine t_q (q_sub_i64 rfl rfl (by omega)) ?_
  refine t_q (q_as (.int _ _) rfl) ?_
  refine t_nil ?_
  refine c_ret ?_
  refine r_one rfl rfl ?_
  exact ⟨rfl, hS.nil⟩
set_option maxRecDepth 100000 in
theorem gmay_calls {p : Int} {A : Option Addr} {c : Nat} {l : List Tk} (hl : RdTk W A l) (hi : ∀ e ∈ l, e.In) (hm : l.length ≤ 1000000) : Calls Tryd.prog 85 #[.slice A l.length c, .int .i64 p] W fun e w' => e = .returned (.bool (mayT l p)) ∧ St W w' [] := by
  have hS := St.init W
  refine calls_of_wpE (args := [_, _]) Tryd.func85 rfl rfl rfl ?_
  refine c_seq ?_
  refine c_region ?_
  refine t_q (q_assign) ?_
  refine t_nil ?_
  refine c_seq ?_
  refine c_region ?_
  refine t_q (q_mv (.slice _ _ _) rfl) ?_
  refine t_call Tryd.call79 (ggood_calls (hl.st hS) hi hm) rfl ?_
  rintro e w ⟨rfl, hT⟩
  refine ⟨_, rfl, ?_⟩
  replace hS := hS.after hT
  refine t_q (q_mv (.bool _) rfl) ?_
  refine t_case 7 rfl ?_ ?_
  · intro hg2
    refine t_yes rfl rfl hg2 ?_
    refine t_q (q_mv (.int _ _) rfl) ?_
    refine t_yes rfl rfl hg2 ?_
    refine t_q (q_geq rfl rfl) ?_
    refine t_q (q_pick_t rfl hg2) ?_
    refine t_q (q_mv (.bool _) rfl) ?_
    refine t_case 11 rfl ?_ ?_
    · intro hg4
      have hg4d := of_decide_eq_true hg4
      refine t_yes rfl rfl hg4 ?_
      refine t_q (q_mv (.int _ _) rfl) ?_
      refine t_yes rfl rfl hg4 ?_
      refine t_q (q_leq rfl rfl) ?_
      refine t_q (q_pick_t rfl hg4) ?_
      refine t_q (q_as (.bool _) rfl) ?_
      refine t_nil ?_
      refine c_ret ?_
      refine r_one rfl rfl ?_
      have hN := hS.nil
      clear hS
      refine ⟨congrArg (fun b => Ending.returned (.bool b)) ?_, hN⟩
      unfold mayT
      first
        | (symm; apply decide_eq_false; rintro ⟨h1, h2, h3⟩; first | omega | exact absurd h1 (of_decide_eq_false (by assumption)))
        | (have hG : GoodT l := of_decide_eq_true (by assumption)
           first
             | (rw [decide_eq_decide]; constructor <;> intro h <;> first | omega | exact ⟨hG, by omega, by omega⟩)
             | (symm; apply decide_eq_true; exact ⟨hG, by omega, by omega⟩))
    · intro hg4
      have hg4d := of_decide_eq_false hg4
      refine t_no rfl rfl (by rw [hg4]; decide) ?_
      refine t_no rfl rfl (by rw [hg4]; decide) ?_
      refine t_q (q_pick_f rfl hg4) ?_
      refine t_q (q_as (.bool _) rfl) ?_
      refine t_nil ?_
      refine c_ret ?_
      refine r_one rfl rfl ?_
      have hN := hS.nil
      clear hS
      refine ⟨congrArg (fun b => Ending.returned (.bool b)) ?_, hN⟩
      unfold mayT
      first
        | (symm; apply decide_eq_false; rintro ⟨h1, h2, h3⟩; first | omega | exact absurd h1 (of_decide_eq_false (by assumption)))
        | (have hG : GoodT l := of_decide_eq_true (by assumption)
           first
             | (rw [decide_eq_decide]; constructor <;> intro h <;> first | omega | exact ⟨hG, by omega, by omega⟩)
             | (symm; apply decide_eq_true; exact ⟨hG, by omega, by omega⟩))
  · intro hg2
    refine t_no rfl rfl (by rw [hg2]; decide) ?_
    refine t_no rfl rfl (by rw [hg2]; decide) ?_
    refine t_q (q_pick_f rfl hg2) ?_
    refine t_q (q_mv (.bool _) rfl) ?_
    refine t_no rfl rfl (by decide) ?_
    refine t_no rfl rfl (by decide) ?_
    refine t_q (q_pick_f rfl rfl) ?_
    refine t_q (q_as (.bool _) rfl) ?_
    refine t_nil ?_
    refine c_ret ?_
    refine r_one rfl rfl ?_
    have hN := hS.nil
    clear hS
    refine ⟨congrArg (fun b => Ending.returned (.bool b)) ?_, hN⟩
    unfold mayT
    first
      | (symm; apply decide_eq_false; rintro ⟨h1, h2, h3⟩; first | omega | exact absurd h1 (of_decide_eq_false (by assumption)))
      | (have hG : GoodT l := of_decide_eq_true (by assumption)
         first
           | (rw [decide_eq_decide]; constructor <;> intro h <;> first | omega | exact ⟨hG, by omega, by omega⟩)
           | (symm; apply decide_eq_true; exact ⟨hG, by omega, by omega⟩))
set_option maxRecDepth 100000 in
theorem gon_calls {p : Int} {A : Option Addr} {c : Nat} {l : List Tk} (hl : RdTk W A l) (hi : ∀ e ∈ l, e.In) (hm : l.length ≤ 1000000) : Calls Tryd.prog 58 #[.slice A l.length c, .int .i64 p] W fun e w' => e = .returned (.bool (onT l p)) ∧ St W w' [] := by
  have hS := St.init W
  refine calls_of_wpE (args := [_, _]) Tryd.func58 rfl rfl rfl ?_
  refine c_seq ?_
  refine c_region ?_
  refine t_q (q_assign) ?_
  refine t_nil ?_
  refine c_seq ?_
  refine c_region ?_
  refine t_q (q_mv (.slice _ _ _) rfl) ?_
  refine t_q (q_mv (.int _ _) rfl) ?_
  refine t_call Tryd.call85 (gmay_calls (p := p) (hl.st hS) hi hm) rfl ?_
  rintro e w ⟨rfl, hT⟩
  refine ⟨_, rfl, ?_⟩
  replace hS := hS.after hT
  refine t_q (q_mv (.bool _) rfl) ?_
  refine t_case 8 rfl ?_ ?_
  · intro hg2
    have hmy : mayT l p = true := hg2
    refine t_yes rfl rfl hg2 ?_
    refine t_q (q_mv (.slice _ _ _) rfl) ?_
    refine t_yes rfl rfl hg2 ?_
    refine t_q (q_mv (.int _ _) rfl) ?_
    refine t_yes rfl rfl hg2 ?_
    refine t_call Tryd.call86 (gfloor_calls (p := p) (hl.st hS) hi hm (of_decide_eq_true hmy).1 (of_decide_eq_true hmy).2) rfl ?_
    rintro e w ⟨rfl, hT⟩
    refine ⟨_, rfl, ?_⟩
    replace hS := hS.after hT
    refine t_yes rfl rfl hg2 ?_
    refine t_q (q_mv (.int _ _) rfl) ?_
    refine t_yes rfl rfl hg2 ?_
    refine t_q (q_eql rfl rfl) ?_
    refine t_q (q_pick_t rfl hg2) ?_
    refine t_q (q_as (.bool _) rfl) ?_
    refine t_nil ?_
    refine c_ret ?_
    refine r_one rfl rfl ?_
    have hN := hS.nil
    clear hS
    refine ⟨congrArg (fun b => Ending.returned (.bool b)) ?_, hN⟩
    unfold onT
    first
      | (rw [hmn]; rfl)
      | (rw [hmy]; rfl)
  · intro hg2
    have hmn : mayT l p = false := hg2
    refine t_no rfl rfl (by rw [hg2]; decide) ?_
    refine t_no rfl rfl (by rw [hg2]; decide) ?_
    refine t_no rfl rfl (by rw [hg2]; decide) ?_
    refine t_no rfl rfl (by rw [hg2]; decide) ?_
    refine t_no rfl rfl (by rw [hg2]; decide) ?_
    refine t_q (q_pick_f rfl hg2) ?_
    refine t_q (q_as (.bool _) rfl) ?_
    refine t_nil ?_
    refine c_ret ?_
    refine r_one rfl rfl ?_
    have hN := hS.nil
    clear hS
    refine ⟨congrArg (fun b => Ending.returned (.bool b)) ?_, hN⟩
    unfold onT
    first
      | (rw [hmn]; rfl)
      | (rw [hmy]; rfl)
end Go.Proofs.YtcgagmojgjbfpaaDoor
