/- The document's grid; whether an order may be: both. -/
import Derived.Test.YtcgagmojgjbfpaaDoorGb
import Derived.Test.YtcgagmojgjbfpaaDoorFf
namespace Go.Proofs.YtcgagmojgjbfpaaDoor
open Go Go.RowKit Go.Lib
variable {W : World}
theorem rowK_stop : ∀ {l : List Tk} {p : Int}, rowK l p < l.length → p < (l.getD (rowK l p) default).frm
  | [], _, h => absurd h (Nat.not_lt_zero _)
  | a :: l, p, h => by
    by_cases h1 : a.frm ≤ p
    · have e : rowK (a :: l) p = rowK l p + 1 := by unfold rowK; rw [List.takeWhile_cons_of_pos (by simpa using h1), List.length_cons]
      rw [e] at h ⊢
      exact rowK_stop (l := l) (Nat.lt_of_succ_lt_succ h)
    · have e : rowK (a :: l) p = 0 := by unfold rowK; rw [List.takeWhile_cons_of_neg (by simpa using h1)]; rfl
      rw [e]
      exact Int.not_le.1 h1
theorem frm_up {l : List Tk} (h : GoodT l) {i : Nat} : ∀ {d : Nat}, i + d < l.length → (l.getD i default).frm ≤ (l.getD (i + d) default).frm
  | 0, _ => Int.le_refl _
  | d + 1, hd => by
    have h1 := frm_up h (i := i) (d := d) (by omega)
    have h2 : (l.getD (i + d) default).frm < (l.getD (i + d + 1) default).frm := (h.2.2.2 (i + d + 1) hd).2.2.2 (by omega)
    show _ ≤ (l.getD (i + d + 1) default).frm
    omega
theorem rowK_in {l : List Tk} {p : Int} (h : GoodT l) {j : Nat} (hj : j < l.length) (hp : (l.getD j default).frm ≤ p) : j < rowK l p := by
  rcases Nat.lt_or_ge j (rowK l p) with h1 | h1
  · exact h1
  · have h2 := rowK_stop (l := l) (p := p) (by omega)
    have h3 := frm_up h (i := rowK l p) (d := j - rowK l p) (by omega)
    rw [show rowK l p + (j - rowK l p) = j by omega] at h3
    omega
theorem rowK_out {l : List Tk} {p : Int} {j : Nat} (hp : ¬ (l.getD j default).frm ≤ p) : rowK l p ≤ j := Nat.not_lt.1 fun h => hp (rowK_all h)
theorem onT_no {l : List Tk} {p : Int} (h : mayT l p = false) : onT l p = false := by unfold onT; rw [h]; rfl
theorem onT_yes {l : List Tk} {p : Int} (h : mayT l p = true) : onT l p = decide ((p - (rowT l p).frm) % (rowT l p).size = 0) := by
  unfold onT floorT
  rw [h, Bool.true_and, decide_eq_decide]
  omega
def fitV (x : RuV) (last side kind price qty : Int) : Int × Int :=
  if goodR x = false then (43, 9) else if ¬ ((1 ≤ side ∧ side ≤ 2) ∧ (1 ≤ kind ∧ kind ≤ 5)) then (2, 9) else if kind ≠ 2 ∧ onT x.ticks.l price = false then (40, 6)
  else if lotE x.lot qty ≠ 0 then (lotE x.lot qty, 7) else if kind ≠ 2 then (bandE last price x.band, 7) else (0, 0)
/-- as the document says it: nobody has found a 0 -/
def fitN (p : Int × Int) : Int × Int := if p.1 = 0 then (0, 0) else p
theorem errOf_n (p : Int × Int) : errOf (fitN p) = errOf p := by
  unfold fitN
  split
  · rename_i h
    unfold errOf
    rw [if_pos h, if_pos rfl]
  · rfl
attribute [local irreducible] blkA rowA nF nB loB upB mulA mulX brw
set_option maxHeartbeats 1000000 in
set_option maxRecDepth 100000 in
theorem qrow_calls {p : Int} {A : Option Addr} {c : Nat} {l : List Tk} (hl : RdTk W A l) (hi : ∀ e ∈ l, e.In) (hm : l.length ≤ 1000000) (hg : GoodT l) (hp : 1 ≤ p) : Calls Tryd.prog 82 #[.slice A l.length c, .int .i64 p] W fun e w' => e = .returned (.int .i64 ((rowK l p - 1 : Nat) : Int)) ∧ St W w' [] := by
  have hS := St.init W
  have hkp := rowK_pos hg hp
  have hkl := rowK_le l p
  refine calls_of_wpE (args := [_, _]) Tryd.func82 rfl rfl rfl ?_
  refine c_seq ?_
  refine c_region ?_
  refine t_q (q_assign) ?_
  refine t_nil ?_
  refine c_seq ?_
  refine c_region ?_
  refine t_q (q_assign) ?_
  refine t_nil ?_
  refine c_seq ?_
  refine c_seq ?_
  refine c_region ?_
  refine t_q (q_assign) ?_
  refine t_nil ?_
  refine c_block ?_
  refine c_loop [5, 6, 7, 8, 9, 10, 11, 12, 13, 14, 15, 16, 17, 18, 19, 20] (fun k σ w => ∃ j : Nat, σ 6 = .int .i64 (j : Int) ∧ σ 5 = .int .i64 ((min j (rowK l p) - 1 : Nat) : Int) ∧ j ≤ l.length ∧ l.length - j ≤ k ∧ St W w []) (l.length) rfl (⟨0, rfl, congrArg (Value.int .i64) (by omega), by omega, by omega, hS⟩) ?_
  skip
  rintro k σ w ⟨j, h6, h5, hj, hk, hS⟩
  refine c_know 6 h6 ?_
  refine c_know 5 h5 ?_
  clear h6 h5
  refine c_seq ?_
  refine c_seq ?_
  refine c_region ?_
  refine t_q (q_mv (.int _ _) rfl) ?_
  refine t_q (q_mv (.slice _ _ _) rfl) ?_
  refine t_q (q_len_slice Tryd.runUnderlying82 rfl) ?_
  refine t_q (q_lss rfl rfl) ?_
  refine t_nil ?_
  refine c_cond rfl ?_ ?_
  · intro hc2
    have hc2d := of_decide_eq_true hc2
    refine c_skip ?_
    refine c_seq ?_
    refine c_block ?_
    refine c_seq ?_
    refine c_region ?_
    refine t_q (q_mv (.slice _ _ _) rfl) ?_
    refine t_q (q_mv (.int _ _) rfl) ?_
    first | refine t_index_nat Tryd.runUnderlying82 Tryd.sizeOf117 (hl.st hS) rfl rfl (by omega) (fun ad3 hl3 hx3 => ?_) | refine t_index Tryd.runUnderlying82 Tryd.sizeOf117 (hl.st hS) rfl rfl (by omega) (fun ad3 hl3 hx3 => ?_)
    refine t_q (q_fieldAddr 0 Tryd.runUnderlying117 rfl Tryd.sizeOf2 (by decide) rfl rfl) ?_
    refine t_q (q_load1 Tryd.isAgg2 rfl (hx3 0 _ rfl)) ?_
    refine t_q (q_mv (.int _ _) rfl) ?_
    refine t_q (q_leq rfl rfl) ?_
    refine t_nil ?_
    refine c_cond rfl ?_ ?_
    · intro hc5
      have hc5d := of_decide_eq_true hc5
      have hjr := rowK_in hg (by omega) (of_decide_eq_true hc5)
      refine c_region ?_
      refine t_q (q_mv (.int _ _) rfl) ?_
      refine t_q (q_as (.int _ _) rfl) ?_
      refine t_nil ?_
      refine c_region ?_
      refine t_q (q_mv (.int _ _) rfl) ?_
      refine t_q (q_add_i64 rfl rfl (by omega)) ?_
      refine t_q (q_as (.int _ _) rfl) ?_
      refine t_nil ?_
      exact ⟨k - 1, by omega, j + 1, rfl, congrArg (Value.int .i64) (by omega), by omega, by omega, hS⟩
    · intro hc5
      have hc5d := of_decide_eq_false hc5
      have hjr := rowK_out (l := l) (p := p) (j := j) (of_decide_eq_false hc5)
      refine c_skip ?_
      refine c_region ?_
      refine t_q (q_mv (.int _ _) rfl) ?_
      refine t_q (q_add_i64 rfl rfl (by omega)) ?_
      refine t_q (q_as (.int _ _) rfl) ?_
      refine t_nil ?_
      exact ⟨k - 1, by omega, j + 1, rfl, congrArg (Value.int .i64) (by omega), by omega, by omega, hS⟩
  · intro hc2
    have hc2d := of_decide_eq_false hc2
    have hjl : min j (rowK l p) = rowK l p := by omega
    refine c_exit ?_
    refine ite_t rfl ?_
    refine c_seq ?_
    refine c_region ?_
    refine t_q (q_mv (.int _ _) rfl) ?_
    refine t_q (q_as (.int _ _) rfl) ?_
    refine t_nil ?_
    refine c_ret ?_
    refine r_one rfl rfl ?_
    rw [hjl]
    exact ⟨rfl, hS⟩
set_option maxRecDepth 100000 in
theorem qmay_calls {p : Int} {A : Option Addr} {c : Nat} {l : List Tk} (hl : RdTk W A l) (hi : ∀ e ∈ l, e.In) (hm : l.length ≤ 1000000) : Calls Tryd.prog 81 #[.slice A l.length c, .int .i64 p] W fun e w' => e = .returned (.bool (mayT l p)) ∧ St W w' [] := by
  have hS := St.init W
  refine calls_of_wpE (args := [_, _]) Tryd.func81 rfl rfl rfl ?_
  refine c_seq ?_
  refine c_region ?_
  refine t_q (q_assign) ?_
  refine t_nil ?_
  refine c_seq ?_
  refine c_region ?_
  refine t_q (q_mv (.slice _ _ _) rfl) ?_
  refine t_call Tryd.call45 (qgt_calls (hl.st hS) hi hm) rfl ?_
  rintro e w ⟨rfl, hT⟩
  refine ⟨_, rfl, ?_⟩
  replace hS := hS.after hT
  refine t_q (q_mv (.bool _) rfl) ?_
  refine t_case 7 rfl ?_ ?_
  · intro hg2
    refine t_yes rfl rfl hg2 ?_
    refine t_q (q_mv (.int _ _) rfl) ?_
    refine t_yes rfl rfl hg2 ?_
    refine t_q (q_geq rfl rfl) ?_
    refine t_q (q_pick_t rfl hg2) ?_
    refine t_q (q_mv (.bool _) rfl) ?_
    refine t_case 11 rfl ?_ ?_
    · intro hg4
      have hg4d := of_decide_eq_true hg4
      refine t_yes rfl rfl hg4 ?_
      refine t_q (q_mv (.int _ _) rfl) ?_
      refine t_yes rfl rfl hg4 ?_
      refine t_q (q_leq rfl rfl) ?_
      refine t_q (q_pick_t rfl hg4) ?_
      refine t_q (q_as (.bool _) rfl) ?_
      refine t_nil ?_
      refine c_ret ?_
      refine r_one rfl rfl ?_
      have hN := hS.nil
      clear hS
      refine ⟨congrArg (fun b => Ending.returned (.bool b)) ?_, hN⟩
      unfold mayT
      first
        | (symm; apply decide_eq_false; rintro ⟨h1, h2, h3⟩; first | omega | exact absurd h1 (of_decide_eq_false (by assumption)))
        | (have hG : GoodT l := of_decide_eq_true (by assumption)
           first
             | (rw [decide_eq_decide]; constructor <;> intro h <;> first | omega | exact ⟨hG, by omega, by omega⟩)
             | (symm; apply decide_eq_true; exact ⟨hG, by omega, by omega⟩))
    · intro hg4
      have hg4d := of_decide_eq_false hg4
      refine t_no rfl rfl (by rw [hg4]; decide) ?_
      refine t_no rfl rfl (by rw [hg4]; decide) ?_
      refine t_q (q_pick_f rfl hg4) ?_
      refine t_q (q_as (.bool _) rfl) ?_
      refine t_nil ?_
      refine c_ret ?_
      refine r_one rfl rfl ?_
      have hN := hS.nil
      clear hS
      refine ⟨congrArg (fun b => Ending.returned (.bool b)) ?_, hN⟩
      unfold mayT
      first
        | (symm; apply decide_eq_false; rintro ⟨h1, h2, h3⟩; first | omega | exact absurd h1 (of_decide_eq_false (by assumption)))
        | (have hG : GoodT l := of_decide_eq_true (by assumption)
           first
             | (rw [decide_eq_decide]; constructor <;> intro h <;> first | omega | exact ⟨hG, by omega, by omega⟩)
             | (symm; apply decide_eq_true; exact ⟨hG, by omega, by omega⟩))
  · intro hg2
    refine t_no rfl rfl (by rw [hg2]; decide) ?_
    refine t_no rfl rfl (by rw [hg2]; decide) ?_
    refine t_q (q_pick_f rfl hg2) ?_
    refine t_q (q_mv (.bool _) rfl) ?_
    refine t_no rfl rfl (by decide) ?_
    refine t_no rfl rfl (by decide) ?_
    refine t_q (q_pick_f rfl rfl) ?_
    refine t_q (q_as (.bool _) rfl) ?_
    refine t_nil ?_
    refine c_ret ?_
    refine r_one rfl rfl ?_
    have hN := hS.nil
    clear hS
    refine ⟨congrArg (fun b => Ending.returned (.bool b)) ?_, hN⟩
    unfold mayT
    first
      | (symm; apply decide_eq_false; rintro ⟨h1, h2, h3⟩; first | omega | exact absurd h1 (of_decide_eq_false (by assumption)))
      | (have hG : GoodT l := of_decide_eq_true (by assumption)
         first
           | (rw [decide_eq_decide]; constructor <;> intro h <;> first | omega | exact ⟨hG, by omega, by omega⟩)
           | (symm; apply decide_eq_true; exact ⟨hG, by omega, by omega⟩))
set_option maxHeartbeats 1000000 in
set_option maxRecDepth 100000 in
theorem qon_calls {p : Int} {A : Option Addr} {c : Nat} {l : List Tk} (hl : RdTk W A l) (hi : ∀ e ∈ l, e.In) (hm : l.length ≤ 1000000) : Calls Tryd.prog 55 #[.slice A l.length c, .int .i64 p] W fun e w' => e = .returned (.bool (onT l p)) ∧ St W w' [] := by
  have hS := St.init W
  refine calls_of_wpE (args := [_, _]) Tryd.func55 rfl rfl rfl ?_
  refine c_seq ?_
  refine c_region ?_
  refine t_q (q_assign) ?_
  refine t_nil ?_
  refine c_seq ?_
  refine c_seq ?_
  refine c_region ?_
  refine t_q (q_mv (.slice _ _ _) rfl) ?_
  refine t_q (q_mv (.int _ _) rfl) ?_
  refine t_call Tryd.call81 (qmay_calls (p := p) (hl.st hS) hi hm) rfl ?_
  rintro e w ⟨rfl, hT⟩
  refine ⟨_, rfl, ?_⟩
  replace hS := hS.after hT
  refine t_q (q_not rfl) ?_
  refine t_nil ?_
  refine c_cond rfl ?_ ?_
  · intro hc2
    have hD : onT l p = false := onT_no (bnt hc2)
    refine c_seq ?_
    refine c_region ?_
    refine t_q (q_assign) ?_
    refine t_nil ?_
    refine c_ret ?_
    refine r_one rfl rfl ?_
    have hN := hS.nil
    clear hS
    refine ⟨congrArg (fun b => Ending.returned (.bool b)) ?_, hN⟩
    exact hD.symm
  · intro hc2
    have hmy : mayT l p = true := bnf hc2
    have hD := onT_yes hmy
    have hg : GoodT l := (of_decide_eq_true hmy).1
    have hp := (of_decide_eq_true hmy).2
    have hkp := rowK_pos hg hp.1
    have hkl := rowK_le l p
    obtain ⟨⟨hf1, hf2⟩, hs1, hs2, hs3⟩ := rowT_ok hg hp.1 hi
    refine c_skip ?_
    refine c_seq ?_
    refine c_region ?_
    refine t_q (q_mv (.slice _ _ _) rfl) ?_
    refine t_q (q_mv (.slice _ _ _) rfl) ?_
    refine t_q (q_mv (.int _ _) rfl) ?_
    refine t_call Tryd.call82 (qrow_calls (p := p) (hl.st hS) hi hm hg hp.1) rfl ?_
    rintro e w ⟨rfl, hT⟩
    refine ⟨_, rfl, ?_⟩
    replace hS := hS.after hT
    first | refine t_index_nat Tryd.runUnderlying82 Tryd.sizeOf117 (hl.st hS) rfl rfl (by omega) (fun ad4 hl4 hx4 => ?_) | refine t_index Tryd.runUnderlying82 Tryd.sizeOf117 (hl.st hS) rfl rfl (by omega) (fun ad4 hl4 hx4 => ?_)
    refine t_q (q_cast (v' := .agg (rowT l p).cells.toArray) (q_loadN Tryd.isAgg117 Tryd.sizeOf117 rfl hl4 hx4) (by rfl)) ?_
    refine t_alloc Tryd.zeroValue117 rfl hS (fun g5 w hS => ?_)
    refine t_store (v := (.agg _)) Tryd.sizeOf117 hS (by repeat first | exact .here _ _ | assumption | apply Pick.there) rfl rfl rfl rfl rfl rfl (fun w hS => ?_)
    replace hS := hS.recast (show blkA g5 117 _ = blkA g5 117 [.int .i64 (rowT l p).frm, .int .i64 (rowT l p).size] from rfl)
    refine t_nil ?_
    refine c_seq ?_
    refine c_region ?_
    refine t_q (q_mv (.int _ _) rfl) ?_
    refine t_q (q_fieldAddr 0 Tryd.runUnderlying117 rfl Tryd.sizeOf2 (by decide) rfl rfl) ?_
    refine t_q (q_load1 Tryd.isAgg2 rfl (hS.cell (by repeat first | exact .here _ _ | assumption | apply Pick.there) rfl)) ?_
    refine t_q (q_sub_i64 rfl rfl (by omega)) ?_
    refine t_q (q_fieldAddr 1 Tryd.runUnderlying117 rfl Tryd.sizeOf2 (by decide) rfl rfl) ?_
    refine t_q (q_load1 Tryd.isAgg2 rfl (hS.cell (by repeat first | exact .here _ _ | assumption | apply Pick.there) rfl)) ?_
    refine t_q (q_rem_n rfl rfl (by omega) (by omega)) ?_
    refine t_q (q_eql rfl rfl) ?_
    refine t_q (q_as (.bool _) rfl) ?_
    refine t_nil ?_
    refine c_ret ?_
    refine r_one rfl rfl ?_
    have hN := hS.nil
    clear hS
    refine ⟨congrArg (fun b => Ending.returned (.bool b)) ?_, hN⟩
    exact hD.symm
set_option maxHeartbeats 2000000 in
set_option maxRecDepth 100000 in
theorem fits_calls {x : RuV} (hx : x.Gd W) {last side kind price qty : Int} (hlast : -9223372036854775808 ≤ last ∧ last ≤ 9223372036854775807) (hprice : -9223372036854775808 ≤ price ∧ price ≤ 9223372036854775807) (hqty : -9223372036854775808 ≤ qty ∧ qty ≤ 9223372036854775807) : Calls Tryd.prog 27 #[.agg x.cells.toArray, .int .i64 last, .int .i64 side, .int .i64 kind, .int .i64 price, .int .i64 qty] W fun e w' => ∃ v ps, e = .returned v ∧ ErrL ps v (errOf (fitV x last side kind price qty)) ∧ St W w' [rdsA ps] := by
  have hS := (St.init W).rds0
  refine calls_of_wpE (args := [_, _, _, _, _, _]) Tryd.func27 rfl rfl rfl ?_
  refine c_seq ?_
  refine c_region ?_
  refine t_box (v := (.agg _)) rfl rfl hS (fun g6 w hS => ?_)
  replace hS := hS.recast (show _ = blkA g6 42 [.int .i64 x.version, .slice x.ticks.A x.ticks.l.length x.ticks.c, .int .i64 x.lot, .int .i64 x.band, .slice x.fees.A x.fees.l.length x.fees.c, .int .i64 x.round, .int .i64 x.priority, .int .i64 x.self, .int .i64 x.layout] from rfl)
  refine t_q (q_assign) ?_
  refine t_nil ?_
  refine c_seq ?_
  refine c_region ?_
  refine t_q (q_mv (.int _ _) rfl) ?_
  refine t_q (q_neq rfl rfl) ?_
  refine t_q (q_as (.bool _) rfl) ?_
  refine t_nil ?_
  refine c_seq ?_
  refine c_block ?_
  refine c_seq ?_
  refine c_region ?_
  refine t_q (q_cast (v' := .agg x.cells.toArray) (q_load_blk Tryd.isAgg42 Tryd.sizeOf42 rfl (hS.blk (by repeat first | exact .here _ _ | assumption | apply Pick.there)) rfl) (by rfl)) ?_
  refine t_call Tryd.call25 (rcheck_calls (hx.st hS)) rfl ?_
  rintro e w ⟨v0, rfl, hIf, hn, hT⟩
  refine ⟨_, rfl, ?_⟩
  replace hS := hS.after hT
  refine t_q (q_neq_iface_nil Tryd.runUnderlying24 rfl (hIf)) ?_
  refine t_q (q_as (.bool _) rfl) ?_
  refine t_nil ?_
  refine c_cond rfl ?_ ?_
  · intro hc4
    have hgd : goodR x = false := by rw [← hn]; exact bnt hc4
    have hD : fitV x last side kind price qty = (43, 9) := if_pos hgd
    refine c_seq ?_
    refine c_region ?_
    refine t_call Tryd.call50 (eown_calls (hS.pick (A := rdsA []) (by repeat first | exact .here _ _ | assumption | apply Pick.there))) rfl ?_
    rintro e w ⟨v, ps, rfl, hv, _, hS⟩
    refine ⟨_, rfl, ?_⟩
    rw [own_eq] at hv
    refine t_q (q_as v rfl) ?_
    refine t_nil ?_
    refine c_ret ?_
    refine r_one rfl rfl ?_
    rw [hD]
    first
      | exact ⟨_, ps, rfl, hv, (hS.pick (A := rdsA ps) (by repeat first | exact .here _ _ | assumption | apply Pick.there)).front1⟩
      | exact ⟨_, [], rfl, rfl, (hS.pick (A := rdsA []) (by repeat first | exact .here _ _ | assumption | apply Pick.there)).front1⟩
  · intro hc4
    have hgd : goodR x = true := by rw [← hn]; exact bnf hc4
    obtain ⟨hgv, hgt, ⟨hgl1, hgl2, hgb1, hgb2⟩, hgf, hgm⟩ := goodR_iff.1 hgd
    have hg1 : ¬ goodR x = false := by rw [hgd]; decide
    refine c_seq ?_
    refine c_region ?_
    refine t_q (q_mv (.int _ _) rfl) ?_
    refine t_call Tryd.call49 (within_calls) rfl ?_
    rintro e w ⟨rfl, hT⟩
    refine ⟨_, rfl, ?_⟩
    replace hS := hS.after hT
    refine t_q (q_not rfl) ?_
    refine t_q (q_mv (.bool _) rfl) ?_
    refine t_case 25 rfl ?_ ?_
    · intro hg7
      refine t_no rfl rfl (by rw [(congrArg not (not_back hg7))]; decide) ?_
      refine t_no rfl rfl (by rw [(congrArg not (not_back hg7))]; decide) ?_
      refine t_no rfl rfl (by rw [(congrArg not (not_back hg7))]; decide) ?_
      refine t_q (q_pick_t rfl (congrArg not (not_back hg7))) ?_
      refine t_q (q_as (.bool _) rfl) ?_
      refine t_nil ?_
      refine c_cond_t rfl rfl ?_
      have hsk : ¬ ((1 ≤ side ∧ side ≤ 2) ∧ (1 ≤ kind ∧ kind ≤ 5)) := by
        first
          | (rintro ⟨h1, h2⟩; exact absurd h1 (of_decide_eq_false (bnt (by assumption : (!decide (1 ≤ side ∧ side ≤ 2)) = true))))
          | (rintro ⟨h1, h2⟩; exact absurd h2 (of_decide_eq_false (bnt (by assumption : (!decide (1 ≤ kind ∧ kind ≤ 5)) = true))))
      have hD : fitV x last side kind price qty = (2, 9) := by unfold fitV; rw [if_neg hg1, if_pos hsk]
      refine c_seq ?_
      refine c_region ?_
      refine t_call Tryd.call50 (eown_calls (hS.pick (A := rdsA []) (by repeat first | exact .here _ _ | assumption | apply Pick.there))) rfl ?_
      rintro e w ⟨v, ps, rfl, hv, _, hS⟩
      refine ⟨_, rfl, ?_⟩
      rw [own_eq] at hv
      refine t_q (q_as v rfl) ?_
      refine t_nil ?_
      refine c_ret ?_
      refine r_one rfl rfl ?_
      rw [hD]
      first
        | exact ⟨_, ps, rfl, hv, (hS.pick (A := rdsA ps) (by repeat first | exact .here _ _ | assumption | apply Pick.there)).front1⟩
        | exact ⟨_, [], rfl, rfl, (hS.pick (A := rdsA []) (by repeat first | exact .here _ _ | assumption | apply Pick.there)).front1⟩
    · intro hg7
      refine t_yes rfl rfl (congrArg not (not_back hg7)) ?_
      refine t_q (q_mv (.int _ _) rfl) ?_
      refine t_yes rfl rfl (congrArg not (not_back hg7)) ?_
      refine t_call Tryd.call49 (within_calls) rfl ?_
      rintro e w ⟨rfl, hT⟩
      refine ⟨_, rfl, ?_⟩
      replace hS := hS.after hT
      refine t_yes rfl rfl (congrArg not (not_back hg7)) ?_
      refine t_q (q_not rfl) ?_
      refine t_q (q_pick_f rfl (congrArg not (not_back hg7))) ?_
      refine t_q (q_as (.bool _) rfl) ?_
      refine t_nil ?_
      refine c_cond rfl ?_ ?_
      · intro hc10
        have hsk : ¬ ((1 ≤ side ∧ side ≤ 2) ∧ (1 ≤ kind ∧ kind ≤ 5)) := by
          first
            | (rintro ⟨h1, h2⟩; exact absurd h1 (of_decide_eq_false (bnt (by assumption : (!decide (1 ≤ side ∧ side ≤ 2)) = true))))
            | (rintro ⟨h1, h2⟩; exact absurd h2 (of_decide_eq_false (bnt (by assumption : (!decide (1 ≤ kind ∧ kind ≤ 5)) = true))))
        have hD : fitV x last side kind price qty = (2, 9) := by unfold fitV; rw [if_neg hg1, if_pos hsk]
        refine c_seq ?_
        refine c_region ?_
        refine t_call Tryd.call50 (eown_calls (hS.pick (A := rdsA []) (by repeat first | exact .here _ _ | assumption | apply Pick.there))) rfl ?_
        rintro e w ⟨v, ps, rfl, hv, _, hS⟩
        refine ⟨_, rfl, ?_⟩
        rw [own_eq] at hv
        refine t_q (q_as v rfl) ?_
        refine t_nil ?_
        refine c_ret ?_
        refine r_one rfl rfl ?_
        rw [hD]
        first
          | exact ⟨_, ps, rfl, hv, (hS.pick (A := rdsA ps) (by repeat first | exact .here _ _ | assumption | apply Pick.there)).front1⟩
          | exact ⟨_, [], rfl, rfl, (hS.pick (A := rdsA []) (by repeat first | exact .here _ _ | assumption | apply Pick.there)).front1⟩
      · intro hc10
        have hsk : (1 ≤ side ∧ side ≤ 2) ∧ (1 ≤ kind ∧ kind ≤ 5) := ⟨of_decide_eq_true (bnf (by assumption : (!decide (1 ≤ side ∧ side ≤ 2)) = false)), of_decide_eq_true (bnf (by assumption : (!decide (1 ≤ kind ∧ kind ≤ 5)) = false))⟩
        refine c_seq ?_
        refine c_region ?_
        refine t_q (q_mv (.bool _) rfl) ?_
        refine t_q (q_mv (.bool _) rfl) ?_
        refine t_case 33 rfl ?_ ?_
        · intro hg12
          have hg12d := of_decide_eq_true hg12
          refine t_yes rfl rfl hg12 ?_
          refine t_q (q_fieldAddr 1 Tryd.runUnderlying42 rfl Tryd.sizeOf39 (by decide) rfl rfl) ?_
          refine t_yes rfl rfl hg12 ?_
          refine t_q (q_load1 Tryd.isAgg39 rfl (hS.cell (by repeat first | exact .here _ _ | assumption | apply Pick.there) rfl)) ?_
          refine t_yes rfl rfl hg12 ?_
          refine t_q (q_mv (.int _ _) rfl) ?_
          refine t_yes rfl rfl hg12 ?_
          refine t_call Tryd.call58 (gon_calls (l := x.ticks.l) (p := price) (hx.trd.st hS) hx.tin hx.tle) rfl ?_
          rintro e w ⟨rfl, hT⟩
          refine ⟨_, rfl, ?_⟩
          replace hS := hS.after hT
          refine t_yes rfl rfl hg12 ?_
          refine t_q (q_not rfl) ?_
          refine t_q (q_pick_t rfl hg12) ?_
          refine t_q (q_as (.bool _) rfl) ?_
          refine t_nil ?_
          refine c_cond rfl ?_ ?_
          · intro hc14
            have hon : kind ≠ 2 ∧ onT x.ticks.l price = false := ⟨by omega, bnt (by assumption : (!onT x.ticks.l price) = true)⟩
            have hD : fitV x last side kind price qty = (40, 6) := by unfold fitV; rw [if_neg hg1, if_neg (not_not_intro hsk), if_pos hon]
            refine c_seq ?_
            refine c_region ?_
            refine t_call Tryd.call52 (eof_calls (hS.pick (A := rdsA []) (by repeat first | exact .here _ _ | assumption | apply Pick.there))) rfl ?_
            rintro e w ⟨v, ps, rfl, hv, _, hS⟩
            refine ⟨_, rfl, ?_⟩
            rw [of_eq _ (by decide)] at hv
            refine t_q (q_as v rfl) ?_
            refine t_nil ?_
            refine c_ret ?_
            refine r_one rfl rfl ?_
            rw [hD]
            first
              | exact ⟨_, ps, rfl, hv, (hS.pick (A := rdsA ps) (by repeat first | exact .here _ _ | assumption | apply Pick.there)).front1⟩
              | exact ⟨_, [], rfl, rfl, (hS.pick (A := rdsA []) (by repeat first | exact .here _ _ | assumption | apply Pick.there)).front1⟩
          · intro hc14
            have hon : ¬ (kind ≠ 2 ∧ onT x.ticks.l price = false) := by
              rintro ⟨h1, h2⟩
              first
                | omega
                | (have h3 := bnf (by assumption : (!onT x.ticks.l price) = false); rw [h2] at h3; cases h3)
            refine c_seq ?_
            refine c_region ?_
            refine t_q (q_fieldAddr 2 Tryd.runUnderlying42 rfl Tryd.sizeOf2 (by decide) rfl rfl) ?_
            refine t_q (q_load1 Tryd.isAgg2 rfl (hS.cell (by repeat first | exact .here _ _ | assumption | apply Pick.there) rfl)) ?_
            refine t_q (q_mv (.int _ _) rfl) ?_
            refine t_call Tryd.call59 (lot_calls (lot := x.lot) (q := qty) ⟨hgl1, hgl2⟩ hqty) rfl ?_
            rintro e w ⟨rfl, hT⟩
            refine ⟨_, rfl, ?_⟩
            replace hS := hS.after hT
            refine t_q (q_neq rfl rfl) ?_
            refine t_q (q_as (.bool _) rfl) ?_
            refine t_nil ?_
            refine c_cond rfl ?_ ?_
            · intro hc18
              have hc18d := of_decide_eq_true hc18
              have hlo : lotE x.lot qty ≠ 0 := by omega
              have hD : fitV x last side kind price qty = (lotE x.lot qty, 7) := by unfold fitV; rw [if_neg hg1, if_neg (not_not_intro hsk), if_neg hon, if_pos hlo]
              refine c_seq ?_
              refine c_region ?_
              refine t_q (q_fieldAddr 2 Tryd.runUnderlying42 rfl Tryd.sizeOf2 (by decide) rfl rfl) ?_
              refine t_q (q_load1 Tryd.isAgg2 rfl (hS.cell (by repeat first | exact .here _ _ | assumption | apply Pick.there) rfl)) ?_
              refine t_q (q_mv (.int _ _) rfl) ?_
              refine t_call Tryd.call59 (lot_calls (lot := x.lot) (q := qty) ⟨hgl1, hgl2⟩ hqty) rfl ?_
              rintro e w ⟨rfl, hT⟩
              refine ⟨_, rfl, ?_⟩
              replace hS := hS.after hT
              refine t_call Tryd.call52 (eof_calls (hS.pick (A := rdsA []) (by repeat first | exact .here _ _ | assumption | apply Pick.there))) rfl ?_
              rintro e w ⟨v, ps, rfl, hv, _, hS⟩
              refine ⟨_, rfl, ?_⟩
              rw [of_eq _ (by decide)] at hv
              refine t_q (q_as v rfl) ?_
              refine t_nil ?_
              refine c_ret ?_
              refine r_one rfl rfl ?_
              rw [hD]
              first
                | exact ⟨_, ps, rfl, hv, (hS.pick (A := rdsA ps) (by repeat first | exact .here _ _ | assumption | apply Pick.there)).front1⟩
                | exact ⟨_, [], rfl, rfl, (hS.pick (A := rdsA []) (by repeat first | exact .here _ _ | assumption | apply Pick.there)).front1⟩
            · intro hc18
              have hc18d := of_decide_eq_false hc18
              have hlo : ¬ lotE x.lot qty ≠ 0 := by omega
              refine c_seq ?_
              refine c_region ?_
              refine t_q (q_mv (.bool _) rfl) ?_
              refine t_q (q_as (.bool _) rfl) ?_
              refine t_nil ?_
              refine c_cond_t rfl hg12 ?_
              have hD : fitV x last side kind price qty = (bandE last price x.band, 7) := by unfold fitV; rw [if_neg hg1, if_neg (not_not_intro hsk), if_neg hon, if_neg hlo, if_pos (by omega)]
              refine c_seq ?_
              refine c_region ?_
              refine t_q (q_mv (.int _ _) rfl) ?_
              refine t_q (q_mv (.int _ _) rfl) ?_
              refine t_q (q_fieldAddr 3 Tryd.runUnderlying42 rfl Tryd.sizeOf2 (by decide) rfl rfl) ?_
              refine t_q (q_load1 Tryd.isAgg2 rfl (hS.cell (by repeat first | exact .here _ _ | assumption | apply Pick.there) rfl)) ?_
              refine t_call Tryd.call60 (band_calls (last := last) (p := price) (band := x.band) hprice hlast ⟨hgb1, hgb2⟩) rfl ?_
              rintro e w ⟨rfl, hT⟩
              refine ⟨_, rfl, ?_⟩
              replace hS := hS.after hT
              refine t_call Tryd.call52 (eof_calls (hS.pick (A := rdsA []) (by repeat first | exact .here _ _ | assumption | apply Pick.there))) rfl ?_
              rintro e w ⟨v, ps, rfl, hv, _, hS⟩
              refine ⟨_, rfl, ?_⟩
              rw [of_eq _ (by decide)] at hv
              refine t_q (q_as v rfl) ?_
              refine t_nil ?_
              refine c_ret ?_
              refine r_one rfl rfl ?_
              rw [hD]
              first
                | exact ⟨_, ps, rfl, hv, (hS.pick (A := rdsA ps) (by repeat first | exact .here _ _ | assumption | apply Pick.there)).front1⟩
                | exact ⟨_, [], rfl, rfl, (hS.pick (A := rdsA []) (by repeat first | exact .here _ _ | assumption | apply Pick.there)).front1⟩
        · intro hg12
          have hg12d := of_decide_eq_false hg12
          refine t_no rfl rfl (by rw [hg12]; decide) ?_
          refine t_no rfl rfl (by rw [hg12]; decide) ?_
          refine t_no rfl rfl (by rw [hg12]; decide) ?_
          refine t_no rfl rfl (by rw [hg12]; decide) ?_
          refine t_no rfl rfl (by rw [hg12]; decide) ?_
          refine t_q (q_pick_f rfl hg12) ?_
          refine t_q (q_as (.bool _) rfl) ?_
          refine t_nil ?_
          refine c_cond_f rfl rfl ?_
          have hon : ¬ (kind ≠ 2 ∧ onT x.ticks.l price = false) := by
            rintro ⟨h1, h2⟩
            first
              | omega
              | (have h3 := bnf (by assumption : (!onT x.ticks.l price) = false); rw [h2] at h3; cases h3)
          refine c_seq ?_
          refine c_region ?_
          refine t_q (q_fieldAddr 2 Tryd.runUnderlying42 rfl Tryd.sizeOf2 (by decide) rfl rfl) ?_
          refine t_q (q_load1 Tryd.isAgg2 rfl (hS.cell (by repeat first | exact .here _ _ | assumption | apply Pick.there) rfl)) ?_
          refine t_q (q_mv (.int _ _) rfl) ?_
          refine t_call Tryd.call59 (lot_calls (lot := x.lot) (q := qty) ⟨hgl1, hgl2⟩ hqty) rfl ?_
          rintro e w ⟨rfl, hT⟩
          refine ⟨_, rfl, ?_⟩
          replace hS := hS.after hT
          refine t_q (q_neq rfl rfl) ?_
          refine t_q (q_as (.bool _) rfl) ?_
          refine t_nil ?_
          refine c_cond rfl ?_ ?_
          · intro hc25
            have hc25d := of_decide_eq_true hc25
            have hlo : lotE x.lot qty ≠ 0 := by omega
            have hD : fitV x last side kind price qty = (lotE x.lot qty, 7) := by unfold fitV; rw [if_neg hg1, if_neg (not_not_intro hsk), if_neg hon, if_pos hlo]
            refine c_seq ?_
            refine c_region ?_
            refine t_q (q_fieldAddr 2 Tryd.runUnderlying42 rfl Tryd.sizeOf2 (by decide) rfl rfl) ?_
            refine t_q (q_load1 Tryd.isAgg2 rfl (hS.cell (by repeat first | exact .here _ _ | assumption | apply Pick.there) rfl)) ?_
            refine t_q (q_mv (.int _ _) rfl) ?_
            refine t_call Tryd.call59 (lot_calls (lot := x.lot) (q := qty) ⟨hgl1, hgl2⟩ hqty) rfl ?_
            rintro e w ⟨rfl, hT⟩
            refine ⟨_, rfl, ?_⟩
            replace hS := hS.after hT
            refine t_call Tryd.call52 (eof_calls (hS.pick (A := rdsA []) (by repeat first | exact .here _ _ | assumption | apply Pick.there))) rfl ?_
            rintro e w ⟨v, ps, rfl, hv, _, hS⟩
            refine ⟨_, rfl, ?_⟩
            rw [of_eq _ (by decide)] at hv
            refine t_q (q_as v rfl) ?_
            refine t_nil ?_
            refine c_ret ?_
            refine r_one rfl rfl ?_
            rw [hD]
            first
              | exact ⟨_, ps, rfl, hv, (hS.pick (A := rdsA ps) (by repeat first | exact .here _ _ | assumption | apply Pick.there)).front1⟩
              | exact ⟨_, [], rfl, rfl, (hS.pick (A := rdsA []) (by repeat first | exact .here _ _ | assumption | apply Pick.there)).front1⟩
          · intro hc25
            have hc25d := of_decide_eq_false hc25
            have hlo : ¬ lotE x.lot qty ≠ 0 := by omega
            refine c_seq ?_
            refine c_region ?_
            refine t_q (q_mv (.bool _) rfl) ?_
            refine t_q (q_as (.bool _) rfl) ?_
            refine t_nil ?_
            refine c_cond_f rfl hg12 ?_
            have hD : fitV x last side kind price qty = (0, 0) := by unfold fitV; rw [if_neg hg1, if_neg (not_not_intro hsk), if_neg hon, if_neg hlo, if_neg (by omega)]
            refine c_skip ?_
            refine c_seq ?_
            refine c_region ?_
            refine t_q (q_assign) ?_
            refine t_nil ?_
            refine c_ret ?_
            refine r_one rfl rfl ?_
            rw [hD]
            first
              | exact ⟨_, ps, rfl, hv, (hS.pick (A := rdsA ps) (by repeat first | exact .here _ _ | assumption | apply Pick.there)).front1⟩
              | exact ⟨_, [], rfl, rfl, (hS.pick (A := rdsA []) (by repeat first | exact .here _ _ | assumption | apply Pick.there)).front1⟩
set_option maxHeartbeats 2000000 in
set_option maxRecDepth 100000 in
theorem qfits_calls {x : RuV} (hx : x.Gd W) {last side kind price qty : Int} (hlast : -9223372036854775808 ≤ last ∧ last ≤ 9223372036854775807) (hprice : -9223372036854775808 ≤ price ∧ price ≤ 9223372036854775807) (hqty : -9223372036854775808 ≤ qty ∧ qty ≤ 9223372036854775807) : Calls Tryd.prog 26 #[.agg x.cells.toArray, .int .i64 last, .int .i64 side, .int .i64 kind, .int .i64 price, .int .i64 qty] W fun e w' => e = .returned (.tuple #[.int .i64 (fitN (fitV x last side kind price qty)).1, .int .i64 (fitN (fitV x last side kind price qty)).2]) ∧ St W w' [] := by
  have hS := St.init W
  refine calls_of_wpE (args := [_, _, _, _, _, _]) Tryd.func26 rfl rfl rfl ?_
  refine c_seq ?_
  refine c_region ?_
  refine t_box (v := (.agg _)) rfl rfl hS (fun g6 w hS => ?_)
  replace hS := hS.recast (show _ = blkA g6 42 [.int .i64 x.version, .slice x.ticks.A x.ticks.l.length x.ticks.c, .int .i64 x.lot, .int .i64 x.band, .slice x.fees.A x.fees.l.length x.fees.c, .int .i64 x.round, .int .i64 x.priority, .int .i64 x.self, .int .i64 x.layout] from rfl)
  refine t_q (q_assign) ?_
  refine t_q (q_assign) ?_
  refine t_nil ?_
  refine c_seq ?_
  refine c_seq ?_
  refine c_region ?_
  refine t_q (q_cast (v' := .agg x.cells.toArray) (q_load_blk Tryd.isAgg42 Tryd.sizeOf42 rfl (hS.blk (by repeat first | exact .here _ _ | assumption | apply Pick.there)) rfl) (by rfl)) ?_
  refine t_call Tryd.call37 (qgoodr_calls (x := x) (hx.st hS)) rfl ?_
  rintro e w ⟨rfl, hT⟩
  refine ⟨_, rfl, ?_⟩
  replace hS := hS.after hT
  refine t_q (q_not rfl) ?_
  refine t_nil ?_
  refine c_cond rfl ?_ ?_
  · intro hc2
    have hgd : goodR x = false := bnt hc2
    have hD : fitV x last side kind price qty = (43, 9) := if_pos hgd
    have hF : fitN (fitV x last side kind price qty) = (43, 9) := by rw [hD]; exact rfl
    refine c_seq ?_
    refine c_region ?_
    refine t_q (q_assign) ?_
    refine t_q (q_assign) ?_
    refine t_nil ?_
    refine c_ret ?_
    refine r_two rfl rfl rfl ?_
    rw [hF]
    exact ⟨rfl, hS.nil⟩
  · intro hc2
    have hgd : goodR x = true := bnf hc2
    obtain ⟨hgv, hgt, ⟨hgl1, hgl2, hgb1, hgb2⟩, hgf, hgm⟩ := goodR_iff.1 hgd
    have hg1 : ¬ goodR x = false := by rw [hgd]; decide
    have htk : x.ticks.l.take 9 = x.ticks.l := List.take_of_length_le (by have := hgt.2.1; omega)
    refine c_skip ?_
    refine c_seq ?_
    refine c_seq ?_
    refine c_region ?_
    refine t_q (q_mv (.int _ _) rfl) ?_
    refine t_q (q_lss rfl rfl) ?_
    refine t_q (q_mv (.bool _) rfl) ?_
    refine t_case 21 rfl ?_ ?_
    · intro hg4
      have hg4d := of_decide_eq_true hg4
      refine t_no rfl rfl (by rw [hg4]; decide) ?_
      refine t_no rfl rfl (by rw [hg4]; decide) ?_
      refine t_q (q_pick_t rfl hg4) ?_
      refine t_q (q_mv (.bool _) rfl) ?_
      refine t_no rfl rfl (by decide) ?_
      refine t_no rfl rfl (by decide) ?_
      refine t_q (q_pick_t rfl rfl) ?_
      refine t_q (q_mv (.bool _) rfl) ?_
      refine t_no rfl rfl (by decide) ?_
      refine t_no rfl rfl (by decide) ?_
      refine t_q (q_pick_t rfl rfl) ?_
      refine t_nil ?_
      refine c_cond_t rfl rfl ?_
      have hsk : ¬ ((1 ≤ side ∧ side ≤ 2) ∧ (1 ≤ kind ∧ kind ≤ 5)) := by omega
      have hD : fitV x last side kind price qty = (2, 9) := by unfold fitV; rw [if_neg hg1, if_pos hsk]
      have hF : fitN (fitV x last side kind price qty) = (2, 9) := by rw [hD]; exact rfl
      refine c_seq ?_
      refine c_region ?_
      refine t_q (q_assign) ?_
      refine t_q (q_assign) ?_
      refine t_nil ?_
      refine c_ret ?_
      refine r_two rfl rfl rfl ?_
      rw [hF]
      exact ⟨rfl, hS.nil⟩
    · intro hg4
      have hg4d := of_decide_eq_false hg4
      refine t_yes rfl rfl hg4 ?_
      refine t_q (q_mv (.int _ _) rfl) ?_
      refine t_yes rfl rfl hg4 ?_
      refine t_q (q_gtr rfl rfl) ?_
      refine t_q (q_pick_f rfl hg4) ?_
      refine t_q (q_mv (.bool _) rfl) ?_
      refine t_case 25 rfl ?_ ?_
      · intro hg6
        have hg6d := of_decide_eq_true hg6
        refine t_no rfl rfl (by rw [hg6]; decide) ?_
        refine t_no rfl rfl (by rw [hg6]; decide) ?_
        refine t_q (q_pick_t rfl hg6) ?_
        refine t_q (q_mv (.bool _) rfl) ?_
        refine t_no rfl rfl (by decide) ?_
        refine t_no rfl rfl (by decide) ?_
        refine t_q (q_pick_t rfl rfl) ?_
        refine t_nil ?_
        refine c_cond_t rfl rfl ?_
        have hsk : ¬ ((1 ≤ side ∧ side ≤ 2) ∧ (1 ≤ kind ∧ kind ≤ 5)) := by omega
        have hD : fitV x last side kind price qty = (2, 9) := by unfold fitV; rw [if_neg hg1, if_pos hsk]
        have hF : fitN (fitV x last side kind price qty) = (2, 9) := by rw [hD]; exact rfl
        refine c_seq ?_
        refine c_region ?_
        refine t_q (q_assign) ?_
        refine t_q (q_assign) ?_
        refine t_nil ?_
        refine c_ret ?_
        refine r_two rfl rfl rfl ?_
        rw [hF]
        exact ⟨rfl, hS.nil⟩
      · intro hg6
        have hg6d := of_decide_eq_false hg6
        refine t_yes rfl rfl hg6 ?_
        refine t_q (q_mv (.int _ _) rfl) ?_
        refine t_yes rfl rfl hg6 ?_
        refine t_q (q_lss rfl rfl) ?_
        refine t_q (q_pick_f rfl hg6) ?_
        refine t_q (q_mv (.bool _) rfl) ?_
        refine t_case 29 rfl ?_ ?_
        · intro hg8
          have hg8d := of_decide_eq_true hg8
          refine t_no rfl rfl (by rw [hg8]; decide) ?_
          refine t_no rfl rfl (by rw [hg8]; decide) ?_
          refine t_q (q_pick_t rfl hg8) ?_
          refine t_nil ?_
          refine c_cond_t rfl rfl ?_
          have hsk : ¬ ((1 ≤ side ∧ side ≤ 2) ∧ (1 ≤ kind ∧ kind ≤ 5)) := by omega
          have hD : fitV x last side kind price qty = (2, 9) := by unfold fitV; rw [if_neg hg1, if_pos hsk]
          have hF : fitN (fitV x last side kind price qty) = (2, 9) := by rw [hD]; exact rfl
          refine c_seq ?_
          refine c_region ?_
          refine t_q (q_assign) ?_
          refine t_q (q_assign) ?_
          refine t_nil ?_
          refine c_ret ?_
          refine r_two rfl rfl rfl ?_
          rw [hF]
          exact ⟨rfl, hS.nil⟩
        · intro hg8
          have hg8d := of_decide_eq_false hg8
          refine t_yes rfl rfl hg8 ?_
          refine t_q (q_mv (.int _ _) rfl) ?_
          refine t_yes rfl rfl hg8 ?_
          refine t_q (q_gtr rfl rfl) ?_
          refine t_q (q_pick_f rfl hg8) ?_
          refine t_nil ?_
          refine c_cond rfl ?_ ?_
          · intro hc10
            have hc10d := of_decide_eq_true hc10
            have hsk : ¬ ((1 ≤ side ∧ side ≤ 2) ∧ (1 ≤ kind ∧ kind ≤ 5)) := by omega
            have hD : fitV x last side kind price qty = (2, 9) := by unfold fitV; rw [if_neg hg1, if_pos hsk]
            have hF : fitN (fitV x last side kind price qty) = (2, 9) := by rw [hD]; exact rfl
            refine c_seq ?_
            refine c_region ?_
            refine t_q (q_assign) ?_
            refine t_q (q_assign) ?_
            refine t_nil ?_
            refine c_ret ?_
            refine r_two rfl rfl rfl ?_
            rw [hF]
            exact ⟨rfl, hS.nil⟩
          · intro hc10
            have hc10d := of_decide_eq_false hc10
            have hsk : (1 ≤ side ∧ side ≤ 2) ∧ (1 ≤ kind ∧ kind ≤ 5) := by omega
            refine c_skip ?_
            refine c_seq ?_
            refine c_seq ?_
            refine c_region ?_
            refine t_q (q_mv (.int _ _) rfl) ?_
            refine t_q (q_neq rfl rfl) ?_
            refine t_q (q_mv (.bool _) rfl) ?_
            refine t_case 35 rfl ?_ ?_
            · intro hg12
              have hg12d := of_decide_eq_true hg12
              refine t_yes rfl rfl hg12 ?_
              refine t_q (q_cast (v' := .agg x.cells.toArray) (q_load_blk Tryd.isAgg42 Tryd.sizeOf42 rfl (hS.blk (by repeat first | exact .here _ _ | assumption | apply Pick.there)) rfl) (by rfl)) ?_
              refine t_yes rfl rfl hg12 ?_
              refine t_call Tryd.call46 (qticks_calls (hx.st hS)) rfl ?_
              rintro e w ⟨A37, c37, rfl, hT⟩
              refine ⟨_, rfl, ?_⟩
              have hS : St W w (_ :: _) := hS.lift hT
              refine t_yes rfl rfl hg12 ?_
              refine t_q (q_mv (.int _ _) rfl) ?_
              refine t_yes rfl rfl hg12 ?_
              refine t_call Tryd.call55 (qon_calls (l := x.ticks.l.take 9) (p := price) (rowRdTk hS (A := A37) (c := c37) (l := x.ticks.l.take 9) (by repeat first | exact .here _ _ | assumption | apply Pick.there) rfl) (fun e he => hx.tin e (List.mem_of_mem_take he)) (by rw [List.length_take]; omega)) rfl ?_
              rintro e w ⟨rfl, hT⟩
              refine ⟨_, rfl, ?_⟩
              replace hS := hS.after hT
              rw [htk]
              refine t_yes rfl rfl hg12 ?_
              refine t_q (q_not rfl) ?_
              refine t_q (q_pick_t rfl hg12) ?_
              refine t_nil ?_
              refine c_cond rfl ?_ ?_
              · intro hc15
                have hon : kind ≠ 2 ∧ onT x.ticks.l price = false := ⟨by omega, bnt (by assumption : (!onT x.ticks.l price) = true)⟩
                have hD : fitV x last side kind price qty = (40, 6) := by unfold fitV; rw [if_neg hg1, if_neg (not_not_intro hsk), if_pos hon]
                have hF : fitN (fitV x last side kind price qty) = (40, 6) := by rw [hD]; exact rfl
                refine c_seq ?_
                refine c_region ?_
                refine t_q (q_assign) ?_
                refine t_q (q_assign) ?_
                refine t_nil ?_
                refine c_ret ?_
                refine r_two rfl rfl rfl ?_
                rw [hF]
                exact ⟨rfl, hS.nil⟩
              · intro hc15
                have hon : ¬ (kind ≠ 2 ∧ onT x.ticks.l price = false) := by
                  rintro ⟨h1, h2⟩
                  first
                    | omega
                    | (have h3 := bnf (by assumption : (!onT x.ticks.l price) = false); rw [h2] at h3; cases h3)
                refine c_skip ?_
                refine c_seq ?_
                refine c_seq ?_
                refine c_region ?_
                refine t_q (q_fieldAddr 2 Tryd.runUnderlying42 rfl Tryd.sizeOf2 (by decide) rfl rfl) ?_
                refine t_q (q_load1 Tryd.isAgg2 rfl (hS.cell (by repeat first | exact .here _ _ | assumption | apply Pick.there) rfl)) ?_
                refine t_q (q_mv (.int _ _) rfl) ?_
                refine t_call Tryd.call56 (qlot_calls (lot := x.lot) (q := qty) ⟨hgl1, hgl2⟩ hqty) rfl ?_
                rintro e w ⟨rfl, hT⟩
                refine ⟨_, rfl, ?_⟩
                replace hS := hS.after hT
                refine t_q (q_as (.int _ _) rfl) ?_
                refine t_nil ?_
                refine c_seq ?_
                refine c_region ?_
                refine t_q (q_mv (.int _ _) rfl) ?_
                refine t_q (q_neq rfl rfl) ?_
                refine t_nil ?_
                refine c_cond rfl ?_ ?_
                · intro hc18
                  have hc18d := of_decide_eq_true hc18
                  have hlo : lotE x.lot qty ≠ 0 := by omega
                  have hD : fitV x last side kind price qty = (lotE x.lot qty, 7) := by unfold fitV; rw [if_neg hg1, if_neg (not_not_intro hsk), if_neg hon, if_pos hlo]
                  have hF : fitN (fitV x last side kind price qty) = (lotE x.lot qty, 7) := by rw [hD]; exact if_neg hlo
                  refine c_seq ?_
                  refine c_region ?_
                  refine t_q (q_mv (.int _ _) rfl) ?_
                  refine t_q (q_as (.int _ _) rfl) ?_
                  refine t_q (q_assign) ?_
                  refine t_nil ?_
                  refine c_ret ?_
                  refine r_two rfl rfl rfl ?_
                  rw [hF]
                  exact ⟨rfl, hS.nil⟩
                · intro hc18
                  have hc18d := of_decide_eq_false hc18
                  have hlo : ¬ lotE x.lot qty ≠ 0 := by omega
                  refine c_skip ?_
                  refine c_seq ?_
                  refine c_seq ?_
                  refine c_region ?_
                  refine t_q (q_mv (.int _ _) rfl) ?_
                  refine t_q (q_eql rfl rfl) ?_
                  refine t_nil ?_
                  refine c_cond rfl ?_ ?_
                  · intro hc20
                    have hc20d := of_decide_eq_true hc20
                    have hD : fitV x last side kind price qty = (0, 0) := by unfold fitV; rw [if_neg hg1, if_neg (not_not_intro hsk), if_neg hon, if_neg hlo, if_neg (by omega)]
                    have hF : fitN (fitV x last side kind price qty) = (0, 0) := by rw [hD]; exact rfl
                    refine c_seq ?_
                    refine c_region ?_
                    refine t_q (q_assign) ?_
                    refine t_q (q_assign) ?_
                    refine t_nil ?_
                    refine c_ret ?_
                    refine r_two rfl rfl rfl ?_
                    rw [hF]
                    exact ⟨rfl, hS.nil⟩
                  · intro hc20
                    have hc20d := of_decide_eq_false hc20
                    refine c_skip ?_
                    refine c_seq ?_
                    refine c_seq ?_
                    refine c_region ?_
                    refine t_q (q_mv (.int _ _) rfl) ?_
                    refine t_q (q_mv (.int _ _) rfl) ?_
                    refine t_q (q_fieldAddr 3 Tryd.runUnderlying42 rfl Tryd.sizeOf2 (by decide) rfl rfl) ?_
                    refine t_q (q_load1 Tryd.isAgg2 rfl (hS.cell (by repeat first | exact .here _ _ | assumption | apply Pick.there) rfl)) ?_
                    refine t_call Tryd.call57 (qband_calls (last := last) (p := price) (band := x.band) hprice hlast ⟨hgb1, hgb2⟩) rfl ?_
                    rintro e w ⟨rfl, hT⟩
                    refine ⟨_, rfl, ?_⟩
                    replace hS := hS.after hT
                    refine t_q (q_as (.int _ _) rfl) ?_
                    refine t_nil ?_
                    refine c_seq ?_
                    refine c_region ?_
                    refine t_q (q_mv (.int _ _) rfl) ?_
                    refine t_q (q_neq rfl rfl) ?_
                    refine t_nil ?_
                    refine c_cond rfl ?_ ?_
                    · intro hc23
                      have hc23d := of_decide_eq_true hc23
                      have hD : fitV x last side kind price qty = (bandE last price x.band, 7) := by unfold fitV; rw [if_neg hg1, if_neg (not_not_intro hsk), if_neg hon, if_neg hlo, if_pos (by omega)]
                      have hbe : ¬ bandE last price x.band = 0 := by omega
                      have hF : fitN (fitV x last side kind price qty) = (bandE last price x.band, 7) := by rw [hD]; exact if_neg hbe
                      refine c_seq ?_
                      refine c_region ?_
                      refine t_q (q_mv (.int _ _) rfl) ?_
                      refine t_q (q_as (.int _ _) rfl) ?_
                      refine t_q (q_assign) ?_
                      refine t_nil ?_
                      refine c_ret ?_
                      refine r_two rfl rfl rfl ?_
                      rw [hF]
                      exact ⟨rfl, hS.nil⟩
                    · intro hc23
                      have hc23d := of_decide_eq_false hc23
                      have hD : fitV x last side kind price qty = (bandE last price x.band, 7) := by unfold fitV; rw [if_neg hg1, if_neg (not_not_intro hsk), if_neg hon, if_neg hlo, if_pos (by omega)]
                      have hbe : bandE last price x.band = 0 := by omega
                      have hF : fitN (fitV x last side kind price qty) = (0, 0) := by rw [hD]; exact if_pos hbe
                      refine c_skip ?_
                      refine c_seq ?_
                      refine c_region ?_
                      refine t_q (q_assign) ?_
                      refine t_q (q_assign) ?_
                      refine t_nil ?_
                      refine c_ret ?_
                      refine r_two rfl rfl rfl ?_
                      rw [hF]
                      exact ⟨rfl, hS.nil⟩
            · intro hg12
              have hg12d := of_decide_eq_false hg12
              refine t_no rfl rfl (by rw [hg12]; decide) ?_
              refine t_no rfl rfl (by rw [hg12]; decide) ?_
              refine t_no rfl rfl (by rw [hg12]; decide) ?_
              refine t_no rfl rfl (by rw [hg12]; decide) ?_
              refine t_no rfl rfl (by rw [hg12]; decide) ?_
              refine t_q (q_pick_f rfl hg12) ?_
              refine t_nil ?_
              refine c_cond_f rfl rfl ?_
              have hon : ¬ (kind ≠ 2 ∧ onT x.ticks.l price = false) := by
                rintro ⟨h1, h2⟩
                first
                  | omega
                  | (have h3 := bnf (by assumption : (!onT x.ticks.l price) = false); rw [h2] at h3; cases h3)
              refine c_skip ?_
              refine c_seq ?_
              refine c_seq ?_
              refine c_region ?_
              refine t_q (q_fieldAddr 2 Tryd.runUnderlying42 rfl Tryd.sizeOf2 (by decide) rfl rfl) ?_
              refine t_q (q_load1 Tryd.isAgg2 rfl (hS.cell (by repeat first | exact .here _ _ | assumption | apply Pick.there) rfl)) ?_
              refine t_q (q_mv (.int _ _) rfl) ?_
              refine t_call Tryd.call56 (qlot_calls (lot := x.lot) (q := qty) ⟨hgl1, hgl2⟩ hqty) rfl ?_
              rintro e w ⟨rfl, hT⟩
              refine ⟨_, rfl, ?_⟩
              replace hS := hS.after hT
              refine t_q (q_as (.int _ _) rfl) ?_
              refine t_nil ?_
              refine c_seq ?_
              refine c_region ?_
              refine t_q (q_mv (.int _ _) rfl) ?_
              refine t_q (q_neq rfl rfl) ?_
              refine t_nil ?_
              refine c_cond rfl ?_ ?_
              · intro hc26
                have hc26d := of_decide_eq_true hc26
                have hlo : lotE x.lot qty ≠ 0 := by omega
                have hD : fitV x last side kind price qty = (lotE x.lot qty, 7) := by unfold fitV; rw [if_neg hg1, if_neg (not_not_intro hsk), if_neg hon, if_pos hlo]
                have hF : fitN (fitV x last side kind price qty) = (lotE x.lot qty, 7) := by rw [hD]; exact if_neg hlo
                refine c_seq ?_
                refine c_region ?_
                refine t_q (q_mv (.int _ _) rfl) ?_
                refine t_q (q_as (.int _ _) rfl) ?_
                refine t_q (q_assign) ?_
                refine t_nil ?_
                refine c_ret ?_
                refine r_two rfl rfl rfl ?_
                rw [hF]
                exact ⟨rfl, hS.nil⟩
              · intro hc26
                have hc26d := of_decide_eq_false hc26
                have hlo : ¬ lotE x.lot qty ≠ 0 := by omega
                refine c_skip ?_
                refine c_seq ?_
                refine c_seq ?_
                refine c_region ?_
                refine t_q (q_mv (.int _ _) rfl) ?_
                refine t_q (q_eql rfl rfl) ?_
                refine t_nil ?_
                refine c_cond rfl ?_ ?_
                · intro hc28
                  have hc28d := of_decide_eq_true hc28
                  have hD : fitV x last side kind price qty = (0, 0) := by unfold fitV; rw [if_neg hg1, if_neg (not_not_intro hsk), if_neg hon, if_neg hlo, if_neg (by omega)]
                  have hF : fitN (fitV x last side kind price qty) = (0, 0) := by rw [hD]; exact rfl
                  refine c_seq ?_
                  refine c_region ?_
                  refine t_q (q_assign) ?_
                  refine t_q (q_assign) ?_
                  refine t_nil ?_
                  refine c_ret ?_
                  refine r_two rfl rfl rfl ?_
                  rw [hF]
                  exact ⟨rfl, hS.nil⟩
                · intro hc28
                  have hc28d := of_decide_eq_false hc28
                  refine c_skip ?_
                  refine c_seq ?_
                  refine c_seq ?_
                  refine c_region ?_
                  refine t_q (q_mv (.int _ _) rfl) ?_
                  refine t_q (q_mv (.int _ _) rfl) ?_
                  refine t_q (q_fieldAddr 3 Tryd.runUnderlying42 rfl Tryd.sizeOf2 (by decide) rfl rfl) ?_
                  refine t_q (q_load1 Tryd.isAgg2 rfl (hS.cell (by repeat first | exact .here _ _ | assumption | apply Pick.there) rfl)) ?_
                  refine t_call Tryd.call57 (qband_calls (last := last) (p := price) (band := x.band) hprice hlast ⟨hgb1, hgb2⟩) rfl ?_
                  rintro e w ⟨rfl, hT⟩
                  refine ⟨_, rfl, ?_⟩
                  replace hS := hS.after hT
                  refine t_q (q_as (.int _ _) rfl) ?_
                  refine t_nil ?_
                  refine c_seq ?_
                  refine c_region ?_
                  refine t_q (q_mv (.int _ _) rfl) ?_
                  refine t_q (q_neq rfl rfl) ?_
                  refine t_nil ?_
                  refine c_cond rfl ?_ ?_
                  · intro hc31
                    have hc31d := of_decide_eq_true hc31
                    have hD : fitV x last side kind price qty = (bandE last price x.band, 7) := by unfold fitV; rw [if_neg hg1, if_neg (not_not_intro hsk), if_neg hon, if_neg hlo, if_pos (by omega)]
                    have hbe : ¬ bandE last price x.band = 0 := by omega
                    have hF : fitN (fitV x last side kind price qty) = (bandE last price x.band, 7) := by rw [hD]; exact if_neg hbe
                    refine c_seq ?_
                    refine c_region ?_
                    refine t_q (q_mv (.int _ _) rfl) ?_
                    refine t_q (q_as (.int _ _) rfl) ?_
                    refine t_q (q_assign) ?_
                    refine t_nil ?_
                    refine c_ret ?_
                    refine r_two rfl rfl rfl ?_
                    rw [hF]
                    exact ⟨rfl, hS.nil⟩
                  · intro hc31
                    have hc31d := of_decide_eq_false hc31
                    have hD : fitV x last side kind price qty = (bandE last price x.band, 7) := by unfold fitV; rw [if_neg hg1, if_neg (not_not_intro hsk), if_neg hon, if_neg hlo, if_pos (by omega)]
                    have hbe : bandE last price x.band = 0 := by omega
                    have hF : fitN (fitV x last side kind price qty) = (0, 0) := by rw [hD]; exact if_pos hbe
                    refine c_skip ?_
                    refine c_seq ?_
                    refine c_region ?_
                    refine t_q (q_assign) ?_
                    refine t_q (q_assign) ?_
                    refine t_nil ?_
                    refine c_ret ?_
                    refine r_two rfl rfl rfl ?_
                    rw [hF]
                    exact ⟨rfl, hS.nil⟩
end Go.Proofs.YtcgagmojgjbfpaaDoor
