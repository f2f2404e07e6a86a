/- Rules: light ones; Check with its error; the error that was found. -/
import Derived.Test.YtcgagmojgjbfpaaDoorFe
import Derived.Test.YtcgagmojgjbfpaaDoorUc
namespace Go.Proofs.YtcgagmojgjbfpaaDoor
open Go Go.RowKit Go.Lib
variable {W : World}
def lightR (x : RuV) : Bool := decide (x.ticks.l.length ≤ 20 ∧ x.fees.l.length ≤ 20)
theorem light_rgd {x : RuV} {w : World} (hx : x.Ok w) (h : lightR x = true) : x.Gd w := by
  have h := of_decide_eq_true h
  exact hx.gd (by omega) (by omega)
attribute [local irreducible] blkA rowA rdsA
set_option maxRecDepth 100000 in
theorem rlight_calls {x : RuV} : Calls Tryd.prog 21 #[.agg x.cells.toArray] W fun e w' => e = .returned (.bool (lightR x)) ∧ St W w' [] := by
  have hS := St.init W
  refine calls_of_wpE (args := [_]) Tryd.func21 rfl rfl rfl ?_
  refine c_seq ?_
  refine c_region ?_
  refine t_box (v := (.agg _)) rfl rfl hS (fun g1 w hS => ?_)
  replace hS := hS.recast (show _ = blkA g1 42 [.int .i64 x.version, .slice x.ticks.A x.ticks.l.length x.ticks.c, .int .i64 x.lot, .int .i64 x.band, .slice x.fees.A x.fees.l.length x.fees.c, .int .i64 x.round, .int .i64 x.priority, .int .i64 x.self, .int .i64 x.layout] from rfl)
  refine t_q (q_assign) ?_
  refine t_nil ?_
  refine c_seq ?_
  refine c_region ?_
  refine t_q (q_fieldAddr 1 Tryd.runUnderlying42 rfl Tryd.sizeOf39 (by decide) rfl rfl) ?_
  refine t_q (q_load1 Tryd.isAgg39 rfl (hS.cell (by repeat first | exact .here _ _ | assumption | apply Pick.there) rfl)) ?_
  refine t_q (q_len_slice Tryd.runUnderlying39 rfl) ?_
  refine t_q (q_leq rfl rfl) ?_
  refine t_q (q_mv (.bool _) rfl) ?_
  refine t_case 7 rfl ?_ ?_
  · intro hg2
    have hg2d := of_decide_eq_true hg2
    refine t_yes rfl rfl hg2 ?_
    refine t_q (q_fieldAddr 4 Tryd.runUnderlying42 rfl Tryd.sizeOf40 (by decide) rfl rfl) ?_
    refine t_yes rfl rfl hg2 ?_
    refine t_q (q_load1 Tryd.isAgg40 rfl (hS.cell (by repeat first | exact .here _ _ | assumption | apply Pick.there) rfl)) ?_
    refine t_yes rfl rfl hg2 ?_
    refine t_q (q_len_slice Tryd.runUnderlying40 rfl) ?_
    refine t_yes rfl rfl hg2 ?_
    refine t_q (q_leq rfl rfl) ?_
    refine t_q (q_pick_t rfl hg2) ?_
    refine t_q (q_as (.bool _) rfl) ?_
    refine t_nil ?_
    refine c_ret ?_
    refine r_one rfl rfl ?_
    unfold lightR
    refine ⟨congrArg (fun b => Ending.returned (.bool b)) ?_, hS.nil⟩
    first
      | (rw [decide_eq_decide]; omega)
      | (symm; exact decide_eq_false (by omega))
      | (symm; exact decide_eq_true (by omega))
  · intro hg2
    have hg2d := of_decide_eq_false hg2
    refine t_no rfl rfl (by rw [hg2]; decide) ?_
    refine t_no rfl rfl (by rw [hg2]; decide) ?_
    refine t_no rfl rfl (by rw [hg2]; decide) ?_
    refine t_no rfl rfl (by rw [hg2]; decide) ?_
    refine t_q (q_pick_f rfl hg2) ?_
    refine t_q (q_as (.bool _) rfl) ?_
    refine t_nil ?_
    refine c_ret ?_
    refine r_one rfl rfl ?_
    unfold lightR
    refine ⟨congrArg (fun b => Ending.returned (.bool b)) ?_, hS.nil⟩
    first
      | (rw [decide_eq_decide]; omega)
      | (symm; exact decide_eq_false (by omega))
      | (symm; exact decide_eq_true (by omega))
set_option maxRecDepth 100000 in
theorem found_0 {w : World} {R : List Asn} {ps : List RdP} {layer : Int} (hE : EtOk W) (hS : St W w (rdsA ps :: R)) : Calls Tryd.prog 24 #[.nilIface, .int .i64 0, .int .i64 layer] w fun e w' => e = .returned (.bool true) ∧ St W w' (rdsA ps :: R) := by
  have hv : ErrL ps .nilIface [] := rfl
  refine calls_of_wpE (args := [_, _, _]) Tryd.func24 rfl rfl rfl ?_
  refine c_seq ?_
  refine c_region ?_
  refine t_q (q_assign) ?_
  refine t_nil ?_
  refine c_seq ?_
  refine c_region ?_
  refine t_q (q_mv .nilIface rfl) ?_
  refine t_call Tryd.call14 (layers_calls hE (hS.pick (A := rdsA ps) (by repeat first | exact .here _ _ | assumption | apply Pick.there)) hv (by simp)) rfl ?_
  rintro e w ⟨A9, c9, rfl, hS⟩
  refine ⟨_, rfl, ?_⟩
  refine t_q (q_as (.slice _ _ _) rfl) ?_
  refine t_nil ?_
  refine c_seq ?_
  refine c_seq ?_
  refine c_region ?_
  refine t_q (q_mv (.int _ _) rfl) ?_
  refine t_q (q_cast (v' := .bool true) (q_eql rfl rfl) (by rfl)) ?_
  refine t_nil ?_
  refine c_cond_t rfl rfl ?_
  refine c_seq ?_
  refine c_region ?_
  refine t_q (q_mv .nilIface rfl) ?_
  refine t_q (q_cast (v' := .bool true) (q_eql_iface_nil Tryd.runUnderlying24 rfl (.inl rfl)) (by rfl)) ?_
  refine t_q (q_mv (.bool _) rfl) ?_
  refine t_yes rfl rfl rfl ?_
  refine t_q (q_mv (.slice _ _ _) rfl) ?_
  refine t_yes rfl rfl rfl ?_
  refine t_q (q_len_slice Tryd.runUnderlying22 rfl) ?_
  refine t_yes rfl rfl rfl ?_
  refine t_q (q_cast (v' := .bool true) (q_eql rfl rfl) (by rfl)) ?_
  refine t_q (q_pick_t rfl rfl) ?_
  refine t_q (q_as (.bool _) rfl) ?_
  refine t_nil ?_
  refine c_ret ?_
  refine r_one rfl rfl ?_
  exact ⟨rfl, ((hS.pick (A := rowA 3 1 A9 (layF []).length c9 ((layF []).map (Value.int .i64))) (by repeat first | exact .here _ _ | assumption | apply Pick.there)).drop.pick (A := rdsA ps) (by repeat first | exact .here _ _ | assumption | apply Pick.there))⟩
set_option maxRecDepth 100000 in
theorem found_9 {w : World} {R : List Asn} {ps : List RdP} {t : Nat} {u : Value} {c l : Int} (hE : EtOk W) (hS : St W w (rdsA ps :: R)) (hv : ErrL ps (.iface t u) [(9, c)]) (hc : ¬ c = 0)  : Calls Tryd.prog 24 #[.iface t u, .int .i64 c, .int .i64 9] w fun e w' => e = .returned (.bool true) ∧ St W w' (rdsA ps :: R) := by
  have hll : (layF [(9, c)]).length = 1 := rfl
  refine calls_of_wpE (args := [_, _, _]) Tryd.func24 rfl rfl rfl ?_
  refine c_seq ?_
  refine c_region ?_
  refine t_q (q_assign) ?_
  refine t_nil ?_
  refine c_seq ?_
  refine c_region ?_
  refine t_q (q_mv (.iface _ _) rfl) ?_
  refine t_call Tryd.call14 (layers_calls hE (hS.pick (A := rdsA ps) (by repeat first | exact .here _ _ | assumption | apply Pick.there)) hv (by simp)) rfl ?_
  rintro e w ⟨A9, c9, rfl, hS⟩
  refine ⟨_, rfl, ?_⟩
  refine t_q (q_as (.slice _ _ _) rfl) ?_
  refine t_nil ?_
  refine c_seq ?_
  refine c_seq ?_
  refine c_region ?_
  refine t_q (q_mv (.int _ _) rfl) ?_
  refine t_q (q_cast (v' := .bool false) (q_eql rfl rfl) (congrArg Value.bool (decide_eq_false hc))) ?_
  refine t_nil ?_
  refine c_cond_f rfl rfl ?_
  refine c_skip ?_
  refine c_seq ?_
  refine c_seq ?_
  refine c_region ?_
  refine t_q (q_mv (.iface _ _) rfl) ?_
  refine t_call Tryd.call15 (code_calls hE (hS.pick (A := rdsA ps) (by repeat first | exact .here _ _ | assumption | apply Pick.there)) hv (by simp)) rfl ?_
  rintro e w ⟨rfl, hS⟩
  refine ⟨_, rfl, ?_⟩
  refine t_q (q_mv (.int _ _) rfl) ?_
  refine t_q (q_cast (v' := .bool false) (q_neq rfl rfl) (congrArg Value.bool (decide_eq_false (not_not_intro rfl)))) ?_
  refine t_q (q_mv (.bool _) rfl) ?_
  refine t_yes rfl rfl rfl ?_
  refine t_q (q_mv (.slice _ _ _) rfl) ?_
  refine t_yes rfl rfl rfl ?_
  refine t_q (q_len_slice Tryd.runUnderlying22 rfl) ?_
  refine t_yes rfl rfl rfl ?_
  refine t_q (q_cast (v' := .bool false) (q_eql rfl rfl) (by rfl)) ?_
  refine t_q (q_pick_f rfl rfl) ?_
  refine t_q (q_mv (.bool _) rfl) ?_
  refine t_yes rfl rfl rfl ?_
  refine t_q (q_mv (.slice _ _ _) rfl) ?_
  refine t_yes rfl rfl rfl ?_
  first | refine t_index_nat Tryd.runUnderlying22 Tryd.sizeOf3 ((hS.rowInts (ns := layF [(9, c)]) (A := A9) (c := c9) (by repeat first | exact .here _ _ | assumption | apply Pick.there) rfl)) rfl rfl (by show (0 : Int) ≤ 0 ∧ (0 : Int) < 1; decide) (fun ad6 hl6 hx6 => ?_) | refine t_index Tryd.runUnderlying22 Tryd.sizeOf3 ((hS.rowInts (ns := layF [(9, c)]) (A := A9) (c := c9) (by repeat first | exact .here _ _ | assumption | apply Pick.there) rfl)) rfl rfl (by show (0 : Int) ≤ 0 ∧ (0 : Int) < 1; decide) (fun ad6 hl6 hx6 => ?_)
  refine t_yes rfl rfl rfl ?_
  refine t_q (q_load1 Tryd.isAgg3 rfl (hx6 0 _ rfl)) ?_
  refine t_yes rfl rfl rfl ?_
  refine t_q (q_cast (v' := .bool false) (q_neq rfl rfl) (by rfl)) ?_
  refine t_q (q_pick_f rfl rfl) ?_
  refine t_q (q_mv (.bool _) rfl) ?_
  refine t_yes rfl rfl rfl ?_
  refine t_q (q_mv (.slice _ _ _) rfl) ?_
  refine t_yes rfl rfl rfl ?_
  refine t_q (q_mv (.slice _ _ _) rfl) ?_
  refine t_yes rfl rfl rfl ?_
  refine t_q (q_len_slice Tryd.runUnderlying22 rfl) ?_
  refine t_yes rfl rfl rfl ?_
  refine t_q (q_cast (v' := .int .i64 0) (q_sub_i64 rfl rfl (by omega)) (by rfl)) ?_
  refine t_yes rfl rfl rfl ?_
  first | refine t_index_nat Tryd.runUnderlying22 Tryd.sizeOf3 ((hS.rowInts (ns := layF [(9, c)]) (A := A9) (c := c9) (by repeat first | exact .here _ _ | assumption | apply Pick.there) rfl)) rfl rfl (by show (0 : Int) ≤ 0 ∧ (0 : Int) < 1; decide) (fun ad8 hl8 hx8 => ?_) | refine t_index Tryd.runUnderlying22 Tryd.sizeOf3 ((hS.rowInts (ns := layF [(9, c)]) (A := A9) (c := c9) (by repeat first | exact .here _ _ | assumption | apply Pick.there) rfl)) rfl rfl (by show (0 : Int) ≤ 0 ∧ (0 : Int) < 1; decide) (fun ad8 hl8 hx8 => ?_)
  refine t_yes rfl rfl rfl ?_
  refine t_q (q_load1 Tryd.isAgg3 rfl (hx8 0 _ rfl)) ?_
  refine t_yes rfl rfl rfl ?_
  refine t_q (q_mv (.int _ _) rfl) ?_
  refine t_yes rfl rfl rfl ?_
  refine t_q (q_cast (v' := .bool false) (q_neq rfl rfl) (congrArg Value.bool (decide_eq_false (not_not_intro rfl)))) ?_
  refine t_q (q_pick_f rfl rfl) ?_
  refine t_nil ?_
  refine c_cond_f rfl rfl ?_
  refine c_skip ?_
  refine c_seq ?_
  refine c_region ?_
  refine t_q (q_mv (.slice _ _ _) rfl) ?_
  refine t_q (q_len_slice Tryd.runUnderlying22 rfl) ?_
  refine t_q (q_cast (v' := .bool true) (q_eql rfl rfl) (by rfl)) ?_
  refine t_q (q_mv (.bool _) rfl) ?_
  refine t_yes rfl rfl rfl ?_
  refine t_q (q_mv (.int _ _) rfl) ?_
  refine t_yes rfl rfl rfl ?_
  refine t_q (q_cast (v' := .bool true) (q_eql rfl rfl) (by rfl)) ?_
  refine t_q (q_pick_t rfl rfl) ?_
  refine t_q (q_mv (.bool _) rfl) ?_
  refine t_no rfl rfl (by decide) ?_
  refine t_no rfl rfl (by decide) ?_
  refine t_no rfl rfl (by decide) ?_
  refine t_no rfl rfl (by decide) ?_
  refine t_nu rfl rfl ?_
  refine t_nu rfl rfl ?_
  refine t_no rfl rfl (by decide) ?_
  refine t_q (q_pick_t rfl rfl) ?_
  refine t_q (q_as (.bool _) rfl) ?_
  refine t_nil ?_
  refine c_ret ?_
  refine r_one rfl rfl ?_
  exact ⟨rfl, ((hS.pick (A := rowA 3 1 A9 (layF [(9, c)]).length c9 ((layF [(9, c)]).map (Value.int .i64))) (by repeat first | exact .here _ _ | assumption | apply Pick.there)).drop.pick (A := rdsA ps) (by repeat first | exact .here _ _ | assumption | apply Pick.there))⟩
set_option maxRecDepth 100000 in
theorem found_o {w : World} {R : List Asn} {ps : List RdP} {t : Nat} {u : Value} {c l : Int} (hE : EtOk W) (hS : St W w (rdsA ps :: R)) (hv : ErrL ps (.iface t u) [(9, 0), (l, c)]) (hc : ¬ c = 0) (hl : l ≠ 9) : Calls Tryd.prog 24 #[.iface t u, .int .i64 c, .int .i64 l] w fun e w' => e = .returned (.bool true) ∧ St W w' (rdsA ps :: R) := by
  have hll : (layF [(9, 0), (l, c)]).length = 2 := rfl
  refine calls_of_wpE (args := [_, _, _]) Tryd.func24 rfl rfl rfl ?_
  refine c_seq ?_
  refine c_region ?_
  refine t_q (q_assign) ?_
  refine t_nil ?_
  refine c_seq ?_
  refine c_region ?_
  refine t_q (q_mv (.iface _ _) rfl) ?_
  refine t_call Tryd.call14 (layers_calls hE (hS.pick (A := rdsA ps) (by repeat first | exact .here _ _ | assumption | apply Pick.there)) hv (by simp)) rfl ?_
  rintro e w ⟨A9, c9, rfl, hS⟩
  refine ⟨_, rfl, ?_⟩
  refine t_q (q_as (.slice _ _ _) rfl) ?_
  refine t_nil ?_
  refine c_seq ?_
  refine c_seq ?_
  refine c_region ?_
  refine t_q (q_mv (.int _ _) rfl) ?_
  refine t_q (q_cast (v' := .bool false) (q_eql rfl rfl) (congrArg Value.bool (decide_eq_false hc))) ?_
  refine t_nil ?_
  refine c_cond_f rfl rfl ?_
  refine c_skip ?_
  refine c_seq ?_
  refine c_seq ?_
  refine c_region ?_
  refine t_q (q_mv (.iface _ _) rfl) ?_
  refine t_call Tryd.call15 (code_calls hE (hS.pick (A := rdsA ps) (by repeat first | exact .here _ _ | assumption | apply Pick.there)) hv (by simp)) rfl ?_
  rintro e w ⟨rfl, hS⟩
  refine ⟨_, rfl, ?_⟩
  refine t_q (q_mv (.int _ _) rfl) ?_
  refine t_q (q_cast (v' := .bool false) (q_neq rfl rfl) (congrArg Value.bool (decide_eq_false (not_not_intro rfl)))) ?_
  refine t_q (q_mv (.bool _) rfl) ?_
  refine t_yes rfl rfl rfl ?_
  refine t_q (q_mv (.slice _ _ _) rfl) ?_
  refine t_yes rfl rfl rfl ?_
  refine t_q (q_len_slice Tryd.runUnderlying22 rfl) ?_
  refine t_yes rfl rfl rfl ?_
  refine t_q (q_cast (v' := .bool false) (q_eql rfl rfl) (by rfl)) ?_
  refine t_q (q_pick_f rfl rfl) ?_
  refine t_q (q_mv (.bool _) rfl) ?_
  refine t_yes rfl rfl rfl ?_
  refine t_q (q_mv (.slice _ _ _) rfl) ?_
  refine t_yes rfl rfl rfl ?_
  first | refine t_index_nat Tryd.runUnderlying22 Tryd.sizeOf3 ((hS.rowInts (ns := layF [(9, 0), (l, c)]) (A := A9) (c := c9) (by repeat first | exact .here _ _ | assumption | apply Pick.there) rfl)) rfl rfl (by show (0 : Int) ≤ 0 ∧ (0 : Int) < 2; decide) (fun ad6 hl6 hx6 => ?_) | refine t_index Tryd.runUnderlying22 Tryd.sizeOf3 ((hS.rowInts (ns := layF [(9, 0), (l, c)]) (A := A9) (c := c9) (by repeat first | exact .here _ _ | assumption | apply Pick.there) rfl)) rfl rfl (by show (0 : Int) ≤ 0 ∧ (0 : Int) < 2; decide) (fun ad6 hl6 hx6 => ?_)
  refine t_yes rfl rfl rfl ?_
  refine t_q (q_load1 Tryd.isAgg3 rfl (hx6 0 _ rfl)) ?_
  refine t_yes rfl rfl rfl ?_
  refine t_q (q_cast (v' := .bool false) (q_neq rfl rfl) (by rfl)) ?_
  refine t_q (q_pick_f rfl rfl) ?_
  refine t_q (q_mv (.bool _) rfl) ?_
  refine t_yes rfl rfl rfl ?_
  refine t_q (q_mv (.slice _ _ _) rfl) ?_
  refine t_yes rfl rfl rfl ?_
  refine t_q (q_mv (.slice _ _ _) rfl) ?_
  refine t_yes rfl rfl rfl ?_
  refine t_q (q_len_slice Tryd.runUnderlying22 rfl) ?_
  refine t_yes rfl rfl rfl ?_
  refine t_q (q_cast (v' := .int .i64 1) (q_sub_i64 rfl rfl (by omega)) (by rfl)) ?_
  refine t_yes rfl rfl rfl ?_
  first | refine t_index_nat Tryd.runUnderlying22 Tryd.sizeOf3 ((hS.rowInts (ns := layF [(9, 0), (l, c)]) (A := A9) (c := c9) (by repeat first | exact .here _ _ | assumption | apply Pick.there) rfl)) rfl rfl (by show (0 : Int) ≤ 1 ∧ (1 : Int) < 2; decide) (fun ad8 hl8 hx8 => ?_) | refine t_index Tryd.runUnderlying22 Tryd.sizeOf3 ((hS.rowInts (ns := layF [(9, 0), (l, c)]) (A := A9) (c := c9) (by repeat first | exact .here _ _ | assumption | apply Pick.there) rfl)) rfl rfl (by show (0 : Int) ≤ 1 ∧ (1 : Int) < 2; decide) (fun ad8 hl8 hx8 => ?_)
  refine t_yes rfl rfl rfl ?_
  refine t_q (q_load1 Tryd.isAgg3 rfl (hx8 0 _ rfl)) ?_
  refine t_yes rfl rfl rfl ?_
  refine t_q (q_mv (.int _ _) rfl) ?_
  refine t_yes rfl rfl rfl ?_
  refine t_q (q_cast (v' := .bool false) (q_neq rfl rfl) (congrArg Value.bool (decide_eq_false (not_not_intro rfl)))) ?_
  refine t_q (q_pick_f rfl rfl) ?_
  refine t_nil ?_
  refine c_cond_f rfl rfl ?_
  refine c_skip ?_
  refine c_seq ?_
  refine c_region ?_
  refine t_q (q_mv (.slice _ _ _) rfl) ?_
  refine t_q (q_len_slice Tryd.runUnderlying22 rfl) ?_
  refine t_q (q_cast (v' := .bool false) (q_eql rfl rfl) (by rfl)) ?_
  refine t_q (q_mv (.bool _) rfl) ?_
  refine t_no rfl rfl (by decide) ?_
  refine t_no rfl rfl (by decide) ?_
  refine t_q (q_pick_f rfl rfl) ?_
  refine t_q (q_mv (.bool _) rfl) ?_
  refine t_yes rfl rfl rfl ?_
  refine t_q (q_mv (.slice _ _ _) rfl) ?_
  refine t_yes rfl rfl rfl ?_
  refine t_q (q_len_slice Tryd.runUnderlying22 rfl) ?_
  refine t_yes rfl rfl rfl ?_
  refine t_q (q_cast (v' := .bool true) (q_eql rfl rfl) (by rfl)) ?_
  refine t_yes rfl rfl rfl ?_
  refine t_q (q_mv (.bool _) rfl) ?_
  refine t_yes rfl rfl rfl ?_
  refine t_q (q_mv (.int _ _) rfl) ?_
  refine t_yes rfl rfl rfl ?_
  refine t_q (q_cast (v' := .bool true) (q_neq rfl rfl) (congrArg Value.bool (decide_eq_true hl))) ?_
  refine t_yes rfl rfl rfl ?_
  refine t_q (q_pick_t rfl rfl) ?_
  refine t_q (q_pick_f rfl rfl) ?_
  refine t_q (q_as (.bool _) rfl) ?_
  refine t_nil ?_
  refine c_ret ?_
  refine r_one rfl rfl ?_
  exact ⟨rfl, ((hS.pick (A := rowA 3 1 A9 (layF [(9, 0), (l, c)]).length c9 ((layF [(9, 0), (l, c)]).map (Value.int .i64))) (by repeat first | exact .here _ _ | assumption | apply Pick.there)).drop.pick (A := rdsA ps) (by repeat first | exact .here _ _ | assumption | apply Pick.there))⟩
theorem found_calls {w : World} {R : List Asn} {ps : List RdP} {v : Value} {p : Int × Int} (hE : EtOk W) (hS : St W w (rdsA ps :: R)) (hv : ErrL ps v (errOf p)) : Calls Tryd.prog 24 #[v, .int .i64 p.1, .int .i64 p.2] w fun e w' => e = .returned (.bool true) ∧ St W w' (rdsA ps :: R) := by
  obtain ⟨c, l⟩ := p
  unfold errOf at hv
  by_cases hc : c = 0
  · rw [if_pos hc] at hv
    obtain rfl : v = .nilIface := hv
    subst hc
    exact found_0 hE hS
  · rw [if_neg hc] at hv
    by_cases hl : l = 9
    · rw [if_pos hl] at hv
      subst hl
      have hv2 := hv
      obtain ⟨g, u, rfl, _, _⟩ := hv2
      exact found_9 (l := 9) hE hS hv hc
    · rw [if_neg hl] at hv
      have hv2 := hv
      obtain ⟨g, u, rfl, _, _⟩ := hv2
      exact found_o hE hS hv hc hl
end Go.Proofs.YtcgagmojgjbfpaaDoor
