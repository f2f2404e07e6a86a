/- Rules: Fits with its error, where nothing was traded yet; the example. -/
import Derived.Test.YtcgagmojgjbfpaaDoorFc
namespace Go.Proofs.YtcgagmojgjbfpaaDoor
open Go Go.RowKit Go.Lib
variable {W : World}
/-- the chain that a number and the layer that found it stand for -/
def errOf (p : Int × Int) : List (Int × Int) := if p.1 = 0 then [] else if p.2 = 9 then [(9, p.1)] else [(9, 0), (p.2, p.1)]
theorem own_eq (c : Int) : newE 9 c = errOf (c, 9) := by unfold newE errOf; simp
theorem of_eq (c : Int) {l : Int} (hl : l ≠ 9) : wrE 9 (newE l c) = errOf (c, l) := by
  unfold newE errOf wrE
  by_cases h : c = 0 <;> simp [h, hl]
def lotE (lot q : Int) : Int := if 1 ≤ q ∧ q ≤ 1099511627776 ∧ q % lot = 0 then 0 else 41
def band0E (p : Int) : Int := if 1 ≤ p ∧ p ≤ 1099511627776 then 0 else 2
def fit0 (x : RuV) (side kind price qty : Int) : Int × Int :=
  if goodR x = false then (43, 9) else if ¬ ((1 ≤ side ∧ side ≤ 2) ∧ (1 ≤ kind ∧ kind ≤ 5)) then (2, 9) else if kind ≠ 2 ∧ onT x.ticks.l price = false then (40, 6)
  else if lotE x.lot qty ≠ 0 then (lotE x.lot qty, 7) else if kind ≠ 2 then (band0E price, 7) else (0, 0)
def bas9 (A : Option Addr) (c : Nat) (B : Option Addr) (d : Nat) : RuV := ⟨1, ⟨A, c, [⟨0, 5⟩]⟩, 10, 0, ⟨B, d, [⟨0, 100, 200⟩]⟩, 2, 1, 2, 1⟩
theorem bas9_t : GoodT [⟨0, 5⟩] := ⟨by show (1 : Nat) ≤ 1; decide, by show (1 : Nat) ≤ 8; decide, rfl, fun i hi => by
  have h0 : i = 0 := by have : i < 1 := hi; omega
  subst h0
  exact ⟨by show (1 : Int) ≤ 5; decide, by show (5 : Int) ≤ _; decide, by show (0 : Int) ≤ _; decide, fun h => absurd h (by decide)⟩⟩
theorem bas9_f : GoodF [⟨0, 100, 200⟩] := ⟨by show (1 : Nat) ≤ 1; decide, by show (1 : Nat) ≤ 8; decide, rfl, fun i hi => by
  have h0 : i = 0 := by have : i < 1 := hi; omega
  subst h0
  exact ⟨by show (0 : Int) ≤ _; decide, by show (0 : Int) ≤ 100 ∧ (100 : Int) ≤ _; decide, by show (0 : Int) ≤ 200 ∧ (200 : Int) ≤ _; decide, fun h => absurd h (by decide)⟩⟩
theorem bas9_good {A : Option Addr} {c : Nat} {B : Option Addr} {d : Nat} : goodR (bas9 A c B d) = true := by
  rw [goodR_iff]
  exact ⟨by show (1 : Int) ≤ 1 ∧ (1 : Int) ≤ 32; decide, bas9_t, by show (1 : Int) ≤ 10 ∧ (10 : Int) ≤ _ ∧ (0 : Int) ≤ 0 ∧ (0 : Int) ≤ _; decide, bas9_f, by show ((1 : Int) ≤ 2 ∧ (2 : Int) ≤ 3) ∧ ((1 : Int) ≤ 1 ∧ (1 : Int) ≤ 2) ∧ ((1 : Int) ≤ 2 ∧ (2 : Int) ≤ 4) ∧ ((1 : Int) ≤ 1 ∧ (1 : Int) ≤ 2); decide⟩
theorem bas9_gd {w : World} {A : Option Addr} {c : Nat} {B : Option Addr} {d : Nat} (h1 : RdTk w A [⟨0, 5⟩]) (h2 : RdTr w B [⟨0, 100, 200⟩]) : (bas9 A c B d).Gd w :=
  ⟨by show (-9223372036854775808 : Int) ≤ 1 ∧ (1 : Int) ≤ _; decide, by show (-9223372036854775808 : Int) ≤ 10 ∧ (10 : Int) ≤ _; decide, by show (-9223372036854775808 : Int) ≤ 0 ∧ (0 : Int) ≤ _; decide, by show (-9223372036854775808 : Int) ≤ 2 ∧ (2 : Int) ≤ _; decide, by show (-9223372036854775808 : Int) ≤ 1 ∧ (1 : Int) ≤ _; decide, by show (-9223372036854775808 : Int) ≤ 2 ∧ (2 : Int) ≤ _; decide, by show (-9223372036854775808 : Int) ≤ 1 ∧ (1 : Int) ≤ _; decide, h1, (fun e he => by rw [List.mem_singleton.1 he]; exact ⟨by decide, by decide⟩), by show (1 : Nat) ≤ _; decide, h2, (fun e he => by rw [List.mem_singleton.1 he]; exact ⟨by decide, by decide, by decide⟩), by show (1 : Nat) ≤ _; decide⟩
theorem fit_12 {A : Option Addr} {c : Nat} {B : Option Addr} {d : Nat} : fit0 (bas9 A c B d) 1 1 12 10 = (40, 6) := by
  have h : onT [⟨0, 5⟩] 12 = false := by
    unfold onT
    rw [decide_eq_false (show ¬ floorT [⟨0, 5⟩] 12 = 12 from by decide), Bool.and_false]
  unfold fit0
  rw [if_neg (by rw [bas9_good]; decide), if_neg (by decide), if_pos ⟨by decide, h⟩]
theorem on_15 : onT [⟨0, 5⟩] 15 = true := by
  unfold onT mayT
  rw [decide_eq_true (show floorT [⟨0, 5⟩] 15 = 15 from by decide), decide_eq_true (show GoodT [⟨0, 5⟩] ∧ (1 : Int) ≤ 15 ∧ (15 : Int) ≤ 1099511627776 from ⟨bas9_t, by decide, by decide⟩)]
  rfl
theorem fit_15 {A : Option Addr} {c : Nat} {B : Option Addr} {d : Nat} : fit0 (bas9 A c B d) 1 1 15 15 = (41, 7) := by
  unfold fit0
  rw [if_neg (by rw [bas9_good]; decide), if_neg (by decide), if_neg (fun h => by have h2 := h.2; rw [show (bas9 A c B d).ticks.l = [⟨0, 5⟩] from rfl, on_15] at h2; cases h2), if_pos (by show lotE 10 15 ≠ 0; decide)]
  exact congrArg (fun n : Int => (n, (7 : Int))) (show lotE 10 15 = 41 from by decide)
theorem fit_20 {A : Option Addr} {c : Nat} {B : Option Addr} {d : Nat} : fit0 (bas9 A c B d) 2 1 15 20 = (0, 7) := by
  unfold fit0
  rw [if_neg (by rw [bas9_good]; decide), if_neg (by decide), if_neg (fun h => by have h2 := h.2; rw [show (bas9 A c B d).ticks.l = [⟨0, 5⟩] from rfl, on_15] at h2; cases h2), if_neg (by show ¬ lotE 10 20 ≠ 0; decide), if_pos (by decide)]
  rfl
attribute [local irreducible] blkA rowA rdsA
set_option maxRecDepth 100000 in
theorem lot_calls {lot q : Int} (hl : 1 ≤ lot ∧ lot ≤ 1099511627776) (hq : -9223372036854775808 ≤ q ∧ q ≤ 9223372036854775807) : Calls Tryd.prog 59 #[.int .i64 lot, .int .i64 q] W fun e w' => e = .returned (.int .i64 (lotE lot q)) ∧ St W w' [] := by
  have hS := St.init W
  refine calls_of_wpE (args := [_, _]) Tryd.func59 rfl rfl rfl ?_
  refine c_seq ?_
  refine c_region ?_
  refine t_q (q_assign) ?_
  refine t_nil ?_
  refine c_seq ?_
  refine c_block ?_
  refine c_seq ?_
  refine c_region ?_
  refine t_q (q_mv (.int _ _) rfl) ?_
  refine t_q (q_lss rfl rfl) ?_
  refine t_q (q_mv (.bool _) rfl) ?_
  refine t_case 8 rfl ?_ ?_
  · intro hg2
    have hg2d := of_decide_eq_true hg2
    refine t_no rfl rfl (by rw [hg2]; decide) ?_
    refine t_no rfl rfl (by rw [hg2]; decide) ?_
    refine t_q (q_pick_t rfl hg2) ?_
    refine t_q (q_as (.bool _) rfl) ?_
    refine t_nil ?_
    refine c_cond_t rfl rfl ?_
    refine c_seq ?_
    refine c_region ?_
    refine t_q (q_assign) ?_
    refine t_nil ?_
    refine c_ret ?_
    refine r_one rfl rfl ?_
    refine ⟨congrArg (fun n => Ending.returned (.int .i64 n)) ?_, hS.nil⟩
    unfold lotE
    first
      | (exfalso; omega)
      | (rw [if_pos (by omega)])
      | (rw [if_neg (by omega)])
  · intro hg2
    have hg2d := of_decide_eq_false hg2
    refine t_yes rfl rfl hg2 ?_
    refine t_q (q_mv (.int _ _) rfl) ?_
    refine t_yes rfl rfl hg2 ?_
    refine t_q (q_gtr rfl rfl) ?_
    refine t_q (q_pick_f rfl hg2) ?_
    refine t_q (q_as (.bool _) rfl) ?_
    refine t_nil ?_
    refine c_cond rfl ?_ ?_
    · intro hc4
      have hc4d := of_decide_eq_true hc4
      refine c_seq ?_
      refine c_region ?_
      refine t_q (q_assign) ?_
      refine t_nil ?_
      refine c_ret ?_
      refine r_one rfl rfl ?_
      refine ⟨congrArg (fun n => Ending.returned (.int .i64 n)) ?_, hS.nil⟩
      unfold lotE
      first
        | (exfalso; omega)
        | (rw [if_pos (by omega)])
        | (rw [if_neg (by omega)])
    · intro hc4
      have hc4d := of_decide_eq_false hc4
      refine c_seq ?_
      refine c_region ?_
      refine t_q (q_mv (.int _ _) rfl) ?_
      refine t_q (q_lss rfl rfl) ?_
      refine t_q (q_mv (.bool _) rfl) ?_
      refine t_case 15 rfl ?_ ?_
      · intro hg6
        have hg6d := of_decide_eq_true hg6
        refine t_no rfl rfl (by rw [hg6]; decide) ?_
        refine t_no rfl rfl (by rw [hg6]; decide) ?_
        refine t_q (q_pick_t rfl hg6) ?_
        refine t_q (q_mv (.bool _) rfl) ?_
        refine t_no rfl rfl (by decide) ?_
        refine t_no rfl rfl (by decide) ?_
        refine t_no rfl rfl (by decide) ?_
        refine t_no rfl rfl (by decide) ?_
        refine t_q (q_pick_t rfl rfl) ?_
        refine t_q (q_as (.bool _) rfl) ?_
        refine t_nil ?_
        refine c_cond_t rfl rfl ?_
        refine c_seq ?_
        refine c_region ?_
        refine t_q (q_assign) ?_
        refine t_nil ?_
        refine c_ret ?_
        refine r_one rfl rfl ?_
        refine ⟨congrArg (fun n => Ending.returned (.int .i64 n)) ?_, hS.nil⟩
        unfold lotE
        first
          | (exfalso; omega)
          | (rw [if_pos (by omega)])
          | (rw [if_neg (by omega)])
      · intro hg6
        have hg6d := of_decide_eq_false hg6
        refine t_yes rfl rfl hg6 ?_
        refine t_q (q_mv (.int _ _) rfl) ?_
        refine t_yes rfl rfl hg6 ?_
        refine t_q (q_gtr rfl rfl) ?_
        refine t_q (q_pick_f rfl hg6) ?_
        refine t_q (q_mv (.bool _) rfl) ?_
        refine t_case 19 rfl ?_ ?_
        · intro hg8
          have hg8d := of_decide_eq_true hg8
          refine t_no rfl rfl (by rw [hg8]; decide) ?_
          refine t_no rfl rfl (by rw [hg8]; decide) ?_
          refine t_no rfl rfl (by rw [hg8]; decide) ?_
          refine t_no rfl rfl (by rw [hg8]; decide) ?_
          refine t_q (q_pick_t rfl hg8) ?_
          refine t_q (q_as (.bool _) rfl) ?_
          refine t_nil ?_
          refine c_cond_t rfl rfl ?_
          refine c_seq ?_
          refine c_region ?_
          refine t_q (q_assign) ?_
          refine t_nil ?_
          refine c_ret ?_
          refine r_one rfl rfl ?_
          refine ⟨congrArg (fun n => Ending.returned (.int .i64 n)) ?_, hS.nil⟩
          unfold lotE
          first
            | (exfalso; omega)
            | (rw [if_pos (by omega)])
            | (rw [if_neg (by omega)])
        · intro hg8
          have hg8d := of_decide_eq_false hg8
          refine t_yes rfl rfl hg8 ?_
          refine t_q (q_mv (.int _ _) rfl) ?_
          refine t_yes rfl rfl hg8 ?_
          refine t_q (q_mv (.int _ _) rfl) ?_
          refine t_yes rfl rfl hg8 ?_
          refine t_q (q_rem_n rfl rfl (by omega) (by omega)) ?_
          refine t_yes rfl rfl hg8 ?_
          refine t_q (q_neq rfl rfl) ?_
          refine t_q (q_pick_f rfl hg8) ?_
          refine t_q (q_as (.bool _) rfl) ?_
          refine t_nil ?_
          refine c_cond rfl ?_ ?_
          · intro hc10
            have hc10d := of_decide_eq_true hc10
            refine c_seq ?_
            refine c_region ?_
            refine t_q (q_assign) ?_
            refine t_nil ?_
            refine c_ret ?_
            refine r_one rfl rfl ?_
            refine ⟨congrArg (fun n => Ending.returned (.int .i64 n)) ?_, hS.nil⟩
            unfold lotE
            first
              | (exfalso; omega)
              | (rw [if_pos (by omega)])
              | (rw [if_neg (by omega)])
          · intro hc10
            have hc10d := of_decide_eq_false hc10
            refine c_skip ?_
            refine c_seq ?_
            refine c_region ?_
            refine t_q (q_assign) ?_
            refine t_nil ?_
            refine c_ret ?_
            refine r_one rfl rfl ?_
            refine ⟨congrArg (fun n => Ending.returned (.int .i64 n)) ?_, hS.nil⟩
            unfold lotE
            first
              | (exfalso; omega)
              | (rw [if_pos (by omega)])
              | (rw [if_neg (by omega)])
set_option maxRecDepth 100000 in
theorem lmay_calls {a b : Int} (ha : a = 0) (hb : 0 ≤ b ∧ b ≤ 1000000) : Calls Tryd.prog 87 #[.int .i64 a, .int .i64 b] W fun e w' => e = .returned (.bool true) ∧ St W w' [] := by
  have hS := St.init W
  refine calls_of_wpE (args := [_, _]) Tryd.func87 rfl rfl rfl ?_
  refine c_seq ?_
  refine c_region ?_
  refine t_q (q_assign) ?_
  refine t_nil ?_
  refine c_seq ?_
  refine c_region ?_
  refine t_q (q_mv (.int _ _) rfl) ?_
  refine t_q (q_mv (.int _ _) rfl) ?_
  refine t_q (q_min rfl rfl) ?_
  refine t_q (q_geq rfl rfl) ?_
  refine t_q (q_mv (.bool _) rfl) ?_
  refine t_case 9 rfl ?_ ?_
  · intro hg2
    have hg2d := of_decide_eq_true hg2
    refine t_yes rfl rfl hg2 ?_
    refine t_q (q_mv (.int _ _) rfl) ?_
    refine t_yes rfl rfl hg2 ?_
    refine t_q (q_leq rfl rfl) ?_
    refine t_q (q_pick_t rfl hg2) ?_
    refine t_q (q_mv (.bool _) rfl) ?_
    refine t_case 13 rfl ?_ ?_
    · intro hg4
      have hg4d := of_decide_eq_true hg4
      refine t_yes rfl rfl hg4 ?_
      refine t_q (q_mv (.int _ _) rfl) ?_
      refine t_yes rfl rfl hg4 ?_
      refine t_q (q_leq rfl rfl) ?_
      refine t_q (q_pick_t rfl hg4) ?_
      refine t_q (q_as (.bool _) rfl) ?_
      refine t_nil ?_
      refine c_ret ?_
      refine r_one rfl rfl ?_
      have hN := hS.nil
      clear hS
      refine ⟨congrArg (fun b => Ending.returned (.bool b)) ?_, hN⟩
      first
        | rfl
        | (apply decide_eq_true; omega)
        | (exfalso; omega)
    · intro hg4
      have hg4d := of_decide_eq_false hg4
      refine t_no rfl rfl (by rw [hg4]; decide) ?_
      refine t_no rfl rfl (by rw [hg4]; decide) ?_
      refine t_q (q_pick_f rfl hg4) ?_
      refine t_q (q_as (.bool _) rfl) ?_
      refine t_nil ?_
      refine c_ret ?_
      refine r_one rfl rfl ?_
      have hN := hS.nil
      clear hS
      refine ⟨congrArg (fun b => Ending.returned (.bool b)) ?_, hN⟩
      first
        | rfl
        | (apply decide_eq_true; omega)
        | (exfalso; omega)
  · intro hg2
    have hg2d := of_decide_eq_false hg2
    refine t_no rfl rfl (by rw [hg2]; decide) ?_
    refine t_no rfl rfl (by rw [hg2]; decide) ?_
    refine t_q (q_pick_f rfl hg2) ?_
    refine t_q (q_mv (.bool _) rfl) ?_
    refine t_no rfl rfl (by decide) ?_
    refine t_no rfl rfl (by decide) ?_
    refine t_q (q_pick_f rfl rfl) ?_
    refine t_q (q_as (.bool _) rfl) ?_
    refine t_nil ?_
    refine c_ret ?_
    refine r_one rfl rfl ?_
    have hN := hS.nil
    clear hS
    refine ⟨congrArg (fun b => Ending.returned (.bool b)) ?_, hN⟩
    first
      | rfl
      | (apply decide_eq_true; omega)
      | (exfalso; omega)
set_option maxRecDepth 100000 in
theorem band0_calls {p b : Int} (hb : 0 ≤ b ∧ b ≤ 1000000) : Calls Tryd.prog 60 #[.int .i64 0, .int .i64 p, .int .i64 b] W fun e w' => e = .returned (.int .i64 (band0E p)) ∧ St W w' [] := by
  have hS := St.init W
  refine calls_of_wpE (args := [_, _, _]) Tryd.func60 rfl rfl rfl ?_
  refine c_seq ?_
  refine c_region ?_
  refine t_box (v := (.int _ _)) rfl rfl hS (fun g3 w hS => ?_)
  replace hS := hS.recast (show _ = blkA g3 2 [.int .i64 0] from rfl)
  refine t_box (v := (.int _ _)) rfl rfl hS (fun g5 w hS => ?_)
  replace hS := hS.recast (show _ = blkA g5 2 [.int .i64 b] from rfl)
  refine t_q (q_assign) ?_
  refine t_nil ?_
  refine c_seq ?_
  refine c_block ?_
  refine c_seq ?_
  refine c_region ?_
  refine t_q (q_load1 Tryd.isAgg2 rfl (hS.cell (by repeat first | exact .here _ _ | assumption | apply Pick.there) rfl)) ?_
  refine t_q (q_load1 Tryd.isAgg2 rfl (hS.cell (by repeat first | exact .here _ _ | assumption | apply Pick.there) rfl)) ?_
  refine t_call Tryd.call87 (lmay_calls rfl hb) rfl ?_
  rintro e w ⟨rfl, hT⟩
  refine ⟨_, rfl, ?_⟩
  replace hS := hS.after hT
  refine t_q (q_cast (v' := .bool false) (q_not rfl) (by rfl)) ?_
  refine t_q (q_mv (.bool _) rfl) ?_
  refine t_yes rfl rfl rfl ?_
  refine t_q (q_mv (.int _ _) rfl) ?_
  refine t_yes rfl rfl rfl ?_
  refine t_q (q_lss rfl rfl) ?_
  refine t_q (q_pick_f rfl rfl) ?_
  refine t_q (q_mv (.bool _) rfl) ?_
  refine t_case 17 rfl ?_ ?_
  · intro hg3
    have hg3d := of_decide_eq_true hg3
    refine t_no rfl rfl (by rw [hg3]; decide) ?_
    refine t_no rfl rfl (by rw [hg3]; decide) ?_
    refine t_q (q_pick_t rfl hg3) ?_
    refine t_q (q_as (.bool _) rfl) ?_
    refine t_nil ?_
    refine c_cond_t rfl rfl ?_
    refine c_seq ?_
    refine c_region ?_
    refine t_q (q_assign) ?_
    refine t_nil ?_
    refine c_ret ?_
    refine r_one rfl rfl ?_
    refine ⟨congrArg (fun n => Ending.returned (.int .i64 n)) ?_, hS.nil⟩
    unfold band0E
    first
      | (exfalso; omega)
      | (rw [if_pos (by omega)])
      | (rw [if_neg (by omega)])
  · intro hg3
    have hg3d := of_decide_eq_false hg3
    refine t_yes rfl rfl hg3 ?_
    refine t_q (q_mv (.int _ _) rfl) ?_
    refine t_yes rfl rfl hg3 ?_
    refine t_q (q_gtr rfl rfl) ?_
    refine t_q (q_pick_f rfl hg3) ?_
    refine t_q (q_as (.bool _) rfl) ?_
    refine t_nil ?_
    refine c_cond rfl ?_ ?_
    · intro hc5
      have hc5d := of_decide_eq_true hc5
      refine c_seq ?_
      refine c_region ?_
      refine t_q (q_assign) ?_
      refine t_nil ?_
      refine c_ret ?_
      refine r_one rfl rfl ?_
      refine ⟨congrArg (fun n => Ending.returned (.int .i64 n)) ?_, hS.nil⟩
      unfold band0E
      first
        | (exfalso; omega)
        | (rw [if_pos (by omega)])
        | (rw [if_neg (by omega)])
    · intro hc5
      have hc5d := of_decide_eq_false hc5
      refine c_seq ?_
      refine c_region ?_
      refine t_q (q_load1 Tryd.isAgg2 rfl (hS.cell (by repeat first | exact .here _ _ | assumption | apply Pick.there) rfl)) ?_
      refine t_q (q_cast (v' := .bool true) (q_eql rfl rfl) (by rfl)) ?_
      refine t_q (q_mv (.bool _) rfl) ?_
      refine t_no rfl rfl (by decide) ?_
      refine t_no rfl rfl (by decide) ?_
      refine t_q (q_pick_t rfl rfl) ?_
      refine t_q (q_as (.bool _) rfl) ?_
      refine t_nil ?_
      refine c_cond_t rfl rfl ?_
      refine c_seq ?_
      refine c_region ?_
      refine t_q (q_assign) ?_
      refine t_nil ?_
      refine c_ret ?_
      refine r_one rfl rfl ?_
      refine ⟨congrArg (fun n => Ending.returned (.int .i64 n)) ?_, hS.nil⟩
      unfold band0E
      first
        | (exfalso; omega)
        | (rw [if_pos (by omega)])
        | (rw [if_neg (by omega)])
set_option maxHeartbeats 2000000 in
set_option maxRecDepth 100000 in
theorem fits0_calls {x : RuV} (hx : x.Gd W) {side kind price qty : Int} (hq : -9223372036854775808 ≤ qty ∧ qty ≤ 9223372036854775807) : Calls Tryd.prog 27 #[.agg x.cells.toArray, .int .i64 0, .int .i64 side, .int .i64 kind, .int .i64 price, .int .i64 qty] W fun e w' => ∃ v ps, e = .returned v ∧ ErrL ps v (errOf (fit0 x side kind price qty)) ∧ St W w' [rdsA ps] := by
  have hS := (St.init W).rds0
  refine calls_of_wpE (args := [_, _, _, _, _, _]) Tryd.func27 rfl rfl rfl ?_
  refine c_seq ?_
  refine c_region ?_
  refine t_box (v := (.agg _)) rfl rfl hS (fun g6 w hS => ?_)
  replace hS := hS.recast (show _ = blkA g6 42 [.int .i64 x.version, .slice x.ticks.A x.ticks.l.length x.ticks.c, .int .i64 x.lot, .int .i64 x.band, .slice x.fees.A x.fees.l.length x.fees.c, .int .i64 x.round, .int .i64 x.priority, .int .i64 x.self, .int .i64 x.layout] from rfl)
  refine t_q (q_assign) ?_
  refine t_nil ?_
  refine c_seq ?_
  refine c_region ?_
  refine t_q (q_mv (.int _ _) rfl) ?_
  refine t_q (q_neq rfl rfl) ?_
  refine t_q (q_as (.bool _) rfl) ?_
  refine t_nil ?_
  refine c_seq ?_
  refine c_block ?_
  refine c_seq ?_
  refine c_region ?_
  refine t_q (q_cast (v' := .agg x.cells.toArray) (q_load_blk Tryd.isAgg42 Tryd.sizeOf42 rfl (hS.blk (by repeat first | exact .here _ _ | assumption | apply Pick.there)) rfl) (by rfl)) ?_
  refine t_call Tryd.call25 (rcheck_calls (hx.st hS)) rfl ?_
  rintro e w ⟨v0, rfl, hIf, hn, hT⟩
  refine ⟨_, rfl, ?_⟩
  replace hS := hS.after hT
  refine t_q (q_neq_iface_nil Tryd.runUnderlying24 rfl (hIf)) ?_
  refine t_q (q_as (.bool _) rfl) ?_
  refine t_nil ?_
  refine c_cond rfl ?_ ?_
  · intro hc4
    have hgd : goodR x = false := by rw [← hn]; exact bnt hc4
    have hD : fit0 x side kind price qty = (43, 9) := if_pos hgd
    refine c_seq ?_
    refine c_region ?_
    refine t_call Tryd.call50 (eown_calls (hS.pick (A := rdsA []) (by repeat first | exact .here _ _ | assumption | apply Pick.there))) rfl ?_
    rintro e w ⟨v, ps, rfl, hv, _, hS⟩
    refine ⟨_, rfl, ?_⟩
    rw [own_eq] at hv
    refine t_q (q_as v rfl) ?_
    refine t_nil ?_
    refine c_ret ?_
    refine r_one rfl rfl ?_
    rw [hD]
    first
      | exact ⟨_, ps, rfl, hv, (hS.pick (A := rdsA ps) (by repeat first | exact .here _ _ | assumption | apply Pick.there)).front1⟩
      | exact ⟨_, [], rfl, rfl, (hS.pick (A := rdsA []) (by repeat first | exact .here _ _ | assumption | apply Pick.there)).front1⟩
  · intro hc4
    have hgd : goodR x = true := by rw [← hn]; exact bnf hc4
    obtain ⟨hgv, hgt, ⟨hgl1, hgl2, hgb1, hgb2⟩, hgf, hgm⟩ := goodR_iff.1 hgd
    have hg1 : ¬ goodR x = false := by rw [hgd]; decide
    refine c_seq ?_
    refine c_region ?_
    refine t_q (q_mv (.int _ _) rfl) ?_
    refine t_call Tryd.call49 (within_calls) rfl ?_
    rintro e w ⟨rfl, hT⟩
    refine ⟨_, rfl, ?_⟩
    replace hS := hS.after hT
    refine t_q (q_not rfl) ?_
    refine t_q (q_mv (.bool _) rfl) ?_
    refine t_case 25 rfl ?_ ?_
    · intro hg7
      refine t_no rfl rfl (by rw [(congrArg not (not_back hg7))]; decide) ?_
      refine t_no rfl rfl (by rw [(congrArg not (not_back hg7))]; decide) ?_
      refine t_no rfl rfl (by rw [(congrArg not (not_back hg7))]; decide) ?_
      refine t_q (q_pick_t rfl (congrArg not (not_back hg7))) ?_
      refine t_q (q_as (.bool _) rfl) ?_
      refine t_nil ?_
      refine c_cond_t rfl rfl ?_
      have hsk : ¬ ((1 ≤ side ∧ side ≤ 2) ∧ (1 ≤ kind ∧ kind ≤ 5)) := by
        first
          | (rintro ⟨h1, h2⟩; exact absurd h1 (of_decide_eq_false (bnt (by assumption : (!decide (1 ≤ side ∧ side ≤ 2)) = true))))
          | (rintro ⟨h1, h2⟩; exact absurd h2 (of_decide_eq_false (bnt (by assumption : (!decide (1 ≤ kind ∧ kind ≤ 5)) = true))))
      have hD : fit0 x side kind price qty = (2, 9) := by unfold fit0; rw [if_neg hg1, if_pos hsk]
      refine c_seq ?_
      refine c_region ?_
      refine t_call Tryd.call50 (eown_calls (hS.pick (A := rdsA []) (by repeat first | exact .here _ _ | assumption | apply Pick.there))) rfl ?_
      rintro e w ⟨v, ps, rfl, hv, _, hS⟩
      refine ⟨_, rfl, ?_⟩
      rw [own_eq] at hv
      refine t_q (q_as v rfl) ?_
      refine t_nil ?_
      refine c_ret ?_
      refine r_one rfl rfl ?_
      rw [hD]
      first
        | exact ⟨_, ps, rfl, hv, (hS.pick (A := rdsA ps) (by repeat first | exact .here _ _ | assumption | apply Pick.there)).front1⟩
        | exact ⟨_, [], rfl, rfl, (hS.pick (A := rdsA []) (by repeat first | exact .here _ _ | assumption | apply Pick.there)).front1⟩
    · intro hg7
      refine t_yes rfl rfl (congrArg not (not_back hg7)) ?_
      refine t_q (q_mv (.int _ _) rfl) ?_
      refine t_yes rfl rfl (congrArg not (not_back hg7)) ?_
      refine t_call Tryd.call49 (within_calls) rfl ?_
      rintro e w ⟨rfl, hT⟩
      refine ⟨_, rfl, ?_⟩
      replace hS := hS.after hT
      refine t_yes rfl rfl (congrArg not (not_back hg7)) ?_
      refine t_q (q_not rfl) ?_
      refine t_q (q_pick_f rfl (congrArg not (not_back hg7))) ?_
      refine t_q (q_as (.bool _) rfl) ?_
      refine t_nil ?_
      refine c_cond rfl ?_ ?_
      · intro hc10
        have hsk : ¬ ((1 ≤ side ∧ side ≤ 2) ∧ (1 ≤ kind ∧ kind ≤ 5)) := by
          first
            | (rintro ⟨h1, h2⟩; exact absurd h1 (of_decide_eq_false (bnt (by assumption : (!decide (1 ≤ side ∧ side ≤ 2)) = true))))
            | (rintro ⟨h1, h2⟩; exact absurd h2 (of_decide_eq_false (bnt (by assumption : (!decide (1 ≤ kind ∧ kind ≤ 5)) = true))))
        have hD : fit0 x side kind price qty = (2, 9) := by unfold fit0; rw [if_neg hg1, if_pos hsk]
        refine c_seq ?_
        refine c_region ?_
        refine t_call Tryd.call50 (eown_calls (hS.pick (A := rdsA []) (by repeat first | exact .here _ _ | assumption | apply Pick.there))) rfl ?_
        rintro e w ⟨v, ps, rfl, hv, _, hS⟩
        refine ⟨_, rfl, ?_⟩
        rw [own_eq] at hv
        refine t_q (q_as v rfl) ?_
        refine t_nil ?_
        refine c_ret ?_
        refine r_one rfl rfl ?_
        rw [hD]
        first
          | exact ⟨_, ps, rfl, hv, (hS.pick (A := rdsA ps) (by repeat first | exact .here _ _ | assumption | apply Pick.there)).front1⟩
          | exact ⟨_, [], rfl, rfl, (hS.pick (A := rdsA []) (by repeat first | exact .here _ _ | assumption | apply Pick.there)).front1⟩
      · intro hc10
        have hsk : (1 ≤ side ∧ side ≤ 2) ∧ (1 ≤ kind ∧ kind ≤ 5) := ⟨of_decide_eq_true (bnf (by assumption : (!decide (1 ≤ side ∧ side ≤ 2)) = false)), of_decide_eq_true (bnf (by assumption : (!decide (1 ≤ kind ∧ kind ≤ 5)) = false))⟩
        refine c_seq ?_
        refine c_region ?_
        refine t_q (q_mv (.bool _) rfl) ?_
        refine t_q (q_mv (.bool _) rfl) ?_
        refine t_case 33 rfl ?_ ?_
        · intro hg12
          have hg12d := of_decide_eq_true hg12
          refine t_yes rfl rfl hg12 ?_
          refine t_q (q_fieldAddr 1 Tryd.runUnderlying42 rfl Tryd.sizeOf39 (by decide) rfl rfl) ?_
          refine t_yes rfl rfl hg12 ?_
          refine t_q (q_load1 Tryd.isAgg39 rfl (hS.cell (by repeat first | exact .here _ _ | assumption | apply Pick.there) rfl)) ?_
          refine t_yes rfl rfl hg12 ?_
          refine t_q (q_mv (.int _ _) rfl) ?_
          refine t_yes rfl rfl hg12 ?_
          refine t_call Tryd.call58 (gon_calls (l := x.ticks.l) (p := price) (hx.trd.st hS) hx.tin hx.tle) rfl ?_
          rintro e w ⟨rfl, hT⟩
          refine ⟨_, rfl, ?_⟩
          replace hS := hS.after hT
          refine t_yes rfl rfl hg12 ?_
          refine t_q (q_not rfl) ?_
          refine t_q (q_pick_t rfl hg12) ?_
          refine t_q (q_as (.bool _) rfl) ?_
          refine t_nil ?_
          refine c_cond rfl ?_ ?_
          · intro hc14
            have hon : kind ≠ 2 ∧ onT x.ticks.l price = false := ⟨by omega, bnt (by assumption : (!onT x.ticks.l price) = true)⟩
            have hD : fit0 x side kind price qty = (40, 6) := by unfold fit0; rw [if_neg hg1, if_neg (not_not_intro hsk), if_pos hon]
            refine c_seq ?_
            refine c_region ?_
            refine t_call Tryd.call52 (eof_calls (hS.pick (A := rdsA []) (by repeat first | exact .here _ _ | assumption | apply Pick.there))) rfl ?_
            rintro e w ⟨v, ps, rfl, hv, _, hS⟩
            refine ⟨_, rfl, ?_⟩
            rw [of_eq _ (by decide)] at hv
            refine t_q (q_as v rfl) ?_
            refine t_nil ?_
            refine c_ret ?_
            refine r_one rfl rfl ?_
            rw [hD]
            first
              | exact ⟨_, ps, rfl, hv, (hS.pick (A := rdsA ps) (by repeat first | exact .here _ _ | assumption | apply Pick.there)).front1⟩
              | exact ⟨_, [], rfl, rfl, (hS.pick (A := rdsA []) (by repeat first | exact .here _ _ | assumption | apply Pick.there)).front1⟩
          · intro hc14
            have hon : ¬ (kind ≠ 2 ∧ onT x.ticks.l price = false) := by
              rintro ⟨h1, h2⟩
              first
                | omega
                | (have h3 := bnf (by assumption : (!onT x.ticks.l price) = false); rw [h2] at h3; cases h3)
            refine c_seq ?_
            refine c_region ?_
            refine t_q (q_fieldAddr 2 Tryd.runUnderlying42 rfl Tryd.sizeOf2 (by decide) rfl rfl) ?_
            refine t_q (q_load1 Tryd.isAgg2 rfl (hS.cell (by repeat first | exact .here _ _ | assumption | apply Pick.there) rfl)) ?_
            refine t_q (q_mv (.int _ _) rfl) ?_
            refine t_call Tryd.call59 (lot_calls (lot := x.lot) (q := qty) ⟨hgl1, hgl2⟩ hq) rfl ?_
            rintro e w ⟨rfl, hT⟩
            refine ⟨_, rfl, ?_⟩
            replace hS := hS.after hT
            refine t_q (q_neq rfl rfl) ?_
            refine t_q (q_as (.bool _) rfl) ?_
            refine t_nil ?_
            refine c_cond rfl ?_ ?_
            · intro hc18
              have hc18d := of_decide_eq_true hc18
              have hlo : lotE x.lot qty ≠ 0 := by omega
              have hD : fit0 x side kind price qty = (lotE x.lot qty, 7) := by unfold fit0; rw [if_neg hg1, if_neg (not_not_intro hsk), if_neg hon, if_pos hlo]
              refine c_seq ?_
              refine c_region ?_
              refine t_q (q_fieldAddr 2 Tryd.runUnderlying42 rfl Tryd.sizeOf2 (by decide) rfl rfl) ?_
              refine t_q (q_load1 Tryd.isAgg2 rfl (hS.cell (by repeat first | exact .here _ _ | assumption | apply Pick.there) rfl)) ?_
              refine t_q (q_mv (.int _ _) rfl) ?_
              refine t_call Tryd.call59 (lot_calls (lot := x.lot) (q := qty) ⟨hgl1, hgl2⟩ hq) rfl ?_
              rintro e w ⟨rfl, hT⟩
              refine ⟨_, rfl, ?_⟩
              replace hS := hS.after hT
              refine t_call Tryd.call52 (eof_calls (hS.pick (A := rdsA []) (by repeat first | exact .here _ _ | assumption | apply Pick.there))) rfl ?_
              rintro e w ⟨v, ps, rfl, hv, _, hS⟩
              refine ⟨_, rfl, ?_⟩
              rw [of_eq _ (by decide)] at hv
              refine t_q (q_as v rfl) ?_
              refine t_nil ?_
              refine c_ret ?_
              refine r_one rfl rfl ?_
              rw [hD]
              first
                | exact ⟨_, ps, rfl, hv, (hS.pick (A := rdsA ps) (by repeat first | exact .here _ _ | assumption | apply Pick.there)).front1⟩
                | exact ⟨_, [], rfl, rfl, (hS.pick (A := rdsA []) (by repeat first | exact .here _ _ | assumption | apply Pick.there)).front1⟩
            · intro hc18
              have hc18d := of_decide_eq_false hc18
              have hlo : ¬ lotE x.lot qty ≠ 0 := by omega
              refine c_seq ?_
              refine c_region ?_
              refine t_q (q_mv (.bool _) rfl) ?_
              refine t_q (q_as (.bool _) rfl) ?_
              refine t_nil ?_
              refine c_cond_t rfl hg12 ?_
              have hD : fit0 x side kind price qty = (band0E price, 7) := by unfold fit0; rw [if_neg hg1, if_neg (not_not_intro hsk), if_neg hon, if_neg hlo, if_pos (by omega)]
              refine c_seq ?_
              refine c_region ?_
              refine t_q (q_mv (.int _ _) rfl) ?_
              refine t_q (q_mv (.int _ _) rfl) ?_
              refine t_q (q_fieldAddr 3 Tryd.runUnderlying42 rfl Tryd.sizeOf2 (by decide) rfl rfl) ?_
              refine t_q (q_load1 Tryd.isAgg2 rfl (hS.cell (by repeat first | exact .here _ _ | assumption | apply Pick.there) rfl)) ?_
              refine t_call Tryd.call60 (band0_calls (p := price) (b := x.band) ⟨hgb1, hgb2⟩) rfl ?_
              rintro e w ⟨rfl, hT⟩
              refine ⟨_, rfl, ?_⟩
              replace hS := hS.after hT
              refine t_call Tryd.call52 (eof_calls (hS.pick (A := rdsA []) (by repeat first | exact .here _ _ | assumption | apply Pick.there))) rfl ?_
              rintro e w ⟨v, ps, rfl, hv, _, hS⟩
              refine ⟨_, rfl, ?_⟩
              rw [of_eq _ (by decide)] at hv
              refine t_q (q_as v rfl) ?_
              refine t_nil ?_
              refine c_ret ?_
              refine r_one rfl rfl ?_
              rw [hD]
              first
                | exact ⟨_, ps, rfl, hv, (hS.pick (A := rdsA ps) (by repeat first | exact .here _ _ | assumption | apply Pick.there)).front1⟩
                | exact ⟨_, [], rfl, rfl, (hS.pick (A := rdsA []) (by repeat first | exact .here _ _ | assumption | apply Pick.there)).front1⟩
        · intro hg12
          have hg12d := of_decide_eq_false hg12
          refine t_no rfl rfl (by rw [hg12]; decide) ?_
          refine t_no rfl rfl (by rw [hg12]; decide) ?_
          refine t_no rfl rfl (by rw [hg12]; decide) ?_
          refine t_no rfl rfl (by rw [hg12]; decide) ?_
          refine t_no rfl rfl (by rw [hg12]; decide) ?_
          refine t_q (q_pick_f rfl hg12) ?_
          refine t_q (q_as (.bool _) rfl) ?_
          refine t_nil ?_
          refine c_cond_f rfl rfl ?_
          have hon : ¬ (kind ≠ 2 ∧ onT x.ticks.l price = false) := by
            rintro ⟨h1, h2⟩
            first
              | omega
              | (have h3 := bnf (by assumption : (!onT x.ticks.l price) = false); rw [h2] at h3; cases h3)
          refine c_seq ?_
          refine c_region ?_
          refine t_q (q_fieldAddr 2 Tryd.runUnderlying42 rfl Tryd.sizeOf2 (by decide) rfl rfl) ?_
          refine t_q (q_load1 Tryd.isAgg2 rfl (hS.cell (by repeat first | exact .here _ _ | assumption | apply Pick.there) rfl)) ?_
          refine t_q (q_mv (.int _ _) rfl) ?_
          refine t_call Tryd.call59 (lot_calls (lot := x.lot) (q := qty) ⟨hgl1, hgl2⟩ hq) rfl ?_
          rintro e w ⟨rfl, hT⟩
          refine ⟨_, rfl, ?_⟩
          replace hS := hS.after hT
          refine t_q (q_neq rfl rfl) ?_
          refine t_q (q_as (.bool _) rfl) ?_
          refine t_nil ?_
          refine c_cond rfl ?_ ?_
          · intro hc25
            have hc25d := of_decide_eq_true hc25
            have hlo : lotE x.lot qty ≠ 0 := by omega
            have hD : fit0 x side kind price qty = (lotE x.lot qty, 7) := by unfold fit0; rw [if_neg hg1, if_neg (not_not_intro hsk), if_neg hon, if_pos hlo]
            refine c_seq ?_
            refine c_region ?_
            refine t_q (q_fieldAddr 2 Tryd.runUnderlying42 rfl Tryd.sizeOf2 (by decide) rfl rfl) ?_
            refine t_q (q_load1 Tryd.isAgg2 rfl (hS.cell (by repeat first | exact .here _ _ | assumption | apply Pick.there) rfl)) ?_
            refine t_q (q_mv (.int _ _) rfl) ?_
            refine t_call Tryd.call59 (lot_calls (lot := x.lot) (q := qty) ⟨hgl1, hgl2⟩ hq) rfl ?_
            rintro e w ⟨rfl, hT⟩
            refine ⟨_, rfl, ?_⟩
            replace hS := hS.after hT
            refine t_call Tryd.call52 (eof_calls (hS.pick (A := rdsA []) (by repeat first | exact .here _ _ | assumption | apply Pick.there))) rfl ?_
            rintro e w ⟨v, ps, rfl, hv, _, hS⟩
            refine ⟨_, rfl, ?_⟩
            rw [of_eq _ (by decide)] at hv
            refine t_q (q_as v rfl) ?_
            refine t_nil ?_
            refine c_ret ?_
            refine r_one rfl rfl ?_
            rw [hD]
            first
              | exact ⟨_, ps, rfl, hv, (hS.pick (A := rdsA ps) (by repeat first | exact .here _ _ | assumption | apply Pick.there)).front1⟩
              | exact ⟨_, [], rfl, rfl, (hS.pick (A := rdsA []) (by repeat first | exact .here _ _ | assumption | apply Pick.there)).front1⟩
          · intro hc25
            have hc25d := of_decide_eq_false hc25
            have hlo : ¬ lotE x.lot qty ≠ 0 := by omega
            refine c_seq ?_
            refine c_region ?_
            refine t_q (q_mv (.bool _) rfl) ?_
            refine t_q (q_as (.bool _) rfl) ?_
            refine t_nil ?_
            refine c_cond_f rfl hg12 ?_
            have hD : fit0 x side kind price qty = (0, 0) := by unfold fit0; rw [if_neg hg1, if_neg (not_not_intro hsk), if_neg hon, if_neg hlo, if_neg (by omega)]
            refine c_skip ?_
            refine c_seq ?_
            refine c_region ?_
            refine t_q (q_assign) ?_
            refine t_nil ?_
            refine c_ret ?_
            refine r_one rfl rfl ?_
            rw [hD]
            first
              | exact ⟨_, ps, rfl, hv, (hS.pick (A := rdsA ps) (by repeat first | exact .here _ _ | assumption | apply Pick.there)).front1⟩
              | exact ⟨_, [], rfl, rfl, (hS.pick (A := rdsA []) (by repeat first | exact .here _ _ | assumption | apply Pick.there)).front1⟩
end Go.Proofs.YtcgagmojgjbfpaaDoor
