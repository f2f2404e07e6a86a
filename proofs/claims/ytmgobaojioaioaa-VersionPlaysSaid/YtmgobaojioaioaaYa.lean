/- States: stepped, due, turned back. -/
import Derived.Test.YtmgobaojioaioaaVk
import Derived.Test.YtmgobaojioaioaaWb
import Derived.Test.YtmgobaojioaioaaAk
import Derived.Test.YtmgobaojioaioaaVa
namespace Go.Proofs.Ytmgobaojioaioaa
open Go Go.RowKit Go.Lib
variable {W : World}
structure StV where
  active : Int
  previous : Int
  pending : Int
  at_ : Int
  shadow : Int
instance : Inhabited StV := ⟨⟨0, 0, 0, 0, 0⟩⟩
def StV.cells (x : StV) : List Value := [.int .i64 x.active, .int .i64 x.previous, .int .i64 x.pending, .int .u64 x.at_, .int .i64 x.shadow]
structure StV.Ok (w : World) (x : StV) : Prop where
  active : -9223372036854775808 ≤ x.active ∧ x.active ≤ 9223372036854775807
  previous : -9223372036854775808 ≤ x.previous ∧ x.previous ≤ 9223372036854775807
  pending : -9223372036854775808 ≤ x.pending ∧ x.pending ≤ 9223372036854775807
  at_ : 0 ≤ x.at_ ∧ x.at_ < 18446744073709551616
  shadow : -9223372036854775808 ≤ x.shadow ∧ x.shadow ≤ 9223372036854775807
def stepV (s : StV) (i : Int) : StV × Bool := if s.pending = 0 ∨ s.at_ ≠ i then (s, false) else (⟨s.pending, s.active, 0, 0, 0⟩, true)
def backV (s : StV) : StV × Int := if s.pending ≠ 0 then ({ s with pending := 0, at_ := 0 }, 0) else if s.previous = 0 then (s, 54) else (⟨s.previous, 0, 0, 0, 0⟩, 0)
theorem stepV_no {s : StV} {i : Int} (h : s.pending = 0 ∨ s.at_ ≠ i) : stepV s i = (s, false) := if_pos h
theorem stepV_yes {s : StV} {i : Int} (h : ¬ (s.pending = 0 ∨ s.at_ ≠ i)) : stepV s i = (⟨s.pending, s.active, 0, 0, 0⟩, true) := if_neg h
theorem backV_1 {s : StV} (h : s.pending ≠ 0) : backV s = ({ s with pending := 0, at_ := 0 }, 0) := if_pos h
theorem backV_2 {s : StV} (h : ¬ s.pending ≠ 0) (h2 : s.previous = 0) : backV s = (s, 54) := by unfold backV; rw [if_neg h, if_pos h2]
theorem backV_3 {s : StV} (h : ¬ s.pending ≠ 0) (h2 : ¬ s.previous = 0) : backV s = (⟨s.previous, 0, 0, 0, 0⟩, 0) := by unfold backV; rw [if_neg h, if_neg h2]
def StV.In (s : StV) : Prop := (-9223372036854775808 ≤ s.active ∧ s.active ≤ 9223372036854775807) ∧ (-9223372036854775808 ≤ s.previous ∧ s.previous ≤ 9223372036854775807) ∧ (-9223372036854775808 ≤ s.pending ∧ s.pending ≤ 9223372036854775807) ∧ (0 ≤ s.at_ ∧ s.at_ < 18446744073709551616) ∧ (-9223372036854775808 ≤ s.shadow ∧ s.shadow ≤ 9223372036854775807)
theorem StV.Ok.in {w : World} {s : StV} (h : s.Ok w) : s.In := ⟨h.active, h.previous, h.pending, h.at_, h.shadow⟩
theorem stepV_in {s : StV} (h : s.In) (i : Int) : (stepV s i).1.In := by
  unfold stepV
  split
  · exact h
  · exact ⟨h.2.2.1, h.1, by show (-9223372036854775808 : Int) ≤ 0 ∧ (0 : Int) ≤ _; decide, by show (0 : Int) ≤ 0 ∧ (0 : Int) < _; decide, by show (-9223372036854775808 : Int) ≤ 0 ∧ (0 : Int) ≤ _; decide⟩
def StV.lits (s : StV) : List Lit := [.int .i64 s.active, .int .i64 s.previous, .int .i64 s.pending, .int .u64 s.at_, .int .i64 s.shadow]
def needV (s : StV) (k v i : Int) : Nat := setV [(stepV s i).1.active, (stepV s i).1.shadow] ||| (if k = 14 then bitN (backV (stepV s i).1).1.active else if k = 11 then bitN v else 0)
def needL (s : StV) (k v i : Int) : List Int := [(stepV s i).1.active, (stepV s i).1.shadow] ++ ((if k = 11 then [v] else []) ++ (if k = 14 ∧ (stepV s i).1.pending = 0 ∧ (stepV s i).1.previous ≠ 0 then [(stepV s i).1.previous] else []))
theorem setV_append (a : List Int) (v : Int) : setV (a ++ [v]) = setV a ||| bitN v := by unfold setV; rw [List.foldl_append]; rfl
theorem setV_again (a b : Int) : setV [a, b] ||| bitN a = setV [a, b] := by
  show ((0 ||| bitN a) ||| bitN b) ||| bitN a = (0 ||| bitN a) ||| bitN b
  apply Nat.eq_of_testBit_eq
  intro i
  simp only [Nat.testBit_or, Nat.zero_testBit, Bool.false_or]
  cases (bitN a).testBit i <;> cases (bitN b).testBit i <;> rfl
theorem need_eq (s : StV) (k v i : Int) : setV (needL s k v i) = needV s k v i := by
  unfold needL needV
  by_cases h11 : k = 11
  · have h14 : ¬ k = 14 := by omega
    rw [if_pos h11, if_neg h14, if_pos h11, if_neg (fun h => h14 h.1), List.append_nil, setV_append]
  · rw [if_neg h11, if_neg h11, List.nil_append]
    by_cases h14 : k = 14
    · rw [if_pos h14]
      by_cases hp : (stepV s i).1.pending ≠ 0
      · rw [if_neg (fun h => hp h.2.1), List.append_nil, backV_1 hp]
        exact (setV_again _ _).symm
      · by_cases hq : (stepV s i).1.previous = 0
        · rw [if_neg (fun h => h.2.2 hq), List.append_nil, backV_2 hp hq]
          exact (setV_again _ _).symm
        · rw [if_pos ⟨h14, Classical.not_not.1 hp, hq⟩, backV_3 hp hq, setV_append]
    · rw [if_neg h14, if_neg (fun h => h14 h.1), List.append_nil, Nat.or_zero]
theorem needL_len (s : StV) (k v i : Int) : (needL s k v i).length ≤ 4 := by
  unfold needL
  rw [List.length_append, List.length_append]
  split <;> split <;> simp
def bitsK (vs : List Int) : Nat → Nat
  | 0 => 0
  | k + 1 => bitsK vs k + (if (k : Int) + 1 ∈ vs then bitN ((k : Int) + 1) else 0)
theorem bitN_nat {k : Nat} (h : k < 32) : bitN ((k : Int) + 1) = 2 ^ k := by
  rw [bitN_in (by omega), show ((k : Int) + 1 - 1).toNat = k by omega]
theorem bitsK_lt (vs : List Int) : ∀ k, k ≤ 32 → bitsK vs k < 2 ^ k
  | 0, _ => by show (0 : Nat) < 2 ^ 0; decide
  | k + 1, h => by
    have ih := bitsK_lt vs k (by omega)
    unfold bitsK
    rw [bitN_nat (by omega), Nat.pow_succ]
    split <;> omega
theorem bitsK_test (vs : List Int) (i : Nat) : ∀ k, k ≤ 32 → (bitsK vs k).testBit i = (decide (i < k) && decide ((i : Int) + 1 ∈ vs))
  | 0, _ => by simp [bitsK]
  | k + 1, h => by
    have ih := bitsK_test vs i k (by omega)
    have hl := bitsK_lt vs k (by omega)
    unfold bitsK
    by_cases hm : (k : Int) + 1 ∈ vs
    · rw [if_pos hm, bitN_nat (by omega), Nat.add_comm, show 2 ^ k + bitsK vs k = 2 ^ k * 1 + bitsK vs k by rw [Nat.mul_one], Nat.two_pow_add_eq_or_of_lt hl, Nat.mul_one, Nat.testBit_or, ih, Nat.testBit_two_pow]
      by_cases hi : k = i
      · subst hi
        simp [hm]
      · have e1 : decide (i < k + 1) = decide (i < k) := by rw [decide_eq_decide]; omega
        rw [e1, decide_eq_false hi, Bool.false_or]
    · rw [if_neg hm, Nat.add_zero, ih]
      by_cases hi : k = i
      · subst hi
        simp [hm]
      · have e1 : decide (i < k + 1) = decide (i < k) := by rw [decide_eq_decide]; omega
        rw [e1]
theorem bitN_test (v : Int) (i : Nat) : (bitN v).testBit i = (decide (i < 32) && decide ((i : Int) + 1 = v)) := by
  by_cases h : 1 ≤ v ∧ v ≤ 32
  · rw [bitN_in h, Nat.testBit_two_pow]
    by_cases hi : (v - 1).toNat = i
    · rw [decide_eq_true hi, decide_eq_true (show i < 32 by omega), decide_eq_true (show (i : Int) + 1 = v by omega)]
      rfl
    · rw [decide_eq_false hi, decide_eq_false (show ¬ (i : Int) + 1 = v by omega), Bool.and_false]
  · rw [bitN_out h, Nat.zero_testBit]
    by_cases hi : i < 32
    · rw [decide_eq_false (show ¬ (i : Int) + 1 = v by omega), Bool.and_false]
    · rw [decide_eq_false hi, Bool.false_and]
theorem foldl_test (i : Nat) : ∀ (vs : List Int) (a : Nat), (vs.foldl (fun a v => a ||| bitN v) a).testBit i = (a.testBit i || (decide (i < 32) && decide ((i : Int) + 1 ∈ vs)))
  | [], a => by simp
  | v :: vs, a => by
    rw [List.foldl_cons, foldl_test i vs, Nat.testBit_or, bitN_test]
    by_cases h1 : (i : Int) + 1 = v
    · rw [decide_eq_true h1, decide_eq_true (show (i : Int) + 1 ∈ v :: vs by rw [h1]; exact List.mem_cons_self)]
      cases a.testBit i <;> cases decide (i < 32) <;> cases decide ((i : Int) + 1 ∈ vs) <;> rfl
    · have e : decide ((i : Int) + 1 ∈ v :: vs) = decide ((i : Int) + 1 ∈ vs) := by
        rw [decide_eq_decide, List.mem_cons]
        exact ⟨fun h => h.resolve_left h1, .inr⟩
      rw [decide_eq_false h1, e, Bool.and_false, Bool.or_false]
theorem bits_set (vs : List Int) : bitsK vs 32 = setV vs := by
  apply Nat.eq_of_testBit_eq
  intro i
  rw [bitsK_test vs i 32 (Nat.le_refl _)]
  unfold setV
  rw [foldl_test, Nat.zero_testBit, Bool.false_or]
attribute [local irreducible] blkA rowA rdsA mapA regA
set_option maxRecDepth 100000 in
theorem step_calls {x : StV} {i : Int} : Calls Try.prog 18 #[.agg x.cells.toArray, .int .u64 i] W fun e w' => e = .returned (.tuple #[.agg (stepV x i).1.cells.toArray, .bool (stepV x i).2]) ∧ St W w' [] := by
  have hS := St.init W
  refine calls_of_wpE (args := [_, _]) Try.func18 rfl rfl rfl ?_
  refine c_seq ?_
  refine c_region ?_
  refine t_box (v := (.agg _)) rfl rfl hS (fun g2 w hS => ?_)
  replace hS := hS.recast (show _ = blkA g2 28 [.int .i64 x.active, .int .i64 x.previous, .int .i64 x.pending, .int .u64 x.at_, .int .i64 x.shadow] from rfl)
  refine t_alloc Try.zeroValue28 rfl hS (fun g4 w hS => ?_)
  refine t_q (q_assign) ?_
  refine t_nil ?_
  refine c_seq ?_
  refine c_seq ?_
  refine c_region ?_
  refine t_q (q_fieldAddr 2 Try.runUnderlying28 rfl Try.sizeOf3 (by decide) rfl rfl) ?_
  refine t_q (q_load1 Try.isAgg3 rfl (hS.cell (by repeat first | exact .here _ _ | assumption | apply Pick.there) rfl)) ?_
  refine t_q (q_eql rfl rfl) ?_
  refine t_q (q_mv (.bool _) rfl) ?_
  refine t_case 9 rfl ?_ ?_
  · intro hg2
    have hg2d := of_decide_eq_true hg2
    refine t_no rfl rfl (by rw [hg2]; decide) ?_
    refine t_no rfl rfl (by rw [hg2]; decide) ?_
    refine t_no rfl rfl (by rw [hg2]; decide) ?_
    refine t_no rfl rfl (by rw [hg2]; decide) ?_
    refine t_q (q_pick_t rfl hg2) ?_
    refine t_nil ?_
    refine c_cond_t rfl rfl ?_
    have hD := stepV_no (s := x) (i := i) (by omega)
    refine c_seq ?_
    refine c_region ?_
    refine t_q (q_cast (v' := .agg x.cells.toArray) (q_load_blk Try.isAgg28 Try.sizeOf28 rfl (hS.blk (by repeat first | exact .here _ _ | assumption | apply Pick.there)) rfl) (by rfl)) ?_
    refine t_store (v := (.agg _)) Try.sizeOf28 hS (by repeat first | exact .here _ _ | assumption | apply Pick.there) rfl rfl rfl rfl rfl rfl (fun w hS => ?_)
    replace hS := hS.recast (congrArg (blkA g4 28) (rset_full (vs := x.cells) rfl))
    refine t_q (q_assign) ?_
    refine t_nil ?_
    refine c_ret ?_
    refine r_two rfl (res1_cellN Try.isAgg28 Try.sizeOf28 rfl (hS.blk (by repeat first | exact .here _ _ | assumption | apply Pick.there)) rfl) rfl ?_
    rw [hD]
    exact ⟨rfl, hS.nil⟩
  · intro hg2
    have hg2d := of_decide_eq_false hg2
    refine t_yes rfl rfl hg2 ?_
    refine t_q (q_fieldAddr 3 Try.runUnderlying28 rfl Try.sizeOf26 (by decide) rfl rfl) ?_
    refine t_yes rfl rfl hg2 ?_
    refine t_q (q_load1 Try.isAgg26 rfl (hS.cell (by repeat first | exact .here _ _ | assumption | apply Pick.there) rfl)) ?_
    refine t_yes rfl rfl hg2 ?_
    refine t_q (q_mv (.int _ _) rfl) ?_
    refine t_yes rfl rfl hg2 ?_
    refine t_q (q_neq rfl rfl) ?_
    refine t_q (q_pick_f rfl hg2) ?_
    refine t_nil ?_
    refine c_cond rfl ?_ ?_
    · intro hc4
      have hc4d := of_decide_eq_true hc4
      have hD := stepV_no (s := x) (i := i) (by omega)
      refine c_seq ?_
      refine c_region ?_
      refine t_q (q_cast (v' := .agg x.cells.toArray) (q_load_blk Try.isAgg28 Try.sizeOf28 rfl (hS.blk (by repeat first | exact .here _ _ | assumption | apply Pick.there)) rfl) (by rfl)) ?_
      refine t_store (v := (.agg _)) Try.sizeOf28 hS (by repeat first | exact .here _ _ | assumption | apply Pick.there) rfl rfl rfl rfl rfl rfl (fun w hS => ?_)
      replace hS := hS.recast (congrArg (blkA g4 28) (rset_full (vs := x.cells) rfl))
      refine t_q (q_assign) ?_
      refine t_nil ?_
      refine c_ret ?_
      refine r_two rfl (res1_cellN Try.isAgg28 Try.sizeOf28 rfl (hS.blk (by repeat first | exact .here _ _ | assumption | apply Pick.there)) rfl) rfl ?_
      rw [hD]
      exact ⟨rfl, hS.nil⟩
    · intro hc4
      have hc4d := of_decide_eq_false hc4
      have hD := stepV_yes (s := x) (i := i) (by omega)
      refine c_skip ?_
      refine c_seq ?_
      refine c_region ?_
      refine t_q (q_fieldAddr 2 Try.runUnderlying28 rfl Try.sizeOf3 (by decide) rfl rfl) ?_
      refine t_q (q_load1 Try.isAgg3 rfl (hS.cell (by repeat first | exact .here _ _ | assumption | apply Pick.there) rfl)) ?_
      refine t_q (q_fieldAddr 0 Try.runUnderlying28 rfl Try.sizeOf3 (by decide) rfl rfl) ?_
      refine t_q (q_load1 Try.isAgg3 rfl (hS.cell (by repeat first | exact .here _ _ | assumption | apply Pick.there) rfl)) ?_
      refine t_q (q_build (qs := [(0, 1), (1, 1), (2, 1), (3, 1), (4, 1)]) [(.int _ _), (.int _ _), (.int _ _), (.int _ _), (.int _ _)] Try.zeroValue28 Try.runUnderlying28 ⟨rfl, Try.sizeOf3, rfl, Try.sizeOf3, rfl, Try.sizeOf3, rfl, Try.sizeOf26, rfl, Try.sizeOf3, trivial⟩ rfl rfl) ?_
      refine t_store (v := (.agg _)) Try.sizeOf28 hS (by repeat first | exact .here _ _ | assumption | apply Pick.there) rfl rfl rfl rfl rfl rfl (fun w hS => ?_)
      replace hS := hS.recast (congrArg (blkA g4 28) (rset_full (vs := (⟨x.pending, x.active, 0, 0, 0⟩ : StV).cells) rfl))
      refine t_q (q_assign) ?_
      refine t_nil ?_
      refine c_ret ?_
      refine r_two rfl (res1_cellN Try.isAgg28 Try.sizeOf28 rfl (hS.blk (by repeat first | exact .here _ _ | assumption | apply Pick.there)) rfl) rfl ?_
      rw [hD]
      exact ⟨rfl, hS.nil⟩
set_option maxRecDepth 100000 in
theorem qstep_calls {x : StV} {i : Int} : Calls Try.prog 26 #[.agg x.cells.toArray, .int .u64 i] W fun e w' => e = .returned (.tuple #[.agg (stepV x i).1.cells.toArray, .bool (stepV x i).2]) ∧ St W w' [] := by
  have hS := St.init W
  refine calls_of_wpE (args := [_, _]) Try.func26 rfl rfl rfl ?_
  refine c_seq ?_
  refine c_region ?_
  refine t_box (v := (.agg _)) rfl rfl hS (fun g2 w hS => ?_)
  replace hS := hS.recast (show _ = blkA g2 35 [.int .i64 x.active, .int .i64 x.previous, .int .i64 x.pending, .int .u64 x.at_, .int .i64 x.shadow] from rfl)
  refine t_alloc Try.zeroValue35 rfl hS (fun g4 w hS => ?_)
  refine t_q (q_assign) ?_
  refine t_nil ?_
  refine c_seq ?_
  refine c_seq ?_
  refine c_region ?_
  refine t_q (q_fieldAddr 2 Try.runUnderlying35 rfl Try.sizeOf3 (by decide) rfl rfl) ?_
  refine t_q (q_load1 Try.isAgg3 rfl (hS.cell (by repeat first | exact .here _ _ | assumption | apply Pick.there) rfl)) ?_
  refine t_q (q_eql rfl rfl) ?_
  refine t_q (q_mv (.bool _) rfl) ?_
  refine t_case 9 rfl ?_ ?_
  · intro hg2
    have hg2d := of_decide_eq_true hg2
    refine t_no rfl rfl (by rw [hg2]; decide) ?_
    refine t_no rfl rfl (by rw [hg2]; decide) ?_
    refine t_no rfl rfl (by rw [hg2]; decide) ?_
    refine t_no rfl rfl (by rw [hg2]; decide) ?_
    refine t_q (q_pick_t rfl hg2) ?_
    refine t_nil ?_
    refine c_cond_t rfl rfl ?_
    have hD := stepV_no (s := x) (i := i) (by omega)
    refine c_seq ?_
    refine c_region ?_
    refine t_q (q_cast (v' := .agg x.cells.toArray) (q_load_blk Try.isAgg35 Try.sizeOf35 rfl (hS.blk (by repeat first | exact .here _ _ | assumption | apply Pick.there)) rfl) (by rfl)) ?_
    refine t_store (v := (.agg _)) Try.sizeOf35 hS (by repeat first | exact .here _ _ | assumption | apply Pick.there) rfl rfl rfl rfl rfl rfl (fun w hS => ?_)
    replace hS := hS.recast (congrArg (blkA g4 35) (rset_full (vs := x.cells) rfl))
    refine t_q (q_assign) ?_
    refine t_nil ?_
    refine c_ret ?_
    refine r_two rfl (res1_cellN Try.isAgg35 Try.sizeOf35 rfl (hS.blk (by repeat first | exact .here _ _ | assumption | apply Pick.there)) rfl) rfl ?_
    rw [hD]
    exact ⟨rfl, hS.nil⟩
  · intro hg2
    have hg2d := of_decide_eq_false hg2
    refine t_yes rfl rfl hg2 ?_
    refine t_q (q_fieldAddr 3 Try.runUnderlying35 rfl Try.sizeOf26 (by decide) rfl rfl) ?_
    refine t_yes rfl rfl hg2 ?_
    refine t_q (q_load1 Try.isAgg26 rfl (hS.cell (by repeat first | exact .here _ _ | assumption | apply Pick.there) rfl)) ?_
    refine t_yes rfl rfl hg2 ?_
    refine t_q (q_mv (.int _ _) rfl) ?_
    refine t_yes rfl rfl hg2 ?_
    refine t_q (q_neq rfl rfl) ?_
    refine t_q (q_pick_f rfl hg2) ?_
    refine t_nil ?_
    refine c_cond rfl ?_ ?_
    · intro hc4
      have hc4d := of_decide_eq_true hc4
      have hD := stepV_no (s := x) (i := i) (by omega)
      refine c_seq ?_
      refine c_region ?_
      refine t_q (q_cast (v' := .agg x.cells.toArray) (q_load_blk Try.isAgg35 Try.sizeOf35 rfl (hS.blk (by repeat first | exact .here _ _ | assumption | apply Pick.there)) rfl) (by rfl)) ?_
      refine t_store (v := (.agg _)) Try.sizeOf35 hS (by repeat first | exact .here _ _ | assumption | apply Pick.there) rfl rfl rfl rfl rfl rfl (fun w hS => ?_)
      replace hS := hS.recast (congrArg (blkA g4 35) (rset_full (vs := x.cells) rfl))
      refine t_q (q_assign) ?_
      refine t_nil ?_
      refine c_ret ?_
      refine r_two rfl (res1_cellN Try.isAgg35 Try.sizeOf35 rfl (hS.blk (by repeat first | exact .here _ _ | assumption | apply Pick.there)) rfl) rfl ?_
      rw [hD]
      exact ⟨rfl, hS.nil⟩
    · intro hc4
      have hc4d := of_decide_eq_false hc4
      have hD := stepV_yes (s := x) (i := i) (by omega)
      refine c_skip ?_
      refine c_seq ?_
      refine c_region ?_
      refine t_q (q_fieldAddr 2 Try.runUnderlying35 rfl Try.sizeOf3 (by decide) rfl rfl) ?_
      refine t_q (q_load1 Try.isAgg3 rfl (hS.cell (by repeat first | exact .here _ _ | assumption | apply Pick.there) rfl)) ?_
      refine t_q (q_fieldAddr 0 Try.runUnderlying35 rfl Try.sizeOf3 (by decide) rfl rfl) ?_
      refine t_q (q_load1 Try.isAgg3 rfl (hS.cell (by repeat first | exact .here _ _ | assumption | apply Pick.there) rfl)) ?_
      refine t_q (q_build (qs := [(0, 1), (1, 1), (2, 1), (3, 1), (4, 1)]) [(.int _ _), (.int _ _), (.int _ _), (.int _ _), (.int _ _)] Try.zeroValue35 Try.runUnderlying35 ⟨rfl, Try.sizeOf3, rfl, Try.sizeOf3, rfl, Try.sizeOf3, rfl, Try.sizeOf26, rfl, Try.sizeOf3, trivial⟩ rfl rfl) ?_
      refine t_store (v := (.agg _)) Try.sizeOf35 hS (by repeat first | exact .here _ _ | assumption | apply Pick.there) rfl rfl rfl rfl rfl rfl (fun w hS => ?_)
      replace hS := hS.recast (congrArg (blkA g4 35) (rset_full (vs := (⟨x.pending, x.active, 0, 0, 0⟩ : StV).cells) rfl))
      refine t_q (q_assign) ?_
      refine t_nil ?_
      refine c_ret ?_
      refine r_two rfl (res1_cellN Try.isAgg35 Try.sizeOf35 rfl (hS.blk (by repeat first | exact .here _ _ | assumption | apply Pick.there)) rfl) rfl ?_
      rw [hD]
      exact ⟨rfl, hS.nil⟩
set_option maxRecDepth 100000 in
theorem due_calls {x : StV} {i : Int} : Calls Try.prog 27 #[.agg x.cells.toArray, .int .u64 i] W fun e w' => e = .returned (.int .i64 (stepV x i).1.active) ∧ St W w' [] := by
  have hS := St.init W
  refine calls_of_wpE (args := [_, _]) Try.func27 rfl rfl rfl ?_
  refine c_seq ?_
  refine c_region ?_
  refine t_box (v := (.agg _)) rfl rfl hS (fun g2 w hS => ?_)
  replace hS := hS.recast (show _ = blkA g2 28 [.int .i64 x.active, .int .i64 x.previous, .int .i64 x.pending, .int .u64 x.at_, .int .i64 x.shadow] from rfl)
  refine t_q (q_assign) ?_
  refine t_nil ?_
  refine c_seq ?_
  refine c_region ?_
  refine t_q (q_cast (v' := .agg x.cells.toArray) (q_load_blk Try.isAgg28 Try.sizeOf28 rfl (hS.blk (by repeat first | exact .here _ _ | assumption | apply Pick.there)) rfl) (by rfl)) ?_
  refine t_q (q_mv (.int _ _) rfl) ?_
  refine t_call Try.call18 (step_calls (x := x) (i := i)) rfl ?_
  rintro e w ⟨rfl, hT⟩
  refine ⟨_, rfl, ?_⟩
  replace hS := hS.after hT
  refine t_q (q_mv (.tuple _) rfl) ?_
  refine t_q (q_extract rfl rfl) ?_
  refine t_q (q_extract rfl rfl) ?_
  refine t_alloc Try.zeroValue28 rfl hS (fun g5 w hS => ?_)
  refine t_store (v := (.agg _)) Try.sizeOf28 hS (by repeat first | exact .here _ _ | assumption | apply Pick.there) rfl rfl rfl rfl rfl rfl (fun w hS => ?_)
  replace hS := hS.recast (congrArg (blkA g5 28) (rset_full (vs := (stepV x i).1.cells) rfl))
  replace hS := hS.recast (show _ = blkA g5 28 [.int .i64 (stepV x i).1.active, .int .i64 (stepV x i).1.previous, .int .i64 (stepV x i).1.pending, .int .u64 (stepV x i).1.at_, .int .i64 (stepV x i).1.shadow] from rfl)
  refine t_q (q_as (.bool _) rfl) ?_
  refine t_nil ?_
  refine c_seq ?_
  refine c_region ?_
  refine t_q (q_fieldAddr 0 Try.runUnderlying28 rfl Try.sizeOf3 (by decide) rfl rfl) ?_
  refine t_q (q_load1 Try.isAgg3 rfl (hS.cell (by repeat first | exact .here _ _ | assumption | apply Pick.there) rfl)) ?_
  refine t_q (q_as (.int _ _) rfl) ?_
  refine t_nil ?_
  refine c_ret ?_
  refine r_one rfl rfl ?_
  exact ⟨rfl, hS.nil⟩
set_option maxRecDepth 100000 in
theorem qdue_calls {x : StV} {i : Int} : Calls Try.prog 28 #[.agg x.cells.toArray, .int .u64 i] W fun e w' => e = .returned (.int .i64 (stepV x i).1.active) ∧ St W w' [] := by
  have hS := St.init W
  refine calls_of_wpE (args := [_, _]) Try.func28 rfl rfl rfl ?_
  refine c_seq ?_
  refine c_region ?_
  refine t_box (v := (.agg _)) rfl rfl hS (fun g2 w hS => ?_)
  replace hS := hS.recast (show _ = blkA g2 35 [.int .i64 x.active, .int .i64 x.previous, .int .i64 x.pending, .int .u64 x.at_, .int .i64 x.shadow] from rfl)
  refine t_q (q_assign) ?_
  refine t_nil ?_
  refine c_seq ?_
  refine c_seq ?_
  refine c_region ?_
  refine t_q (q_fieldAddr 2 Try.runUnderlying35 rfl Try.sizeOf3 (by decide) rfl rfl) ?_
  refine t_q (q_load1 Try.isAgg3 rfl (hS.cell (by repeat first | exact .here _ _ | assumption | apply Pick.there) rfl)) ?_
  refine t_q (q_neq rfl rfl) ?_
  refine t_q (q_mv (.bool _) rfl) ?_
  refine t_case 8 rfl ?_ ?_
  · intro hg2
    have hg2d := of_decide_eq_true hg2
    refine t_yes rfl rfl hg2 ?_
    refine t_q (q_fieldAddr 3 Try.runUnderlying35 rfl Try.sizeOf26 (by decide) rfl rfl) ?_
    refine t_yes rfl rfl hg2 ?_
    refine t_q (q_load1 Try.isAgg26 rfl (hS.cell (by repeat first | exact .here _ _ | assumption | apply Pick.there) rfl)) ?_
    refine t_yes rfl rfl hg2 ?_
    refine t_q (q_mv (.int _ _) rfl) ?_
    refine t_yes rfl rfl hg2 ?_
    refine t_q (q_eql rfl rfl) ?_
    refine t_q (q_pick_t rfl hg2) ?_
    refine t_nil ?_
    refine c_cond rfl ?_ ?_
    · intro hc4
      have hc4d := of_decide_eq_true hc4
      have hD := stepV_yes (s := x) (i := i) (by omega)
      refine c_seq ?_
      refine c_region ?_
      refine t_q (q_fieldAddr 2 Try.runUnderlying35 rfl Try.sizeOf3 (by decide) rfl rfl) ?_
      refine t_q (q_load1 Try.isAgg3 rfl (hS.cell (by repeat first | exact .here _ _ | assumption | apply Pick.there) rfl)) ?_
      refine t_q (q_as (.int _ _) rfl) ?_
      refine t_nil ?_
      refine c_ret ?_
      refine r_one rfl rfl ?_
      rw [hD]
      exact ⟨rfl, hS.nil⟩
    · intro hc4
      have hc4d := of_decide_eq_false hc4
      have hD := stepV_no (s := x) (i := i) (by omega)
      refine c_skip ?_
      refine c_seq ?_
      refine c_region ?_
      refine t_q (q_fieldAddr 0 Try.runUnderlying35 rfl Try.sizeOf3 (by decide) rfl rfl) ?_
      refine t_q (q_load1 Try.isAgg3 rfl (hS.cell (by repeat first | exact .here _ _ | assumption | apply Pick.there) rfl)) ?_
      refine t_q (q_as (.int _ _) rfl) ?_
      refine t_nil ?_
      refine c_ret ?_
      refine r_one rfl rfl ?_
      rw [hD]
      exact ⟨rfl, hS.nil⟩
  · intro hg2
    have hg2d := of_decide_eq_false hg2
    refine t_no rfl rfl (by rw [hg2]; decide) ?_
    refine t_no rfl rfl (by rw [hg2]; decide) ?_
    refine t_no rfl rfl (by rw [hg2]; decide) ?_
    refine t_no rfl rfl (by rw [hg2]; decide) ?_
    refine t_q (q_pick_f rfl hg2) ?_
    refine t_nil ?_
    refine c_cond_f rfl rfl ?_
    have hD := stepV_no (s := x) (i := i) (by omega)
    refine c_skip ?_
    refine c_seq ?_
    refine c_region ?_
    refine t_q (q_fieldAddr 0 Try.runUnderlying35 rfl Try.sizeOf3 (by decide) rfl rfl) ?_
    refine t_q (q_load1 Try.isAgg3 rfl (hS.cell (by repeat first | exact .here _ _ | assumption | apply Pick.there) rfl)) ?_
    refine t_q (q_as (.int _ _) rfl) ?_
    refine t_nil ?_
    refine c_ret ?_
    refine r_one rfl rfl ?_
    rw [hD]
    exact ⟨rfl, hS.nil⟩
set_option maxRecDepth 100000 in
theorem back_calls {x : StV} : Calls Try.prog 81 #[.agg x.cells.toArray] W fun e w' => e = .returned (.tuple #[.agg (backV x).1.cells.toArray, .int .i64 (backV x).2]) ∧ St W w' [] := by
  have hS := St.init W
  refine calls_of_wpE (args := [_]) Try.func81 rfl rfl rfl ?_
  refine c_seq ?_
  refine c_region ?_
  refine t_box (v := (.agg _)) rfl rfl hS (fun g1 w hS => ?_)
  replace hS := hS.recast (show _ = blkA g1 28 [.int .i64 x.active, .int .i64 x.previous, .int .i64 x.pending, .int .u64 x.at_, .int .i64 x.shadow] from rfl)
  refine t_alloc Try.zeroValue28 rfl hS (fun g2 w hS => ?_)
  refine t_q (q_assign) ?_
  refine t_nil ?_
  refine c_seq ?_
  refine c_block ?_
  refine c_seq ?_
  refine c_region ?_
  refine t_q (q_fieldAddr 2 Try.runUnderlying28 rfl Try.sizeOf3 (by decide) rfl rfl) ?_
  refine t_q (q_load1 Try.isAgg3 rfl (hS.cell (by repeat first | exact .here _ _ | assumption | apply Pick.there) rfl)) ?_
  refine t_q (q_neq rfl rfl) ?_
  refine t_q (q_as (.bool _) rfl) ?_
  refine t_nil ?_
  refine c_cond rfl ?_ ?_
  · intro hc2
    have hc2d := of_decide_eq_true hc2
    have hD := backV_1 (s := x) (by omega)
    refine c_seq ?_
    refine c_region ?_
    refine t_q (q_fieldAddr 2 Try.runUnderlying28 rfl Try.sizeOf3 (by decide) rfl rfl) ?_
    refine t_store (v := (.int _ _)) Try.sizeOf3 hS (by repeat first | exact .here _ _ | assumption | apply Pick.there) rfl rfl rfl rfl rfl rfl (fun w hS => ?_)
    refine t_q (q_fieldAddr 3 Try.runUnderlying28 rfl Try.sizeOf26 (by decide) rfl rfl) ?_
    refine t_store (v := (.int _ _)) Try.sizeOf26 hS (by repeat first | exact .here _ _ | assumption | apply Pick.there) rfl rfl rfl rfl rfl rfl (fun w hS => ?_)
    replace hS := hS.recast (show blkA g1 28 _ = blkA g1 28 [.int .i64 ({ x with pending := 0, at_ := 0 } : StV).active, .int .i64 ({ x with pending := 0, at_ := 0 } : StV).previous, .int .i64 ({ x with pending := 0, at_ := 0 } : StV).pending, .int .u64 ({ x with pending := 0, at_ := 0 } : StV).at_, .int .i64 ({ x with pending := 0, at_ := 0 } : StV).shadow] from rfl)
    refine t_nil ?_
    refine c_seq ?_
    refine c_region ?_
    refine t_q (q_cast (v' := .agg ({ x with pending := 0, at_ := 0 } : StV).cells.toArray) (q_load_blk Try.isAgg28 Try.sizeOf28 rfl (hS.blk (by repeat first | exact .here _ _ | assumption | apply Pick.there)) rfl) (by rfl)) ?_
    refine t_store (v := (.agg _)) Try.sizeOf28 hS (by repeat first | exact .here _ _ | assumption | apply Pick.there) rfl rfl rfl rfl rfl rfl (fun w hS => ?_)
    replace hS := hS.recast (congrArg (blkA g2 28) (rset_full (vs := ({ x with pending := 0, at_ := 0 } : StV).cells) rfl))
    refine t_q (q_assign) ?_
    refine t_nil ?_
    refine c_ret ?_
    refine r_two rfl (res1_cellN Try.isAgg28 Try.sizeOf28 rfl (hS.blk (by repeat first | exact .here _ _ | assumption | apply Pick.there)) rfl) rfl ?_
    rw [hD]
    exact ⟨rfl, hS.nil⟩
  · intro hc2
    have hc2d := of_decide_eq_false hc2
    have h1 : ¬ x.pending ≠ 0 := by omega
    refine c_seq ?_
    refine c_region ?_
    refine t_q (q_fieldAddr 1 Try.runUnderlying28 rfl Try.sizeOf3 (by decide) rfl rfl) ?_
    refine t_q (q_load1 Try.isAgg3 rfl (hS.cell (by repeat first | exact .here _ _ | assumption | apply Pick.there) rfl)) ?_
    refine t_q (q_eql rfl rfl) ?_
    refine t_q (q_as (.bool _) rfl) ?_
    refine t_nil ?_
    refine c_cond rfl ?_ ?_
    · intro hc4
      have hc4d := of_decide_eq_true hc4
      have hD := backV_2 (s := x) h1 (by omega)
      refine c_seq ?_
      refine c_region ?_
      refine t_q (q_cast (v' := .agg x.cells.toArray) (q_load_blk Try.isAgg28 Try.sizeOf28 rfl (hS.blk (by repeat first | exact .here _ _ | assumption | apply Pick.there)) rfl) (by rfl)) ?_
      refine t_store (v := (.agg _)) Try.sizeOf28 hS (by repeat first | exact .here _ _ | assumption | apply Pick.there) rfl rfl rfl rfl rfl rfl (fun w hS => ?_)
      replace hS := hS.recast (congrArg (blkA g2 28) (rset_full (vs := x.cells) rfl))
      refine t_q (q_assign) ?_
      refine t_nil ?_
      refine c_ret ?_
      refine r_two rfl (res1_cellN Try.isAgg28 Try.sizeOf28 rfl (hS.blk (by repeat first | exact .here _ _ | assumption | apply Pick.there)) rfl) rfl ?_
      rw [hD]
      exact ⟨rfl, hS.nil⟩
    · intro hc4
      have hc4d := of_decide_eq_false hc4
      have hD := backV_3 (s := x) h1 (by omega)
      refine c_skip ?_
      refine c_seq ?_
      refine c_region ?_
      refine t_q (q_fieldAddr 1 Try.runUnderlying28 rfl Try.sizeOf3 (by decide) rfl rfl) ?_
      refine t_q (q_load1 Try.isAgg3 rfl (hS.cell (by repeat first | exact .here _ _ | assumption | apply Pick.there) rfl)) ?_
      refine t_q (q_build (qs := [(0, 1), (1, 1), (2, 1), (3, 1), (4, 1)]) [(.int _ _), (.int _ _), (.int _ _), (.int _ _), (.int _ _)] Try.zeroValue28 Try.runUnderlying28 ⟨rfl, Try.sizeOf3, rfl, Try.sizeOf3, rfl, Try.sizeOf3, rfl, Try.sizeOf26, rfl, Try.sizeOf3, trivial⟩ rfl rfl) ?_
      refine t_store (v := (.agg _)) Try.sizeOf28 hS (by repeat first | exact .here _ _ | assumption | apply Pick.there) rfl rfl rfl rfl rfl rfl (fun w hS => ?_)
      replace hS := hS.recast (congrArg (blkA g2 28) (rset_full (vs := (⟨x.previous, 0, 0, 0, 0⟩ : StV).cells) rfl))
      refine t_q (q_assign) ?_
      refine t_nil ?_
      refine c_ret ?_
      refine r_two rfl (res1_cellN Try.isAgg28 Try.sizeOf28 rfl (hS.blk (by repeat first | exact .here _ _ | assumption | apply Pick.there)) rfl) rfl ?_
      rw [hD]
      exact ⟨rfl, hS.nil⟩
end Go.Proofs.Ytmgobaojioaioaa
