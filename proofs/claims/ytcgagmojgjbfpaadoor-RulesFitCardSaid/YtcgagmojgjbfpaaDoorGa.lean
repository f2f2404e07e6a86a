/- Numbers of 136 bits: the document's. -/
import Derived.Test.YtcgagmojgjbfpaaDoorQ
import Derived.Test.YtcgagmojgjbfpaaDoorFc
namespace Go.Proofs.YtcgagmojgjbfpaaDoor
open Go Go.RowKit Go.Lib
variable {W : World}
/-- a number of 136 bits and a sign, as its cells -/
def nF (f : Nat → Bool) (s : Bool) : List Value := (List.range 136).map (fun i => .bool (f i)) ++ [.bool s]
def nB (v : BitVec 136) (s : Bool) : List Value := nF v.getLsbD s
theorem nF_len (f : Nat → Bool) (s : Bool) : (nF f s).length = 137 := by unfold nF; rw [List.length_append, List.length_map, List.length_range]; rfl
theorem nB_len (v : BitVec 136) (s : Bool) : (nB v s).length = 137 := nF_len _ _
theorem nF_at {f : Nat → Bool} {s : Bool} {i o : Nat} (hi : i < 136) (ho : o = i) : (nF f s)[o]? = some (.bool (f i)) := by
  subst ho
  unfold nF
  rw [List.getElem?_append_left (by rw [List.length_map, List.length_range]; exact hi), List.getElem?_map, List.getElem?_range hi]
  rfl
theorem nB_at {v : BitVec 136} {s : Bool} {i o : Nat} (hi : i < 136) (ho : o = i) : (nB v s)[o]? = some (.bool (v.getLsbD i)) := nF_at hi ho
theorem nF_neg {f : Nat → Bool} {s : Bool} : (nF f s)[136]? = some (.bool s) := by
  unfold nF
  rw [List.getElem?_append_right (by simp), List.length_map, List.length_range]
  rfl
theorem nB_neg {v : BitVec 136} {s : Bool} : (nB v s)[136]? = some (.bool s) := nF_neg
theorem nF_congr {f g : Nat → Bool} {s : Bool} (h : ∀ i, i < 136 → f i = g i) : nF f s = nF g s := by
  unfold nF
  congr 1
  exact List.map_congr_left fun i hi => by rw [h i (List.mem_range.1 hi)]
theorem nF_set {f g : Nat → Bool} {s b : Bool} {i o : Nat} (hi : i < 136) (ho : o = i) (h : ∀ k, k < 136 → g k = if k = i then b else f k) : setN (nF f s) o [.bool b] = nF g s := by
  subst ho
  show List.set _ _ _ = _
  unfold nF
  rw [List.set_append_left _ _ (by rw [List.length_map, List.length_range]; exact hi)]
  congr 1
  apply List.ext_getElem
  · rw [List.length_set, List.length_map, List.length_map]
  · intro k h1 h2
    rw [List.length_set, List.length_map, List.length_range] at h1
    rw [List.getElem_set, List.getElem_map, List.getElem_map, List.getElem_range, h k h1]
    by_cases hk : o = k
    · rw [if_pos hk, if_pos hk.symm]
    · rw [if_neg hk, if_neg (fun e => hk e.symm)]
theorem nF_sign {f : Nat → Bool} {s b : Bool} : setN (nF f s) 136 [.bool b] = nF f b := by
  show List.set _ _ _ = _
  unfold nF
  rw [List.set_append_right _ _ (by simp), List.length_map, List.length_range]
  rfl
theorem nB_sign {v : BitVec 136} {s b : Bool} : setN (nB v s) 136 [.bool b] = nB v b := nF_sign
theorem nB_of {f : Nat → Bool} {s : Bool} {v : BitVec 136} (h : ∀ i, i < 136 → f i = v.getLsbD i) : nF f s = nB v s := nF_congr h
/-- the bits below a place -/
def loB (v : BitVec 136) (j : Nat) (i : Nat) : Bool := decide (i < j) && v.getLsbD i
theorem loB_zero (v : BitVec 136) : ∀ i, loB v 0 i = false := fun i => by unfold loB; simp
theorem loB_step {v : BitVec 136} {j : Nat} {b : Bool} (h : v.getLsbD j = b) : ∀ k, k < 136 → loB v (j + 1) k = if k = j then b else loB v j k := fun k _ => by
  unfold loB
  by_cases hk : k = j
  · subst hk; rw [if_pos rfl, h, decide_eq_true (Nat.lt_succ_self _), Bool.true_and]
  · rw [if_neg hk]
    congr 1
    rw [decide_eq_decide]
    omega
theorem loB_all (v : BitVec 136) : ∀ i, i < 136 → loB v 136 i = v.getLsbD i := fun i hi => by unfold loB; rw [decide_eq_true hi, Bool.true_and]
theorem bit_add {v w : BitVec 136} {j : Nat} (h : j < 136) : (v + w).getLsbD j = (v.getLsbD j ^^ (w.getLsbD j ^^ BitVec.carry j v w false)) := BitVec.getLsbD_add h v w
/-- whose bits count for how much -/
def bi (b : Bool) : Int := if b then 1 else 0
/-- a difference: what is borrowed at a place -/
def brw (v w : BitVec 136) (j : Nat) : Bool := BitVec.carry j (v - w) w false
theorem brw_zero (v w : BitVec 136) : brw v w 0 = false := BitVec.carry_zero
theorem sub_bit {v w : BitVec 136} {j : Nat} (h : j < 136) : (v - w).getLsbD j = (v.getLsbD j ^^ (w.getLsbD j ^^ brw v w j)) := by
  have h1 : v.getLsbD j = ((v - w).getLsbD j ^^ (w.getLsbD j ^^ brw v w j)) := by
    have h2 := bit_add (v := v - w) (w := w) h
    rw [BitVec.sub_add_cancel] at h2
    exact h2
  rw [h1]
  cases (v - w).getLsbD j <;> cases w.getLsbD j <;> cases brw v w j <;> rfl
theorem sub_brw {v w : BitVec 136} {j : Nat} (h : j < 136) : brw v w (j + 1) = decide (bi (v.getLsbD j) - bi (w.getLsbD j) - bi (brw v w j) < 0) := by
  have h1 : brw v w (j + 1) = ((v - w).getLsbD j).atLeastTwo (w.getLsbD j) (brw v w j) := BitVec.carry_succ j _ _ _
  rw [h1, sub_bit h]
  cases v.getLsbD j <;> cases w.getLsbD j <;> cases brw v w j <;> rfl
theorem mod_bit (b j : Nat) : b % 2 ^ (j + 1) = b % 2 ^ j + 2 ^ j * (b / 2 ^ j % 2) := by rw [Nat.pow_succ, Nat.mod_mul]
theorem lt_of_tb {x y i : Nat} (hx : x.testBit i = false) (hy : y.testBit i = true) (h : ∀ k, i < k → x.testBit k = y.testBit k) : x < y := by
  rw [Nat.testBit_eq_decide_div_mod_eq] at hx hy
  have h1 := of_decide_eq_false hx
  have h2 := of_decide_eq_true hy
  have h3 : x / 2 ^ (i + 1) = y / 2 ^ (i + 1) := Nat.eq_of_testBit_eq fun k => by
    rw [Nat.testBit_div_two_pow, Nat.testBit_div_two_pow]
    exact h _ (by omega)
  have hp : 0 < 2 ^ i := Nat.two_pow_pos i
  have e1 := Nat.div_add_mod x (2 ^ (i + 1))
  have e2 := Nat.div_add_mod y (2 ^ (i + 1))
  rw [mod_bit] at e1 e2
  rw [show x / 2 ^ i % 2 = 0 by omega, Nat.mul_zero, Nat.add_zero] at e1
  rw [h2, Nat.mul_one] at e2
  rw [h3] at e1
  have h4 := Nat.mod_lt x hp
  omega
theorem lt_bits {v w : BitVec 136} {j : Nat} (hj : j < 136) (h : ∀ i, j < i → i < 136 → v.getLsbD i = w.getLsbD i) (hne : v.getLsbD j ≠ w.getLsbD j) : decide (v.toNat < w.toNat) = w.getLsbD j := by
  have hi : ∀ i, j < i → v.toNat.testBit i = w.toNat.testBit i := fun i hji => by
    rcases Nat.lt_or_ge i 136 with h1 | h1
    · exact h i hji h1
    · rw [Nat.testBit_lt_two_pow (Nat.lt_of_lt_of_le v.isLt (Nat.pow_le_pow_right (by decide) h1)), Nat.testBit_lt_two_pow (Nat.lt_of_lt_of_le w.isLt (Nat.pow_le_pow_right (by decide) h1))]
  cases hw : w.getLsbD j with
  | true =>
    have hv : v.getLsbD j = false := by rw [hw] at hne; simpa using hne
    exact decide_eq_true (lt_of_tb hv hw hi)
  | false =>
    have hv : v.getLsbD j = true := by rw [hw] at hne; simpa using hne
    exact decide_eq_false (Nat.not_lt.2 (Nat.le_of_lt (lt_of_tb hw hv fun i h => (hi i h).symm)))
theorem lt_none {v w : BitVec 136} (h : ∀ i, i < 136 → v.getLsbD i = w.getLsbD i) : decide (v.toNat < w.toNat) = false := by
  rw [BitVec.eq_of_getLsbD_eq (x := v) (y := w) (fun i hi => h i hi)]
  exact decide_eq_false (Nat.lt_irrefl _)
theorem shl_at {v : BitVec 136} {i : Nat} (h : i < 136) (h0 : 0 < i) : (v <<< 1).getLsbD i = v.getLsbD (i - 1) := by
  rw [BitVec.getLsbD_shiftLeft, decide_eq_true h, decide_eq_false (show ¬ i < 1 by omega)]
  rfl
theorem shl_zero {v : BitVec 136} : (v <<< 1).getLsbD 0 = false := by
  rw [BitVec.getLsbD_shiftLeft]
  simp
/-- the bits from a place on are one higher -/
def upB (v : BitVec 136) (j : Nat) (i : Nat) : Bool := if j < i then (v <<< 1).getLsbD i else v.getLsbD i
theorem upB_start (v : BitVec 136) : ∀ i, i < 136 → v.getLsbD i = upB v 135 i := fun i hi => by unfold upB; rw [if_neg (by omega)]
theorem upB_step {v : BitVec 136} {j : Nat} (h0 : 0 < j) (hj : j < 136) : ∀ k, k < 136 → upB v (j - 1) k = if k = j then v.getLsbD (j - 1) else upB v j k := fun k _ => by
  unfold upB
  by_cases hk : k = j
  · subst hk; rw [if_pos rfl, if_pos (by omega), shl_at hj h0]
  · rw [if_neg hk]
    by_cases h1 : j < k
    · rw [if_pos h1, if_pos (by omega)]
    · rw [if_neg h1, if_neg (by omega)]
theorem upB_end {v : BitVec 136} : ∀ k, k < 136 → (v <<< 1).getLsbD k = if k = 0 then false else upB v 0 k := fun k _ => by
  by_cases hk : k = 0
  · subst hk; rw [if_pos rfl, shl_zero]
  · rw [if_neg hk]; unfold upB; rw [if_pos (by omega)]
theorem tb_eq (u j : Nat) : decide (u / 2 ^ j % 2 = 1) = (BitVec.ofNat 136 u).getLsbD j ∨ 136 ≤ j := by
  rcases Nat.lt_or_ge j 136 with h | h
  · left
    rw [BitVec.getLsbD_ofNat, decide_eq_true h, Bool.true_and, Nat.testBit_eq_decide_div_mod_eq]
  · exact .inr h
theorem nought_iff {v : BitVec 136} : (∀ i, i < 136 → v.getLsbD i = false) ↔ v = 0#136 := by
  constructor
  · intro h
    exact BitVec.eq_of_getLsbD_eq fun i hi => by rw [h i hi]; simp
  · rintro rfl i _
    simp
/-- a product, bit by bit -/
def mulA (a b : Nat) (j : Nat) : BitVec 136 := BitVec.ofNat 136 (a * (b % 2 ^ j))
def mulX (a : Nat) (j : Nat) : BitVec 136 := BitVec.ofNat 136 (a * 2 ^ j)
theorem mul_zero (a b : Nat) : mulA a b 0 = 0#136 := by unfold mulA; rw [Nat.pow_zero, Nat.mod_one, Nat.mul_zero]
theorem mulX_zero (a : Nat) : mulX a 0 = BitVec.ofNat 136 a := by unfold mulX; rw [Nat.pow_zero, Nat.mul_one]
theorem mul_yes {a b j : Nat} (hj : j < 136) (h : (BitVec.ofNat 136 b).getLsbD j = true) : mulA a b j + mulX a j = mulA a b (j + 1) := by
  rcases tb_eq b j with h1 | h1
  · rw [h] at h1
    have h2 := of_decide_eq_true h1
    unfold mulA mulX
    rw [← BitVec.ofNat_add, mod_bit, h2, Nat.mul_one, Nat.mul_add]
  · omega
theorem mul_no {a b j : Nat} (hj : j < 136) (h : (BitVec.ofNat 136 b).getLsbD j = false) : mulA a b j = mulA a b (j + 1) := by
  rcases tb_eq b j with h1 | h1
  · rw [h] at h1
    have h2 := of_decide_eq_false h1
    unfold mulA
    rw [mod_bit, show b / 2 ^ j % 2 = 0 by omega, Nat.mul_zero, Nat.add_zero]
  · omega
theorem mul_twice (a j : Nat) : mulX a j <<< 1 = mulX a (j + 1) := by
  unfold mulX
  rw [BitVec.shiftLeft_eq_mul_twoPow, BitVec.twoPow_eq, Nat.pow_succ, ← Nat.mul_assoc, BitVec.ofNat_mul (a * 2 ^ j) 2]
  rfl
theorem mul_all {a b : Nat} (h : b < 2 ^ 64) : mulA a b 64 = BitVec.ofNat 136 (a * b) := by unfold mulA; rw [Nat.mod_eq_of_lt h]
theorem num_lt {a b : Nat} (ha : a < 2 ^ 136) (hb : b < 2 ^ 136) : decide ((BitVec.ofNat 136 a).toNat < (BitVec.ofNat 136 b).toNat) = decide (a < b) := by
  rw [BitVec.toNat_ofNat, BitVec.toNat_ofNat, Nat.mod_eq_of_lt ha, Nat.mod_eq_of_lt hb]
theorem prod_lt {a b : Nat} (ha : a < 2 ^ 64) (hb : b < 2 ^ 64) : a * b < 2 ^ 136 :=
  Nat.lt_of_lt_of_le (Nat.mul_lt_mul'' ha hb) (by decide)
theorem nBF_congr {v : BitVec 136} {g : Nat → Bool} {s : Bool} (h : ∀ i, i < 136 → v.getLsbD i = g i) : nB v s = nF g s := nF_congr h
theorem lo_small {n : Nat} (h : n < 18446744073709551616) : ∀ i, i < 136 → loB (BitVec.ofNat 136 n) 64 i = (BitVec.ofNat 136 n).getLsbD i := fun i hi => by
  unfold loB
  by_cases h1 : i < 64
  · rw [decide_eq_true h1, Bool.true_and]
  · rw [decide_eq_false h1, Bool.false_and, BitVec.getLsbD_ofNat, decide_eq_true hi, Bool.true_and, Nat.testBit_lt_two_pow (Nat.lt_of_lt_of_le h (show 18446744073709551616 ≤ 2 ^ i from Nat.pow_le_pow_right (n := 2) (i := 64) (by decide) (by omega)))]
theorem nF_one (f : Nat → Bool) (s : Bool) : allOne (nF f s) = true := by
  unfold allOne nF
  rw [List.all_append, Bool.and_eq_true]
  refine ⟨List.all_eq_true.2 fun v hv => ?_, rfl⟩
  obtain ⟨i, _, rfl⟩ := List.mem_map.1 hv
  rfl
theorem nB_one (v : BitVec 136) (s : Bool) : allOne (nB v s) = true := nF_one _ _
theorem nZ_zero : nF (fun _ => false) false = nB 0#136 false := nB_of fun i _ => by simp
attribute [local irreducible] blkA rowA nF nB loB upB mulA mulX brw
set_option maxRecDepth 100000 in
theorem nought_calls {v : BitVec 136} {s : Bool} : Calls Tryd.prog 110 #[.agg (nB v s).toArray] W fun e w' => e = .returned (.bool (decide (v = 0#136))) ∧ St W w' [] := by
  have hS := St.init W
  refine calls_of_wpE (args := [_]) Tryd.func110 rfl rfl rfl ?_
  refine c_seq ?_
  refine c_region ?_
  refine t_box (v := (.agg _)) rfl rfl hS (fun g1 w hS => ?_)
  replace hS := hS.recast (show _ = blkA g1 154 (nB v s) from rfl)
  refine t_q (q_assign) ?_
  refine t_nil ?_
  refine c_seq ?_
  refine c_seq ?_
  refine c_region ?_
  refine t_q (q_assign) ?_
  refine t_nil ?_
  refine c_block ?_
  refine c_loop [2, 3, 4, 5, 6, 7, 8, 9, 10, 11] (fun k σ w => ∃ j : Nat, σ 3 = .int .i64 (j : Int) ∧ j ≤ 136 ∧ 136 - j ≤ k ∧ (∀ i, i < j → v.getLsbD i = false) ∧ St W w [blkA g1 154 (nB v s)]) (136) rfl (⟨0, rfl, by omega, by omega, (fun i h => absurd h (by omega)), hS⟩) ?_
  skip
  rintro k σ w ⟨j, h3, hj, hk, hall, hS⟩
  refine c_know 3 h3 ?_
  clear h3
  refine c_seq ?_
  refine c_seq ?_
  refine c_region ?_
  refine t_q (q_mv (.int _ _) rfl) ?_
  refine t_q (q_lss rfl rfl) ?_
  refine t_nil ?_
  refine c_cond rfl ?_ ?_
  · intro hc2
    have hc2d := of_decide_eq_true hc2
    refine c_skip ?_
    refine c_seq ?_
    refine c_block ?_
    refine c_seq ?_
    refine c_region ?_
    refine t_q (q_mv (.int _ _) rfl) ?_
    refine t_q (q_fieldAddr 0 Tryd.runUnderlying154 rfl Tryd.sizeOf152 (by decide) rfl rfl) ?_
    first | refine t_q (q_arr_nat Tryd.runUnderlying152 Tryd.sizeOf4 rfl rfl (by omega)) ?_ | refine t_q (q_arr Tryd.runUnderlying152 Tryd.sizeOf4 rfl rfl (by omega)) ?_
    refine t_q (q_load1 Tryd.isAgg4 rfl (hS.cell (by repeat first | exact .here _ _ | assumption | apply Pick.there) (nB_at (i := j) (by omega) (by omega)))) ?_
    refine t_nil ?_
    refine c_cond rfl ?_ ?_
    · intro hc5
      have hD : v ≠ 0#136 := fun h => by have h1 := nought_iff.2 h j (by omega); rw [hc5] at h1; cases h1
      refine c_seq ?_
      refine c_region ?_
      refine t_q (q_assign) ?_
      refine t_nil ?_
      refine c_ret ?_
      refine r_one rfl rfl ?_
      have hN := hS.nil
      clear hS
      refine ⟨congrArg (fun b => Ending.returned (.bool b)) ?_, hN⟩
      first
        | exact (decide_eq_true hD).symm
        | exact (decide_eq_false hD).symm
    · intro hc5
      have hno : v.getLsbD j = false := hc5
      refine c_skip ?_
      refine c_region ?_
      refine t_q (q_mv (.int _ _) rfl) ?_
      refine t_q (q_add_i64 rfl rfl (by omega)) ?_
      refine t_q (q_as (.int _ _) rfl) ?_
      refine t_nil ?_
      exact ⟨k - 1, by omega, j + 1, rfl, by omega, by omega, (fun i hi => by
        rcases Nat.lt_or_ge i j with h | h
        · exact hall i h
        · obtain rfl : i = j := by omega
          exact hno), hS⟩
  · intro hc2
    have hc2d := of_decide_eq_false hc2
    have hD : v = 0#136 := nought_iff.1 fun i hi => hall i (by omega)
    refine c_exit ?_
    refine ite_t rfl ?_
    refine c_seq ?_
    refine c_region ?_
    refine t_q (q_assign) ?_
    refine t_nil ?_
    refine c_ret ?_
    refine r_one rfl rfl ?_
    have hN := hS.nil
    clear hS
    refine ⟨congrArg (fun b => Ending.returned (.bool b)) ?_, hN⟩
    first
      | exact (decide_eq_true hD).symm
      | exact (decide_eq_false hD).symm
set_option maxHeartbeats 2000000 in
set_option maxRecDepth 100000 in
theorem more_calls {a b : BitVec 136} {s t : Bool} : Calls Tryd.prog 107 #[.agg (nB a s).toArray, .agg (nB b t).toArray] W fun e w' => e = .returned (.agg (nB (a + b) false).toArray) ∧ St W w' [] := by
  have hS := St.init W
  refine calls_of_wpE (args := [_, _]) Tryd.func107 rfl rfl rfl ?_
  refine c_seq ?_
  refine c_region ?_
  refine t_box (v := (.agg _)) rfl rfl hS (fun g2 w hS => ?_)
  replace hS := hS.recast (show _ = blkA g2 154 (nB a s) from rfl)
  refine t_box (v := (.agg _)) rfl rfl hS (fun g3 w hS => ?_)
  replace hS := hS.recast (show _ = blkA g3 154 (nB b t) from rfl)
  refine t_alloc (cs := nF (fun _ : Nat => false) false) Tryd.zeroValue154 (by kernel_rfl) hS (fun g4 w hS => ?_)
  refine t_nil ?_
  refine c_seq ?_
  refine c_region ?_
  refine t_alloc (cs := nF (fun _ : Nat => false) false) Tryd.zeroValue154 (by kernel_rfl) hS (fun g5 w hS => ?_)
  refine t_nil ?_
  refine c_seq ?_
  refine c_region ?_
  refine t_q (q_assign) ?_
  refine t_nil ?_
  refine c_seq ?_
  refine c_seq ?_
  refine c_region ?_
  refine t_q (q_assign) ?_
  refine t_nil ?_
  refine c_block ?_
  refine c_loop [6, 7, 8, 9, 10, 11, 12, 13, 14, 15, 16, 17, 18, 19, 20, 21, 22, 23, 24, 25, 26, 27, 28, 29, 30, 31, 32, 33, 34, 35] (fun k σ w => ∃ j : Nat, σ 7 = .int .i64 (j : Int) ∧ σ 6 = .bool (BitVec.carry j a b false) ∧ j ≤ 136 ∧ 136 - j ≤ k ∧ St W w [blkA g5 154 (nF (loB (a + b) j) false), blkA g2 154 (nB a s), blkA g3 154 (nB b t), blkA g4 154 (nF (fun _ : Nat => false) false)]) (136) rfl (⟨0, rfl, congrArg Value.bool BitVec.carry_zero.symm, by omega, by omega, (((((hS.pick (A := blkA g4 154 (nF (fun _ : Nat => false) false)) (by repeat first | exact .here _ _ | assumption | apply Pick.there)).pick (A := blkA g3 154 (nB b t)) (by repeat first | exact .here _ _ | assumption | apply Pick.there)).pick (A := blkA g2 154 (nB a s)) (by repeat first | exact .here _ _ | assumption | apply Pick.there)).pick (A := blkA g5 154 (nF (fun _ : Nat => false) false)) (by repeat first | exact .here _ _ | assumption | apply Pick.there)).front4).recast (congrArg (blkA g5 154) (nF_congr fun i _ => (loB_zero (a + b) i).symm))⟩) ?_
  skip
  rintro k σ w ⟨j, h7, h6, hj, hk, hS⟩
  refine c_know 7 h7 ?_
  refine c_know 6 h6 ?_
  clear h7 h6
  refine c_seq ?_
  refine c_seq ?_
  refine c_region ?_
  refine t_q (q_mv (.int _ _) rfl) ?_
  refine t_q (q_lss rfl rfl) ?_
  refine t_nil ?_
  refine c_cond rfl ?_ ?_
  · intro hc2
    have hc2d := of_decide_eq_true hc2
    refine c_skip ?_
    refine c_seq ?_
    refine c_block ?_
    refine c_seq ?_
    refine c_region ?_
    refine t_q (q_assign) ?_
    refine t_nil ?_
    refine c_seq ?_
    refine c_seq ?_
    refine c_region ?_
    refine t_q (q_mv (.int _ _) rfl) ?_
    refine t_q (q_fieldAddr 0 Tryd.runUnderlying154 rfl Tryd.sizeOf152 (by decide) rfl rfl) ?_
    first | refine t_q (q_arr_nat Tryd.runUnderlying152 Tryd.sizeOf4 rfl rfl (by omega)) ?_ | refine t_q (q_arr Tryd.runUnderlying152 Tryd.sizeOf4 rfl rfl (by omega)) ?_
    refine t_q (q_load1 Tryd.isAgg4 rfl (hS.cell (by repeat first | exact .here _ _ | assumption | apply Pick.there) (nB_at (i := j) (by omega) (by omega)))) ?_
    refine t_nil ?_
    refine c_cond rfl ?_ ?_
    · intro hc5
      have ha : a.getLsbD j = true := hc5
      refine c_region ?_
      refine t_q (q_mv (.int _ _) rfl) ?_
      refine t_q (q_add_i64 rfl rfl (by omega)) ?_
      refine t_q (q_as (.int _ _) rfl) ?_
      refine t_nil ?_
      refine c_seq ?_
      refine c_seq ?_
      refine c_region ?_
      refine t_q (q_mv (.int _ _) rfl) ?_
      refine t_q (q_fieldAddr 0 Tryd.runUnderlying154 rfl Tryd.sizeOf152 (by decide) rfl rfl) ?_
      first | refine t_q (q_arr_nat Tryd.runUnderlying152 Tryd.sizeOf4 rfl rfl (by omega)) ?_ | refine t_q (q_arr Tryd.runUnderlying152 Tryd.sizeOf4 rfl rfl (by omega)) ?_
      refine t_q (q_load1 Tryd.isAgg4 rfl (hS.cell (by repeat first | exact .here _ _ | assumption | apply Pick.there) (nB_at (i := j) (by omega) (by omega)))) ?_
      refine t_nil ?_
      refine c_cond rfl ?_ ?_
      · intro hc8
        have hb : b.getLsbD j = true := hc8
        refine c_region ?_
        refine t_q (q_mv (.int _ _) rfl) ?_
        refine t_q (q_add_i64 rfl rfl (by omega)) ?_
        refine t_q (q_as (.int _ _) rfl) ?_
        refine t_nil ?_
        refine c_seq ?_
        refine c_seq ?_
        refine c_region ?_
        refine t_q (q_mv (.bool _) rfl) ?_
        refine t_nil ?_
        refine c_cond rfl ?_ ?_
        · intro hc10
          have hc : BitVec.carry j a b false = true := hc10
          refine c_region ?_
          refine t_q (q_mv (.int _ _) rfl) ?_
          refine t_q (q_add_i64 rfl rfl (by omega)) ?_
          refine t_q (q_as (.int _ _) rfl) ?_
          refine t_nil ?_
          refine c_seq ?_
          refine c_region ?_
          refine t_q (q_mv (.int _ _) rfl) ?_
          refine t_q (q_mv (.int _ _) rfl) ?_
          refine t_q (q_rem_n rfl rfl (by omega) (by omega)) ?_
          refine t_q (q_eql rfl rfl) ?_
          refine t_q (q_fieldAddr 0 Tryd.runUnderlying154 rfl Tryd.sizeOf152 (by decide) rfl rfl) ?_
          first | refine t_q (q_arr_nat Tryd.runUnderlying152 Tryd.sizeOf4 rfl rfl (by omega)) ?_ | refine t_q (q_arr Tryd.runUnderlying152 Tryd.sizeOf4 rfl rfl (by omega)) ?_
          refine t_store (v := (.bool _)) Tryd.sizeOf4 hS (by repeat first | exact .here _ _ | assumption | apply Pick.there) rfl rfl rfl rfl rfl (Nat.ble_eq_true_of_le (by rw [nF_len]; show 0 + j * 1 + 1 ≤ 137; omega)) (fun w hS => ?_)
          replace hS := hS.recast (congrArg (blkA g5 154) (nF_set (g := loB (a + b) (j + 1)) (i := j) (by omega) (by omega) (loB_step (by rw [bit_add (by omega), ha, hb, hc]; rfl))))
          refine t_nil ?_
          refine c_region ?_
          refine t_q (q_mv (.int _ _) rfl) ?_
          refine t_q (q_geq rfl rfl) ?_
          refine t_q (q_as (.bool _) rfl) ?_
          refine t_nil ?_
          refine c_region ?_
          refine t_q (q_mv (.int _ _) rfl) ?_
          refine t_q (q_add_i64 rfl rfl (by omega)) ?_
          refine t_q (q_as (.int _ _) rfl) ?_
          refine t_nil ?_
          exact ⟨k - 1, by omega, j + 1, rfl, congrArg Value.bool (show _ = BitVec.carry (j + 1) a b false from by rw [BitVec.carry_succ, ha, hb, hc]; rfl), by omega, by omega, ((((hS.pick (A := blkA g4 154 (nF (fun _ : Nat => false) false)) (by repeat first | exact .here _ _ | assumption | apply Pick.there)).pick (A := blkA g3 154 (nB b t)) (by repeat first | exact .here _ _ | assumption | apply Pick.there)).pick (A := blkA g2 154 (nB a s)) (by repeat first | exact .here _ _ | assumption | apply Pick.there)).pick (A := blkA g5 154 (nF (loB (a + b) (j + 1)) false)) (by repeat first | exact .here _ _ | assumption | apply Pick.there)).front4⟩
        · intro hc10
          have hc : BitVec.carry j a b false = false := hc10
          refine c_skip ?_
          refine c_seq ?_
          refine c_region ?_
          refine t_q (q_mv (.int _ _) rfl) ?_
          refine t_q (q_mv (.int _ _) rfl) ?_
          refine t_q (q_rem_n rfl rfl (by omega) (by omega)) ?_
          refine t_q (q_eql rfl rfl) ?_
          refine t_q (q_fieldAddr 0 Tryd.runUnderlying154 rfl Tryd.sizeOf152 (by decide) rfl rfl) ?_
          first | refine t_q (q_arr_nat Tryd.runUnderlying152 Tryd.sizeOf4 rfl rfl (by omega)) ?_ | refine t_q (q_arr Tryd.runUnderlying152 Tryd.sizeOf4 rfl rfl (by omega)) ?_
          refine t_store (v := (.bool _)) Tryd.sizeOf4 hS (by repeat first | exact .here _ _ | assumption | apply Pick.there) rfl rfl rfl rfl rfl (Nat.ble_eq_true_of_le (by rw [nF_len]; show 0 + j * 1 + 1 ≤ 137; omega)) (fun w hS => ?_)
          replace hS := hS.recast (congrArg (blkA g5 154) (nF_set (g := loB (a + b) (j + 1)) (i := j) (by omega) (by omega) (loB_step (by rw [bit_add (by omega), ha, hb, hc]; rfl))))
          refine t_nil ?_
          refine c_region ?_
          refine t_q (q_mv (.int _ _) rfl) ?_
          refine t_q (q_geq rfl rfl) ?_
          refine t_q (q_as (.bool _) rfl) ?_
          refine t_nil ?_
          refine c_region ?_
          refine t_q (q_mv (.int _ _) rfl) ?_
          refine t_q (q_add_i64 rfl rfl (by omega)) ?_
          refine t_q (q_as (.int _ _) rfl) ?_
          refine t_nil ?_
          exact ⟨k - 1, by omega, j + 1, rfl, congrArg Value.bool (show _ = BitVec.carry (j + 1) a b false from by rw [BitVec.carry_succ, ha, hb, hc]; rfl), by omega, by omega, ((((hS.pick (A := blkA g4 154 (nF (fun _ : Nat => false) false)) (by repeat first | exact .here _ _ | assumption | apply Pick.there)).pick (A := blkA g3 154 (nB b t)) (by repeat first | exact .here _ _ | assumption | apply Pick.there)).pick (A := blkA g2 154 (nB a s)) (by repeat first | exact .here _ _ | assumption | apply Pick.there)).pick (A := blkA g5 154 (nF (loB (a + b) (j + 1)) false)) (by repeat first | exact .here _ _ | assumption | apply Pick.there)).front4⟩
      · intro hc8
        have hb : b.getLsbD j = false := hc8
        refine c_skip ?_
        refine c_seq ?_
        refine c_seq ?_
        refine c_region ?_
        refine t_q (q_mv (.bool _) rfl) ?_
        refine t_nil ?_
        refine c_cond rfl ?_ ?_
        · intro hc18
          have hc : BitVec.carry j a b false = true := hc18
          refine c_region ?_
          refine t_q (q_mv (.int _ _) rfl) ?_
          refine t_q (q_add_i64 rfl rfl (by omega)) ?_
          refine t_q (q_as (.int _ _) rfl) ?_
          refine t_nil ?_
          refine c_seq ?_
          refine c_region ?_
          refine t_q (q_mv (.int _ _) rfl) ?_
          refine t_q (q_mv (.int _ _) rfl) ?_
          refine t_q (q_rem_n rfl rfl (by omega) (by omega)) ?_
          refine t_q (q_eql rfl rfl) ?_
          refine t_q (q_fieldAddr 0 Tryd.runUnderlying154 rfl Tryd.sizeOf152 (by decide) rfl rfl) ?_
          first | refine t_q (q_arr_nat Tryd.runUnderlying152 Tryd.sizeOf4 rfl rfl (by omega)) ?_ | refine t_q (q_arr Tryd.runUnderlying152 Tryd.sizeOf4 rfl rfl (by omega)) ?_
          refine t_store (v := (.bool _)) Tryd.sizeOf4 hS (by repeat first | exact .here _ _ | assumption | apply Pick.there) rfl rfl rfl rfl rfl (Nat.ble_eq_true_of_le (by rw [nF_len]; show 0 + j * 1 + 1 ≤ 137; omega)) (fun w hS => ?_)
          replace hS := hS.recast (congrArg (blkA g5 154) (nF_set (g := loB (a + b) (j + 1)) (i := j) (by omega) (by omega) (loB_step (by rw [bit_add (by omega), ha, hb, hc]; rfl))))
          refine t_nil ?_
          refine c_region ?_
          refine t_q (q_mv (.int _ _) rfl) ?_
          refine t_q (q_geq rfl rfl) ?_
          refine t_q (q_as (.bool _) rfl) ?_
          refine t_nil ?_
          refine c_region ?_
          refine t_q (q_mv (.int _ _) rfl) ?_
          refine t_q (q_add_i64 rfl rfl (by omega)) ?_
          refine t_q (q_as (.int _ _) rfl) ?_
          refine t_nil ?_
          exact ⟨k - 1, by omega, j + 1, rfl, congrArg Value.bool (show _ = BitVec.carry (j + 1) a b false from by rw [BitVec.carry_succ, ha, hb, hc]; rfl), by omega, by omega, ((((hS.pick (A := blkA g4 154 (nF (fun _ : Nat => false) false)) (by repeat first | exact .here _ _ | assumption | apply Pick.there)).pick (A := blkA g3 154 (nB b t)) (by repeat first | exact .here _ _ | assumption | apply Pick.there)).pick (A := blkA g2 154 (nB a s)) (by repeat first | exact .here _ _ | assumption | apply Pick.there)).pick (A := blkA g5 154 (nF (loB (a + b) (j + 1)) false)) (by repeat first | exact .here _ _ | assumption | apply Pick.there)).front4⟩
        · intro hc18
          have hc : BitVec.carry j a b false = false := hc18
          refine c_skip ?_
          refine c_seq ?_
          refine c_region ?_
          refine t_q (q_mv (.int _ _) rfl) ?_
          refine t_q (q_mv (.int _ _) rfl) ?_
          refine t_q (q_rem_n rfl rfl (by omega) (by omega)) ?_
          refine t_q (q_eql rfl rfl) ?_
          refine t_q (q_fieldAddr 0 Tryd.runUnderlying154 rfl Tryd.sizeOf152 (by decide) rfl rfl) ?_
          first | refine t_q (q_arr_nat Tryd.runUnderlying152 Tryd.sizeOf4 rfl rfl (by omega)) ?_ | refine t_q (q_arr Tryd.runUnderlying152 Tryd.sizeOf4 rfl rfl (by omega)) ?_
          refine t_store (v := (.bool _)) Tryd.sizeOf4 hS (by repeat first | exact .here _ _ | assumption | apply Pick.there) rfl rfl rfl rfl rfl (Nat.ble_eq_true_of_le (by rw [nF_len]; show 0 + j * 1 + 1 ≤ 137; omega)) (fun w hS => ?_)
          replace hS := hS.recast (congrArg (blkA g5 154) (nF_set (g := loB (a + b) (j + 1)) (i := j) (by omega) (by omega) (loB_step (by rw [bit_add (by omega), ha, hb, hc]; rfl))))
          refine t_nil ?_
          refine c_region ?_
          refine t_q (q_mv (.int _ _) rfl) ?_
          refine t_q (q_geq rfl rfl) ?_
          refine t_q (q_as (.bool _) rfl) ?_
          refine t_nil ?_
          refine c_region ?_
          refine t_q (q_mv (.int _ _) rfl) ?_
          refine t_q (q_add_i64 rfl rfl (by omega)) ?_
          refine t_q (q_as (.int _ _) rfl) ?_
          refine t_nil ?_
          exact ⟨k - 1, by omega, j + 1, rfl, congrArg Value.bool (show _ = BitVec.carry (j + 1) a b false from by rw [BitVec.carry_succ, ha, hb, hc]; rfl), by omega, by omega, ((((hS.pick (A := blkA g4 154 (nF (fun _ : Nat => false) false)) (by repeat first | exact .here _ _ | assumption | apply Pick.there)).pick (A := blkA g3 154 (nB b t)) (by repeat first | exact .here _ _ | assumption | apply Pick.there)).pick (A := blkA g2 154 (nB a s)) (by repeat first | exact .here _ _ | assumption | apply Pick.there)).pick (A := blkA g5 154 (nF (loB (a + b) (j + 1)) false)) (by repeat first | exact .here _ _ | assumption | apply Pick.there)).front4⟩
    · intro hc5
      have ha : a.getLsbD j = false := hc5
      refine c_skip ?_
      refine c_seq ?_
      refine c_seq ?_
      refine c_region ?_
      refine t_q (q_mv (.int _ _) rfl) ?_
      refine t_q (q_fieldAddr 0 Tryd.runUnderlying154 rfl Tryd.sizeOf152 (by decide) rfl rfl) ?_
      first | refine t_q (q_arr_nat Tryd.runUnderlying152 Tryd.sizeOf4 rfl rfl (by omega)) ?_ | refine t_q (q_arr Tryd.runUnderlying152 Tryd.sizeOf4 rfl rfl (by omega)) ?_
      refine t_q (q_load1 Tryd.isAgg4 rfl (hS.cell (by repeat first | exact .here _ _ | assumption | apply Pick.there) (nB_at (i := j) (by omega) (by omega)))) ?_
      refine t_nil ?_
      refine c_cond rfl ?_ ?_
      · intro hc27
        have hb : b.getLsbD j = true := hc27
        refine c_region ?_
        refine t_q (q_mv (.int _ _) rfl) ?_
        refine t_q (q_add_i64 rfl rfl (by omega)) ?_
        refine t_q (q_as (.int _ _) rfl) ?_
        refine t_nil ?_
        refine c_seq ?_
        refine c_seq ?_
        refine c_region ?_
        refine t_q (q_mv (.bool _) rfl) ?_
        refine t_nil ?_
        refine c_cond rfl ?_ ?_
        · intro hc29
          have hc : BitVec.carry j a b false = true := hc29
          refine c_region ?_
          refine t_q (q_mv (.int _ _) rfl) ?_
          refine t_q (q_add_i64 rfl rfl (by omega)) ?_
          refine t_q (q_as (.int _ _) rfl) ?_
          refine t_nil ?_
          refine c_seq ?_
          refine c_region ?_
          refine t_q (q_mv (.int _ _) rfl) ?_
          refine t_q (q_mv (.int _ _) rfl) ?_
          refine t_q (q_rem_n rfl rfl (by omega) (by omega)) ?_
          refine t_q (q_eql rfl rfl) ?_
          refine t_q (q_fieldAddr 0 Tryd.runUnderlying154 rfl Tryd.sizeOf152 (by decide) rfl rfl) ?_
          first | refine t_q (q_arr_nat Tryd.runUnderlying152 Tryd.sizeOf4 rfl rfl (by omega)) ?_ | refine t_q (q_arr Tryd.runUnderlying152 Tryd.sizeOf4 rfl rfl (by omega)) ?_
          refine t_store (v := (.bool _)) Tryd.sizeOf4 hS (by repeat first | exact .here _ _ | assumption | apply Pick.there) rfl rfl rfl rfl rfl (Nat.ble_eq_true_of_le (by rw [nF_len]; show 0 + j * 1 + 1 ≤ 137; omega)) (fun w hS => ?_)
          replace hS := hS.recast (congrArg (blkA g5 154) (nF_set (g := loB (a + b) (j + 1)) (i := j) (by omega) (by omega) (loB_step (by rw [bit_add (by omega), ha, hb, hc]; rfl))))
          refine t_nil ?_
          refine c_region ?_
          refine t_q (q_mv (.int _ _) rfl) ?_
          refine t_q (q_geq rfl rfl) ?_
          refine t_q (q_as (.bool _) rfl) ?_
          refine t_nil ?_
          refine c_region ?_
          refine t_q (q_mv (.int _ _) rfl) ?_
          refine t_q (q_add_i64 rfl rfl (by omega)) ?_
          refine t_q (q_as (.int _ _) rfl) ?_
          refine t_nil ?_
          exact ⟨k - 1, by omega, j + 1, rfl, congrArg Value.bool (show _ = BitVec.carry (j + 1) a b false from by rw [BitVec.carry_succ, ha, hb, hc]; rfl), by omega, by omega, ((((hS.pick (A := blkA g4 154 (nF (fun _ : Nat => false) false)) (by repeat first | exact .here _ _ | assumption | apply Pick.there)).pick (A := blkA g3 154 (nB b t)) (by repeat first | exact .here _ _ | assumption | apply Pick.there)).pick (A := blkA g2 154 (nB a s)) (by repeat first | exact .here _ _ | assumption | apply Pick.there)).pick (A := blkA g5 154 (nF (loB (a + b) (j + 1)) false)) (by repeat first | exact .here _ _ | assumption | apply Pick.there)).front4⟩
        · intro hc29
          have hc : BitVec.carry j a b false = false := hc29
          refine c_skip ?_
          refine c_seq ?_
          refine c_region ?_
          refine t_q (q_mv (.int _ _) rfl) ?_
          refine t_q (q_mv (.int _ _) rfl) ?_
          refine t_q (q_rem_n rfl rfl (by omega) (by omega)) ?_
          refine t_q (q_eql rfl rfl) ?_
          refine t_q (q_fieldAddr 0 Tryd.runUnderlying154 rfl Tryd.sizeOf152 (by decide) rfl rfl) ?_
          first | refine t_q (q_arr_nat Tryd.runUnderlying152 Tryd.sizeOf4 rfl rfl (by omega)) ?_ | refine t_q (q_arr Tryd.runUnderlying152 Tryd.sizeOf4 rfl rfl (by omega)) ?_
          refine t_store (v := (.bool _)) Tryd.sizeOf4 hS (by repeat first | exact .here _ _ | assumption | apply Pick.there) rfl rfl rfl rfl rfl (Nat.ble_eq_true_of_le (by rw [nF_len]; show 0 + j * 1 + 1 ≤ 137; omega)) (fun w hS => ?_)
          replace hS := hS.recast (congrArg (blkA g5 154) (nF_set (g := loB (a + b) (j + 1)) (i := j) (by omega) (by omega) (loB_step (by rw [bit_add (by omega), ha, hb, hc]; rfl))))
          refine t_nil ?_
          refine c_region ?_
          refine t_q (q_mv (.int _ _) rfl) ?_
          refine t_q (q_geq rfl rfl) ?_
          refine t_q (q_as (.bool _) rfl) ?_
          refine t_nil ?_
          refine c_region ?_
          refine t_q (q_mv (.int _ _) rfl) ?_
          refine t_q (q_add_i64 rfl rfl (by omega)) ?_
          refine t_q (q_as (.int _ _) rfl) ?_
          refine t_nil ?_
          exact ⟨k - 1, by omega, j + 1, rfl, congrArg Value.bool (show _ = BitVec.carry (j + 1) a b false from by rw [BitVec.carry_succ, ha, hb, hc]; rfl), by omega, by omega, ((((hS.pick (A := blkA g4 154 (nF (fun _ : Nat => false) false)) (by repeat first | exact .here _ _ | assumption | apply Pick.there)).pick (A := blkA g3 154 (nB b t)) (by repeat first | exact .here _ _ | assumption | apply Pick.there)).pick (A := blkA g2 154 (nB a s)) (by repeat first | exact .here _ _ | assumption | apply Pick.there)).pick (A := blkA g5 154 (nF (loB (a + b) (j + 1)) false)) (by repeat first | exact .here _ _ | assumption | apply Pick.there)).front4⟩
      · intro hc27
        have hb : b.getLsbD j = false := hc27
        refine c_skip ?_
        refine c_seq ?_
        refine c_seq ?_
        refine c_region ?_
        refine t_q (q_mv (.bool _) rfl) ?_
        refine t_nil ?_
        refine c_cond rfl ?_ ?_
        · intro hc37
          have hc : BitVec.carry j a b false = true := hc37
          refine c_region ?_
          refine t_q (q_mv (.int _ _) rfl) ?_
          refine t_q (q_add_i64 rfl rfl (by omega)) ?_
          refine t_q (q_as (.int _ _) rfl) ?_
          refine t_nil ?_
          refine c_seq ?_
          refine c_region ?_
          refine t_q (q_mv (.int _ _) rfl) ?_
          refine t_q (q_mv (.int _ _) rfl) ?_
          refine t_q (q_rem_n rfl rfl (by omega) (by omega)) ?_
          refine t_q (q_eql rfl rfl) ?_
          refine t_q (q_fieldAddr 0 Tryd.runUnderlying154 rfl Tryd.sizeOf152 (by decide) rfl rfl) ?_
          first | refine t_q (q_arr_nat Tryd.runUnderlying152 Tryd.sizeOf4 rfl rfl (by omega)) ?_ | refine t_q (q_arr Tryd.runUnderlying152 Tryd.sizeOf4 rfl rfl (by omega)) ?_
          refine t_store (v := (.bool _)) Tryd.sizeOf4 hS (by repeat first | exact .here _ _ | assumption | apply Pick.there) rfl rfl rfl rfl rfl (Nat.ble_eq_true_of_le (by rw [nF_len]; show 0 + j * 1 + 1 ≤ 137; omega)) (fun w hS => ?_)
          replace hS := hS.recast (congrArg (blkA g5 154) (nF_set (g := loB (a + b) (j + 1)) (i := j) (by omega) (by omega) (loB_step (by rw [bit_add (by omega), ha, hb, hc]; rfl))))
          refine t_nil ?_
          refine c_region ?_
          refine t_q (q_mv (.int _ _) rfl) ?_
          refine t_q (q_geq rfl rfl) ?_
          refine t_q (q_as (.bool _) rfl) ?_
          refine t_nil ?_
          refine c_region ?_
          refine t_q (q_mv (.int _ _) rfl) ?_
          refine t_q (q_add_i64 rfl rfl (by omega)) ?_
          refine t_q (q_as (.int _ _) rfl) ?_
          refine t_nil ?_
          exact ⟨k - 1, by omega, j + 1, rfl, congrArg Value.bool (show _ = BitVec.carry (j + 1) a b false from by rw [BitVec.carry_succ, ha, hb, hc]; rfl), by omega, by omega, ((((hS.pick (A := blkA g4 154 (nF (fun _ : Nat => false) false)) (by repeat first | exact .here _ _ | assumption | apply Pick.there)).pick (A := blkA g3 154 (nB b t)) (by repeat first | exact .here _ _ | assumption | apply Pick.there)).pick (A := blkA g2 154 (nB a s)) (by repeat first | exact .here _ _ | assumption | apply Pick.there)).pick (A := blkA g5 154 (nF (loB (a + b) (j + 1)) false)) (by repeat first | exact .here _ _ | assumption | apply Pick.there)).front4⟩
        · intro hc37
          have hc : BitVec.carry j a b false = false := hc37
          refine c_skip ?_
          refine c_seq ?_
          refine c_region ?_
          refine t_q (q_mv (.int _ _) rfl) ?_
          refine t_q (q_mv (.int _ _) rfl) ?_
          refine t_q (q_rem_n rfl rfl (by omega) (by omega)) ?_
          refine t_q (q_eql rfl rfl) ?_
          refine t_q (q_fieldAddr 0 Tryd.runUnderlying154 rfl Tryd.sizeOf152 (by decide) rfl rfl) ?_
          first | refine t_q (q_arr_nat Tryd.runUnderlying152 Tryd.sizeOf4 rfl rfl (by omega)) ?_ | refine t_q (q_arr Tryd.runUnderlying152 Tryd.sizeOf4 rfl rfl (by omega)) ?_
          refine t_store (v := (.bool _)) Tryd.sizeOf4 hS (by repeat first | exact .here _ _ | assumption | apply Pick.there) rfl rfl rfl rfl rfl (Nat.ble_eq_true_of_le (by rw [nF_len]; show 0 + j * 1 + 1 ≤ 137; omega)) (fun w hS => ?_)
          replace hS := hS.recast (congrArg (blkA g5 154) (nF_set (g := loB (a + b) (j + 1)) (i := j) (by omega) (by omega) (loB_step (by rw [bit_add (by omega), ha, hb, hc]; rfl))))
          refine t_nil ?_
          refine c_region ?_
          refine t_q (q_mv (.int _ _) rfl) ?_
          refine t_q (q_geq rfl rfl) ?_
          refine t_q (q_as (.bool _) rfl) ?_
          refine t_nil ?_
          refine c_region ?_
          refine t_q (q_mv (.int _ _) rfl) ?_
          refine t_q (q_add_i64 rfl rfl (by omega)) ?_
          refine t_q (q_as (.int _ _) rfl) ?_
          refine t_nil ?_
          exact ⟨k - 1, by omega, j + 1, rfl, congrArg Value.bool (show _ = BitVec.carry (j + 1) a b false from by rw [BitVec.carry_succ, ha, hb, hc]; rfl), by omega, by omega, ((((hS.pick (A := blkA g4 154 (nF (fun _ : Nat => false) false)) (by repeat first | exact .here _ _ | assumption | apply Pick.there)).pick (A := blkA g3 154 (nB b t)) (by repeat first | exact .here _ _ | assumption | apply Pick.there)).pick (A := blkA g2 154 (nB a s)) (by repeat first | exact .here _ _ | assumption | apply Pick.there)).pick (A := blkA g5 154 (nF (loB (a + b) (j + 1)) false)) (by repeat first | exact .here _ _ | assumption | apply Pick.there)).front4⟩
  · intro hc2
    have hc2d := of_decide_eq_false hc2
    obtain rfl : j = 136 := by omega
    refine c_exit ?_
    refine ite_t rfl ?_
    refine c_seq ?_
    replace hS := ((hS.pick (A := blkA g5 154 (nF (loB (a + b) 136) false)) (by repeat first | exact .here _ _ | assumption | apply Pick.there))).recast (congrArg (blkA g5 154) (nB_of (loB_all (a + b))))
    refine c_region ?_
    refine t_q (q_load_blk Tryd.isAgg154 Tryd.sizeOf154 rfl (hS.blk (by repeat first | exact .here _ _ | assumption | apply Pick.there)) (nB_len _ _)) ?_
    refine t_store (v := (.agg _)) (vs := nB (a + b) false) Tryd.sizeOf154 hS (by repeat first | exact .here _ _ | assumption | apply Pick.there) rfl rfl rfl (nB_len _ _) (nB_one _ _) (Nat.ble_eq_true_of_le (by rw [nF_len, nB_len]; decide)) (fun w hS => ?_)
    replace hS := hS.recast (congrArg (blkA g4 154) (rset_full (vs := nB (a + b) false) (by rw [nF_len, nB_len])))
    refine t_nil ?_
    refine c_ret ?_
    refine r_one rfl (res1_cellN Tryd.isAgg154 Tryd.sizeOf154 rfl (hS.blk (by repeat first | exact .here _ _ | assumption | apply Pick.there)) (nB_len _ _)) ?_
    exact ⟨rfl, hS.nil⟩
set_option maxHeartbeats 2000000 in
set_option maxRecDepth 100000 in
theorem lessn_calls {a b : BitVec 136} {s t : Bool} : Calls Tryd.prog 109 #[.agg (nB a s).toArray, .agg (nB b t).toArray] W fun e w' => e = .returned (.agg (nB (a - b) false).toArray) ∧ St W w' [] := by
  have hS := St.init W
  refine calls_of_wpE (args := [_, _]) Tryd.func109 rfl rfl rfl ?_
  refine c_seq ?_
  refine c_region ?_
  refine t_box (v := (.agg _)) rfl rfl hS (fun g2 w hS => ?_)
  replace hS := hS.recast (show _ = blkA g2 154 (nB a s) from rfl)
  refine t_box (v := (.agg _)) rfl rfl hS (fun g3 w hS => ?_)
  replace hS := hS.recast (show _ = blkA g3 154 (nB b t) from rfl)
  refine t_alloc (cs := nF (fun _ : Nat => false) false) Tryd.zeroValue154 (by kernel_rfl) hS (fun g4 w hS => ?_)
  refine t_nil ?_
  refine c_seq ?_
  refine c_region ?_
  refine t_alloc (cs := nF (fun _ : Nat => false) false) Tryd.zeroValue154 (by kernel_rfl) hS (fun g5 w hS => ?_)
  refine t_nil ?_
  refine c_seq ?_
  refine c_region ?_
  refine t_q (q_assign) ?_
  refine t_nil ?_
  refine c_seq ?_
  refine c_seq ?_
  refine c_region ?_
  refine t_q (q_assign) ?_
  refine t_nil ?_
  refine c_block ?_
  refine c_loop [6, 7, 8, 9, 10, 11, 12, 13, 14, 15, 16, 17, 18, 19, 20, 21, 22, 23, 24, 25, 26, 27, 28, 29, 30, 31, 32, 33, 34] (fun k σ w => ∃ j : Nat, σ 7 = .int .i64 (j : Int) ∧ σ 6 = .int .i64 (bi (brw a b j)) ∧ j ≤ 136 ∧ 136 - j ≤ k ∧ St W w [blkA g5 154 (nF (loB (a - b) j) false), blkA g2 154 (nB a s), blkA g3 154 (nB b t), blkA g4 154 (nF (fun _ : Nat => false) false)]) (136) rfl (⟨0, rfl, congrArg (Value.int .i64) (show _ = bi (brw a b 0) from by rw [brw_zero]; rfl), by omega, by omega, (((((hS.pick (A := blkA g4 154 (nF (fun _ : Nat => false) false)) (by repeat first | exact .here _ _ | assumption | apply Pick.there)).pick (A := blkA g3 154 (nB b t)) (by repeat first | exact .here _ _ | assumption | apply Pick.there)).pick (A := blkA g2 154 (nB a s)) (by repeat first | exact .here _ _ | assumption | apply Pick.there)).pick (A := blkA g5 154 (nF (fun _ : Nat => false) false)) (by repeat first | exact .here _ _ | assumption | apply Pick.there)).front4).recast (congrArg (blkA g5 154) (nF_congr fun i _ => (loB_zero (a - b) i).symm))⟩) ?_
  skip
  rintro k σ w ⟨j, h7, h6, hj, hk, hS⟩
  refine c_know 7 h7 ?_
  refine c_know 6 h6 ?_
  clear h7 h6
  refine c_seq ?_
  refine c_seq ?_
  refine c_region ?_
  refine t_q (q_mv (.int _ _) rfl) ?_
  refine t_q (q_lss rfl rfl) ?_
  refine t_nil ?_
  refine c_cond rfl ?_ ?_
  · intro hc2
    have hc2d := of_decide_eq_true hc2
    refine c_skip ?_
    refine c_seq ?_
    refine c_block ?_
    refine c_seq ?_
    refine c_region ?_
    refine t_q (q_assign) ?_
    refine t_nil ?_
    refine c_seq ?_
    refine c_seq ?_
    refine c_region ?_
    refine t_q (q_mv (.int _ _) rfl) ?_
    refine t_q (q_fieldAddr 0 Tryd.runUnderlying154 rfl Tryd.sizeOf152 (by decide) rfl rfl) ?_
    first | refine t_q (q_arr_nat Tryd.runUnderlying152 Tryd.sizeOf4 rfl rfl (by omega)) ?_ | refine t_q (q_arr Tryd.runUnderlying152 Tryd.sizeOf4 rfl rfl (by omega)) ?_
    refine t_q (q_load1 Tryd.isAgg4 rfl (hS.cell (by repeat first | exact .here _ _ | assumption | apply Pick.there) (nB_at (i := j) (by omega) (by omega)))) ?_
    refine t_nil ?_
    refine c_cond rfl ?_ ?_
    · intro hc5
      have ha : a.getLsbD j = true := hc5
      refine c_region ?_
      refine t_q (q_assign) ?_
      refine t_nil ?_
      refine c_seq ?_
      refine c_seq ?_
      refine c_region ?_
      refine t_q (q_mv (.int _ _) rfl) ?_
      refine t_q (q_fieldAddr 0 Tryd.runUnderlying154 rfl Tryd.sizeOf152 (by decide) rfl rfl) ?_
      first | refine t_q (q_arr_nat Tryd.runUnderlying152 Tryd.sizeOf4 rfl rfl (by omega)) ?_ | refine t_q (q_arr Tryd.runUnderlying152 Tryd.sizeOf4 rfl rfl (by omega)) ?_
      refine t_q (q_load1 Tryd.isAgg4 rfl (hS.cell (by repeat first | exact .here _ _ | assumption | apply Pick.there) (nB_at (i := j) (by omega) (by omega)))) ?_
      refine t_nil ?_
      refine c_cond rfl ?_ ?_
      · intro hc8
        have hb : b.getLsbD j = true := hc8
        refine c_region ?_
        refine t_q (q_mv (.int _ _) rfl) ?_
        refine t_q (q_sub_i64 rfl rfl (by omega)) ?_
        refine t_q (q_as (.int _ _) rfl) ?_
        refine t_nil ?_
        refine c_seq ?_
        have hbq : 0 ≤ bi (brw a b j) ∧ bi (brw a b j) ≤ 1 := by unfold bi; split <;> decide
        refine c_region ?_
        refine t_q (q_mv (.int _ _) rfl) ?_
        refine t_q (q_mv (.int _ _) rfl) ?_
        refine t_q (q_sub_i64 rfl rfl (by omega)) ?_
        refine t_q (q_as (.int _ _) rfl) ?_
        refine t_nil ?_
        refine c_seq ?_
        refine c_region ?_
        refine t_q (q_assign) ?_
        refine t_nil ?_
        refine c_seq ?_
        refine c_seq ?_
        refine c_region ?_
        refine t_q (q_mv (.int _ _) rfl) ?_
        refine t_q (q_lss rfl rfl) ?_
        refine t_nil ?_
        refine c_cond rfl ?_ ?_
        · intro hc10
          have hc10d := of_decide_eq_true hc10
          have hq := of_decide_eq_true hc10
          refine c_seq ?_
          refine c_region ?_
          refine t_q (q_mv (.int _ _) rfl) ?_
          refine t_q (q_add_i64 rfl rfl (by omega)) ?_
          refine t_q (q_as (.int _ _) rfl) ?_
          refine t_nil ?_
          refine c_region ?_
          refine t_q (q_assign) ?_
          refine t_nil ?_
          refine c_region ?_
          refine t_q (q_mv (.int _ _) rfl) ?_
          refine t_q (q_mv (.int _ _) rfl) ?_
          refine t_q (q_eql rfl rfl) ?_
          refine t_q (q_fieldAddr 0 Tryd.runUnderlying154 rfl Tryd.sizeOf152 (by decide) rfl rfl) ?_
          first | refine t_q (q_arr_nat Tryd.runUnderlying152 Tryd.sizeOf4 rfl rfl (by omega)) ?_ | refine t_q (q_arr Tryd.runUnderlying152 Tryd.sizeOf4 rfl rfl (by omega)) ?_
          refine t_store (v := (.bool _)) Tryd.sizeOf4 hS (by repeat first | exact .here _ _ | assumption | apply Pick.there) rfl rfl rfl rfl rfl (Nat.ble_eq_true_of_le (by rw [nF_len]; show 0 + j * 1 + 1 ≤ 137; omega)) (fun w hS => ?_)
          replace hS := hS.recast (congrArg (blkA g5 154) (nF_set (g := loB (a - b) (j + 1)) (i := j) (by omega) (by omega) (loB_step (by rw [sub_bit (by omega), ha, hb]; revert hq; generalize brw a b j = q; intro hq; cases q <;> first | rfl | (exact absurd hq (by decide))))))
          refine t_nil ?_
          refine c_region ?_
          refine t_q (q_mv (.int _ _) rfl) ?_
          refine t_q (q_add_i64 rfl rfl (by omega)) ?_
          refine t_q (q_as (.int _ _) rfl) ?_
          refine t_nil ?_
          exact ⟨k - 1, by omega, j + 1, rfl, congrArg (Value.int .i64) (show _ = bi (brw a b (j + 1)) from by rw [sub_brw (by omega), ha, hb]; revert hq; generalize brw a b j = q; intro hq; cases q <;> first | rfl | (exact absurd hq (by decide))), by omega, by omega, ((((hS.pick (A := blkA g4 154 (nF (fun _ : Nat => false) false)) (by repeat first | exact .here _ _ | assumption | apply Pick.there)).pick (A := blkA g3 154 (nB b t)) (by repeat first | exact .here _ _ | assumption | apply Pick.there)).pick (A := blkA g2 154 (nB a s)) (by repeat first | exact .here _ _ | assumption | apply Pick.there)).pick (A := blkA g5 154 (nF (loB (a - b) (j + 1)) false)) (by repeat first | exact .here _ _ | assumption | apply Pick.there)).front4⟩
        · intro hc10
          have hc10d := of_decide_eq_false hc10
          have hq := of_decide_eq_false hc10
          refine c_skip ?_
          refine c_region ?_
          refine t_q (q_mv (.int _ _) rfl) ?_
          refine t_q (q_mv (.int _ _) rfl) ?_
          refine t_q (q_eql rfl rfl) ?_
          refine t_q (q_fieldAddr 0 Tryd.runUnderlying154 rfl Tryd.sizeOf152 (by decide) rfl rfl) ?_
          first | refine t_q (q_arr_nat Tryd.runUnderlying152 Tryd.sizeOf4 rfl rfl (by omega)) ?_ | refine t_q (q_arr Tryd.runUnderlying152 Tryd.sizeOf4 rfl rfl (by omega)) ?_
          refine t_store (v := (.bool _)) Tryd.sizeOf4 hS (by repeat first | exact .here _ _ | assumption | apply Pick.there) rfl rfl rfl rfl rfl (Nat.ble_eq_true_of_le (by rw [nF_len]; show 0 + j * 1 + 1 ≤ 137; omega)) (fun w hS => ?_)
          replace hS := hS.recast (congrArg (blkA g5 154) (nF_set (g := loB (a - b) (j + 1)) (i := j) (by omega) (by omega) (loB_step (by rw [sub_bit (by omega), ha, hb]; revert hq; generalize brw a b j = q; intro hq; cases q <;> first | rfl | (exact absurd hq (by decide))))))
          refine t_nil ?_
          refine c_region ?_
          refine t_q (q_mv (.int _ _) rfl) ?_
          refine t_q (q_add_i64 rfl rfl (by omega)) ?_
          refine t_q (q_as (.int _ _) rfl) ?_
          refine t_nil ?_
          exact ⟨k - 1, by omega, j + 1, rfl, congrArg (Value.int .i64) (show _ = bi (brw a b (j + 1)) from by rw [sub_brw (by omega), ha, hb]; revert hq; generalize brw a b j = q; intro hq; cases q <;> first | rfl | (exact absurd hq (by decide))), by omega, by omega, ((((hS.pick (A := blkA g4 154 (nF (fun _ : Nat => false) false)) (by repeat first | exact .here _ _ | assumption | apply Pick.there)).pick (A := blkA g3 154 (nB b t)) (by repeat first | exact .here _ _ | assumption | apply Pick.there)).pick (A := blkA g2 154 (nB a s)) (by repeat first | exact .here _ _ | assumption | apply Pick.there)).pick (A := blkA g5 154 (nF (loB (a - b) (j + 1)) false)) (by repeat first | exact .here _ _ | assumption | apply Pick.there)).front4⟩
      · intro hc8
        have hb : b.getLsbD j = false := hc8
        refine c_skip ?_
        refine c_seq ?_
        have hbq : 0 ≤ bi (brw a b j) ∧ bi (brw a b j) ≤ 1 := by unfold bi; split <;> decide
        refine c_region ?_
        refine t_q (q_mv (.int _ _) rfl) ?_
        refine t_q (q_mv (.int _ _) rfl) ?_
        refine t_q (q_sub_i64 rfl rfl (by omega)) ?_
        refine t_q (q_as (.int _ _) rfl) ?_
        refine t_nil ?_
        refine c_seq ?_
        refine c_region ?_
        refine t_q (q_assign) ?_
        refine t_nil ?_
        refine c_seq ?_
        refine c_seq ?_
        refine c_region ?_
        refine t_q (q_mv (.int _ _) rfl) ?_
        refine t_q (q_lss rfl rfl) ?_
        refine t_nil ?_
        refine c_cond rfl ?_ ?_
        · intro hc16
          have hc16d := of_decide_eq_true hc16
          have hq := of_decide_eq_true hc16
          refine c_seq ?_
          refine c_region ?_
          refine t_q (q_mv (.int _ _) rfl) ?_
          refine t_q (q_add_i64 rfl rfl (by omega)) ?_
          refine t_q (q_as (.int _ _) rfl) ?_
          refine t_nil ?_
          refine c_region ?_
          refine t_q (q_assign) ?_
          refine t_nil ?_
          refine c_region ?_
          refine t_q (q_mv (.int _ _) rfl) ?_
          refine t_q (q_mv (.int _ _) rfl) ?_
          refine t_q (q_eql rfl rfl) ?_
          refine t_q (q_fieldAddr 0 Tryd.runUnderlying154 rfl Tryd.sizeOf152 (by decide) rfl rfl) ?_
          first | refine t_q (q_arr_nat Tryd.runUnderlying152 Tryd.sizeOf4 rfl rfl (by omega)) ?_ | refine t_q (q_arr Tryd.runUnderlying152 Tryd.sizeOf4 rfl rfl (by omega)) ?_
          refine t_store (v := (.bool _)) Tryd.sizeOf4 hS (by repeat first | exact .here _ _ | assumption | apply Pick.there) rfl rfl rfl rfl rfl (Nat.ble_eq_true_of_le (by rw [nF_len]; show 0 + j * 1 + 1 ≤ 137; omega)) (fun w hS => ?_)
          replace hS := hS.recast (congrArg (blkA g5 154) (nF_set (g := loB (a - b) (j + 1)) (i := j) (by omega) (by omega) (loB_step (by rw [sub_bit (by omega), ha, hb]; revert hq; generalize brw a b j = q; intro hq; cases q <;> first | rfl | (exact absurd hq (by decide))))))
          refine t_nil ?_
          refine c_region ?_
          refine t_q (q_mv (.int _ _) rfl) ?_
          refine t_q (q_add_i64 rfl rfl (by omega)) ?_
          refine t_q (q_as (.int _ _) rfl) ?_
          refine t_nil ?_
          exact ⟨k - 1, by omega, j + 1, rfl, congrArg (Value.int .i64) (show _ = bi (brw a b (j + 1)) from by rw [sub_brw (by omega), ha, hb]; revert hq; generalize brw a b j = q; intro hq; cases q <;> first | rfl | (exact absurd hq (by decide))), by omega, by omega, ((((hS.pick (A := blkA g4 154 (nF (fun _ : Nat => false) false)) (by repeat first | exact .here _ _ | assumption | apply Pick.there)).pick (A := blkA g3 154 (nB b t)) (by repeat first | exact .here _ _ | assumption | apply Pick.there)).pick (A := blkA g2 154 (nB a s)) (by repeat first | exact .here _ _ | assumption | apply Pick.there)).pick (A := blkA g5 154 (nF (loB (a - b) (j + 1)) false)) (by repeat first | exact .here _ _ | assumption | apply Pick.there)).front4⟩
        · intro hc16
          have hc16d := of_decide_eq_false hc16
          have hq := of_decide_eq_false hc16
          refine c_skip ?_
          refine c_region ?_
          refine t_q (q_mv (.int _ _) rfl) ?_
          refine t_q (q_mv (.int _ _) rfl) ?_
          refine t_q (q_eql rfl rfl) ?_
          refine t_q (q_fieldAddr 0 Tryd.runUnderlying154 rfl Tryd.sizeOf152 (by decide) rfl rfl) ?_
          first | refine t_q (q_arr_nat Tryd.runUnderlying152 Tryd.sizeOf4 rfl rfl (by omega)) ?_ | refine t_q (q_arr Tryd.runUnderlying152 Tryd.sizeOf4 rfl rfl (by omega)) ?_
          refine t_store (v := (.bool _)) Tryd.sizeOf4 hS (by repeat first | exact .here _ _ | assumption | apply Pick.there) rfl rfl rfl rfl rfl (Nat.ble_eq_true_of_le (by rw [nF_len]; show 0 + j * 1 + 1 ≤ 137; omega)) (fun w hS => ?_)
          replace hS := hS.recast (congrArg (blkA g5 154) (nF_set (g := loB (a - b) (j + 1)) (i := j) (by omega) (by omega) (loB_step (by rw [sub_bit (by omega), ha, hb]; revert hq; generalize brw a b j = q; intro hq; cases q <;> first | rfl | (exact absurd hq (by decide))))))
          refine t_nil ?_
          refine c_region ?_
          refine t_q (q_mv (.int _ _) rfl) ?_
          refine t_q (q_add_i64 rfl rfl (by omega)) ?_
          refine t_q (q_as (.int _ _) rfl) ?_
          refine t_nil ?_
          exact ⟨k - 1, by omega, j + 1, rfl, congrArg (Value.int .i64) (show _ = bi (brw a b (j + 1)) from by rw [sub_brw (by omega), ha, hb]; revert hq; generalize brw a b j = q; intro hq; cases q <;> first | rfl | (exact absurd hq (by decide))), by omega, by omega, ((((hS.pick (A := blkA g4 154 (nF (fun _ : Nat => false) false)) (by repeat first | exact .here _ _ | assumption | apply Pick.there)).pick (A := blkA g3 154 (nB b t)) (by repeat first | exact .here _ _ | assumption | apply Pick.there)).pick (A := blkA g2 154 (nB a s)) (by repeat first | exact .here _ _ | assumption | apply Pick.there)).pick (A := blkA g5 154 (nF (loB (a - b) (j + 1)) false)) (by repeat first | exact .here _ _ | assumption | apply Pick.there)).front4⟩
    · intro hc5
      have ha : a.getLsbD j = false := hc5
      refine c_skip ?_
      refine c_seq ?_
      refine c_seq ?_
      refine c_region ?_
      refine t_q (q_mv (.int _ _) rfl) ?_
      refine t_q (q_fieldAddr 0 Tryd.runUnderlying154 rfl Tryd.sizeOf152 (by decide) rfl rfl) ?_
      first | refine t_q (q_arr_nat Tryd.runUnderlying152 Tryd.sizeOf4 rfl rfl (by omega)) ?_ | refine t_q (q_arr Tryd.runUnderlying152 Tryd.sizeOf4 rfl rfl (by omega)) ?_
      refine t_q (q_load1 Tryd.isAgg4 rfl (hS.cell (by repeat first | exact .here _ _ | assumption | apply Pick.there) (nB_at (i := j) (by omega) (by omega)))) ?_
      refine t_nil ?_
      refine c_cond rfl ?_ ?_
      · intro hc23
        have hb : b.getLsbD j = true := hc23
        refine c_region ?_
        refine t_q (q_mv (.int _ _) rfl) ?_
        refine t_q (q_sub_i64 rfl rfl (by omega)) ?_
        refine t_q (q_as (.int _ _) rfl) ?_
        refine t_nil ?_
        refine c_seq ?_
        have hbq : 0 ≤ bi (brw a b j) ∧ bi (brw a b j) ≤ 1 := by unfold bi; split <;> decide
        refine c_region ?_
        refine t_q (q_mv (.int _ _) rfl) ?_
        refine t_q (q_mv (.int _ _) rfl) ?_
        refine t_q (q_sub_i64 rfl rfl (by omega)) ?_
        refine t_q (q_as (.int _ _) rfl) ?_
        refine t_nil ?_
        refine c_seq ?_
        refine c_region ?_
        refine t_q (q_assign) ?_
        refine t_nil ?_
        refine c_seq ?_
        refine c_seq ?_
        refine c_region ?_
        refine t_q (q_mv (.int _ _) rfl) ?_
        refine t_q (q_lss rfl rfl) ?_
        refine t_nil ?_
        refine c_cond rfl ?_ ?_
        · intro hc25
          have hc25d := of_decide_eq_true hc25
          have hq := of_decide_eq_true hc25
          refine c_seq ?_
          refine c_region ?_
          refine t_q (q_mv (.int _ _) rfl) ?_
          refine t_q (q_add_i64 rfl rfl (by omega)) ?_
          refine t_q (q_as (.int _ _) rfl) ?_
          refine t_nil ?_
          refine c_region ?_
          refine t_q (q_assign) ?_
          refine t_nil ?_
          refine c_region ?_
          refine t_q (q_mv (.int _ _) rfl) ?_
          refine t_q (q_mv (.int _ _) rfl) ?_
          refine t_q (q_eql rfl rfl) ?_
          refine t_q (q_fieldAddr 0 Tryd.runUnderlying154 rfl Tryd.sizeOf152 (by decide) rfl rfl) ?_
          first | refine t_q (q_arr_nat Tryd.runUnderlying152 Tryd.sizeOf4 rfl rfl (by omega)) ?_ | refine t_q (q_arr Tryd.runUnderlying152 Tryd.sizeOf4 rfl rfl (by omega)) ?_
          refine t_store (v := (.bool _)) Tryd.sizeOf4 hS (by repeat first | exact .here _ _ | assumption | apply Pick.there) rfl rfl rfl rfl rfl (Nat.ble_eq_true_of_le (by rw [nF_len]; show 0 + j * 1 + 1 ≤ 137; omega)) (fun w hS => ?_)
          replace hS := hS.recast (congrArg (blkA g5 154) (nF_set (g := loB (a - b) (j + 1)) (i := j) (by omega) (by omega) (loB_step (by rw [sub_bit (by omega), ha, hb]; revert hq; generalize brw a b j = q; intro hq; cases q <;> first | rfl | (exact absurd hq (by decide))))))
          refine t_nil ?_
          refine c_region ?_
          refine t_q (q_mv (.int _ _) rfl) ?_
          refine t_q (q_add_i64 rfl rfl (by omega)) ?_
          refine t_q (q_as (.int _ _) rfl) ?_
          refine t_nil ?_
          exact ⟨k - 1, by omega, j + 1, rfl, congrArg (Value.int .i64) (show _ = bi (brw a b (j + 1)) from by rw [sub_brw (by omega), ha, hb]; revert hq; generalize brw a b j = q; intro hq; cases q <;> first | rfl | (exact absurd hq (by decide))), by omega, by omega, ((((hS.pick (A := blkA g4 154 (nF (fun _ : Nat => false) false)) (by repeat first | exact .here _ _ | assumption | apply Pick.there)).pick (A := blkA g3 154 (nB b t)) (by repeat first | exact .here _ _ | assumption | apply Pick.there)).pick (A := blkA g2 154 (nB a s)) (by repeat first | exact .here _ _ | assumption | apply Pick.there)).pick (A := blkA g5 154 (nF (loB (a - b) (j + 1)) false)) (by repeat first | exact .here _ _ | assumption | apply Pick.there)).front4⟩
        · intro hc25
          have hc25d := of_decide_eq_false hc25
          have hq := of_decide_eq_false hc25
          refine c_skip ?_
          refine c_region ?_
          refine t_q (q_mv (.int _ _) rfl) ?_
          refine t_q (q_mv (.int _ _) rfl) ?_
          refine t_q (q_eql rfl rfl) ?_
          refine t_q (q_fieldAddr 0 Tryd.runUnderlying154 rfl Tryd.sizeOf152 (by decide) rfl rfl) ?_
          first | refine t_q (q_arr_nat Tryd.runUnderlying152 Tryd.sizeOf4 rfl rfl (by omega)) ?_ | refine t_q (q_arr Tryd.runUnderlying152 Tryd.sizeOf4 rfl rfl (by omega)) ?_
          refine t_store (v := (.bool _)) Tryd.sizeOf4 hS (by repeat first | exact .here _ _ | assumption | apply Pick.there) rfl rfl rfl rfl rfl (Nat.ble_eq_true_of_le (by rw [nF_len]; show 0 + j * 1 + 1 ≤ 137; omega)) (fun w hS => ?_)
          replace hS := hS.recast (congrArg (blkA g5 154) (nF_set (g := loB (a - b) (j + 1)) (i := j) (by omega) (by omega) (loB_step (by rw [sub_bit (by omega), ha, hb]; revert hq; generalize brw a b j = q; intro hq; cases q <;> first | rfl | (exact absurd hq (by decide))))))
          refine t_nil ?_
          refine c_region ?_
          refine t_q (q_mv (.int _ _) rfl) ?_
          refine t_q (q_add_i64 rfl rfl (by omega)) ?_
          refine t_q (q_as (.int _ _) rfl) ?_
          refine t_nil ?_
          exact ⟨k - 1, by omega, j + 1, rfl, congrArg (Value.int .i64) (show _ = bi (brw a b (j + 1)) from by rw [sub_brw (by omega), ha, hb]; revert hq; generalize brw a b j = q; intro hq; cases q <;> first | rfl | (exact absurd hq (by decide))), by omega, by omega, ((((hS.pick (A := blkA g4 154 (nF (fun _ : Nat => false) false)) (by repeat first | exact .here _ _ | assumption | apply Pick.there)).pick (A := blkA g3 154 (nB b t)) (by repeat first | exact .here _ _ | assumption | apply Pick.there)).pick (A := blkA g2 154 (nB a s)) (by repeat first | exact .here _ _ | assumption | apply Pick.there)).pick (A := blkA g5 154 (nF (loB (a - b) (j + 1)) false)) (by repeat first | exact .here _ _ | assumption | apply Pick.there)).front4⟩
      · intro hc23
        have hb : b.getLsbD j = false := hc23
        refine c_skip ?_
        refine c_seq ?_
        have hbq : 0 ≤ bi (brw a b j) ∧ bi (brw a b j) ≤ 1 := by unfold bi; split <;> decide
        refine c_region ?_
        refine t_q (q_mv (.int _ _) rfl) ?_
        refine t_q (q_mv (.int _ _) rfl) ?_
        refine t_q (q_sub_i64 rfl rfl (by omega)) ?_
        refine t_q (q_as (.int _ _) rfl) ?_
        refine t_nil ?_
        refine c_seq ?_
        refine c_region ?_
        refine t_q (q_assign) ?_
        refine t_nil ?_
        refine c_seq ?_
        refine c_seq ?_
        refine c_region ?_
        refine t_q (q_mv (.int _ _) rfl) ?_
        refine t_q (q_lss rfl rfl) ?_
        refine t_nil ?_
        refine c_cond rfl ?_ ?_
        · intro hc31
          have hc31d := of_decide_eq_true hc31
          have hq := of_decide_eq_true hc31
          refine c_seq ?_
          refine c_region ?_
          refine t_q (q_mv (.int _ _) rfl) ?_
          refine t_q (q_add_i64 rfl rfl (by omega)) ?_
          refine t_q (q_as (.int _ _) rfl) ?_
          refine t_nil ?_
          refine c_region ?_
          refine t_q (q_assign) ?_
          refine t_nil ?_
          refine c_region ?_
          refine t_q (q_mv (.int _ _) rfl) ?_
          refine t_q (q_mv (.int _ _) rfl) ?_
          refine t_q (q_eql rfl rfl) ?_
          refine t_q (q_fieldAddr 0 Tryd.runUnderlying154 rfl Tryd.sizeOf152 (by decide) rfl rfl) ?_
          first | refine t_q (q_arr_nat Tryd.runUnderlying152 Tryd.sizeOf4 rfl rfl (by omega)) ?_ | refine t_q (q_arr Tryd.runUnderlying152 Tryd.sizeOf4 rfl rfl (by omega)) ?_
          refine t_store (v := (.bool _)) Tryd.sizeOf4 hS (by repeat first | exact .here _ _ | assumption | apply Pick.there) rfl rfl rfl rfl rfl (Nat.ble_eq_true_of_le (by rw [nF_len]; show 0 + j * 1 + 1 ≤ 137; omega)) (fun w hS => ?_)
          replace hS := hS.recast (congrArg (blkA g5 154) (nF_set (g := loB (a - b) (j + 1)) (i := j) (by omega) (by omega) (loB_step (by rw [sub_bit (by omega), ha, hb]; revert hq; generalize brw a b j = q; intro hq; cases q <;> first | rfl | (exact absurd hq (by decide))))))
          refine t_nil ?_
          refine c_region ?_
          refine t_q (q_mv (.int _ _) rfl) ?_
          refine t_q (q_add_i64 rfl rfl (by omega)) ?_
          refine t_q (q_as (.int _ _) rfl) ?_
          refine t_nil ?_
          exact ⟨k - 1, by omega, j + 1, rfl, congrArg (Value.int .i64) (show _ = bi (brw a b (j + 1)) from by rw [sub_brw (by omega), ha, hb]; revert hq; generalize brw a b j = q; intro hq; cases q <;> first | rfl | (exact absurd hq (by decide))), by omega, by omega, ((((hS.pick (A := blkA g4 154 (nF (fun _ : Nat => false) false)) (by repeat first | exact .here _ _ | assumption | apply Pick.there)).pick (A := blkA g3 154 (nB b t)) (by repeat first | exact .here _ _ | assumption | apply Pick.there)).pick (A := blkA g2 154 (nB a s)) (by repeat first | exact .here _ _ | assumption | apply Pick.there)).pick (A := blkA g5 154 (nF (loB (a - b) (j + 1)) false)) (by repeat first | exact .here _ _ | assumption | apply Pick.there)).front4⟩
        · intro hc31
          have hc31d := of_decide_eq_false hc31
          have hq := of_decide_eq_false hc31
          refine c_skip ?_
          refine c_region ?_
          refine t_q (q_mv (.int _ _) rfl) ?_
          refine t_q (q_mv (.int _ _) rfl) ?_
          refine t_q (q_eql rfl rfl) ?_
          refine t_q (q_fieldAddr 0 Tryd.runUnderlying154 rfl Tryd.sizeOf152 (by decide) rfl rfl) ?_
          first | refine t_q (q_arr_nat Tryd.runUnderlying152 Tryd.sizeOf4 rfl rfl (by omega)) ?_ | refine t_q (q_arr Tryd.runUnderlying152 Tryd.sizeOf4 rfl rfl (by omega)) ?_
          refine t_store (v := (.bool _)) Tryd.sizeOf4 hS (by repeat first | exact .here _ _ | assumption | apply Pick.there) rfl rfl rfl rfl rfl (Nat.ble_eq_true_of_le (by rw [nF_len]; show 0 + j * 1 + 1 ≤ 137; omega)) (fun w hS => ?_)
          replace hS := hS.recast (congrArg (blkA g5 154) (nF_set (g := loB (a - b) (j + 1)) (i := j) (by omega) (by omega) (loB_step (by rw [sub_bit (by omega), ha, hb]; revert hq; generalize brw a b j = q; intro hq; cases q <;> first | rfl | (exact absurd hq (by decide))))))
          refine t_nil ?_
          refine c_region ?_
          refine t_q (q_mv (.int _ _) rfl) ?_
          refine t_q (q_add_i64 rfl rfl (by omega)) ?_
          refine t_q (q_as (.int _ _) rfl) ?_
          refine t_nil ?_
          exact ⟨k - 1, by omega, j + 1, rfl, congrArg (Value.int .i64) (show _ = bi (brw a b (j + 1)) from by rw [sub_brw (by omega), ha, hb]; revert hq; generalize brw a b j = q; intro hq; cases q <;> first | rfl | (exact absurd hq (by decide))), by omega, by omega, ((((hS.pick (A := blkA g4 154 (nF (fun _ : Nat => false) false)) (by repeat first | exact .here _ _ | assumption | apply Pick.there)).pick (A := blkA g3 154 (nB b t)) (by repeat first | exact .here _ _ | assumption | apply Pick.there)).pick (A := blkA g2 154 (nB a s)) (by repeat first | exact .here _ _ | assumption | apply Pick.there)).pick (A := blkA g5 154 (nF (loB (a - b) (j + 1)) false)) (by repeat first | exact .here _ _ | assumption | apply Pick.there)).front4⟩
  · intro hc2
    have hc2d := of_decide_eq_false hc2
    obtain rfl : j = 136 := by omega
    refine c_exit ?_
    refine ite_t rfl ?_
    refine c_seq ?_
    replace hS := ((hS.pick (A := blkA g5 154 (nF (loB (a - b) 136) false)) (by repeat first | exact .here _ _ | assumption | apply Pick.there))).recast (congrArg (blkA g5 154) (nB_of (loB_all (a - b))))
    refine c_region ?_
    refine t_q (q_load_blk Tryd.isAgg154 Tryd.sizeOf154 rfl (hS.blk (by repeat first | exact .here _ _ | assumption | apply Pick.there)) (nB_len _ _)) ?_
    refine t_store (v := (.agg _)) (vs := nB (a - b) false) Tryd.sizeOf154 hS (by repeat first | exact .here _ _ | assumption | apply Pick.there) rfl rfl rfl (nB_len _ _) (nB_one _ _) (Nat.ble_eq_true_of_le (by rw [nF_len, nB_len]; decide)) (fun w hS => ?_)
    replace hS := hS.recast (congrArg (blkA g4 154) (rset_full (vs := nB (a - b) false) (by rw [nF_len, nB_len])))
    refine t_nil ?_
    refine c_ret ?_
    refine r_one rfl (res1_cellN Tryd.isAgg154 Tryd.sizeOf154 rfl (hS.blk (by repeat first | exact .here _ _ | assumption | apply Pick.there)) (nB_len _ _)) ?_
    exact ⟨rfl, hS.nil⟩
set_option maxHeartbeats 1000000 in
set_option maxRecDepth 100000 in
theorem below_calls {a b : BitVec 136} {s t : Bool} : Calls Tryd.prog 108 #[.agg (nB a s).toArray, .agg (nB b t).toArray] W fun e w' => e = .returned (.bool (decide (a.toNat < b.toNat))) ∧ St W w' [] := by
  have hS := St.init W
  refine calls_of_wpE (args := [_, _]) Tryd.func108 rfl rfl rfl ?_
  refine c_seq ?_
  refine c_region ?_
  refine t_box (v := (.agg _)) rfl rfl hS (fun g2 w hS => ?_)
  replace hS := hS.recast (show _ = blkA g2 154 (nB a s) from rfl)
  refine t_box (v := (.agg _)) rfl rfl hS (fun g3 w hS => ?_)
  replace hS := hS.recast (show _ = blkA g3 154 (nB b t) from rfl)
  refine t_q (q_assign) ?_
  refine t_nil ?_
  refine c_seq ?_
  refine c_seq ?_
  refine c_region ?_
  refine t_q (q_assign) ?_
  refine t_nil ?_
  refine c_block ?_
  refine c_loop [4, 5, 6, 7, 8, 9, 10, 11, 12, 13, 14, 15, 16, 17, 18, 19, 20, 21, 22] (fun k σ w => ∃ j : Nat, σ 5 = .int .i64 ((j : Int) - 1) ∧ j ≤ 136 ∧ j ≤ k ∧ (∀ i, j ≤ i → i < 136 → a.getLsbD i = b.getLsbD i) ∧ St W w [blkA g2 154 (nB a s), blkA g3 154 (nB b t)]) (136) rfl (⟨136, rfl, by omega, by omega, (fun i h h2 => absurd h (by omega)), ((hS.pick (A := blkA g3 154 (nB b t)) (by repeat first | exact .here _ _ | assumption | apply Pick.there)).pick (A := blkA g2 154 (nB a s)) (by repeat first | exact .here _ _ | assumption | apply Pick.there)).front2⟩) ?_
  skip
  rintro k σ w ⟨j, h5, hj, hk, hall, hS⟩
  refine c_know 5 h5 ?_
  clear h5
  refine c_seq ?_
  refine c_seq ?_
  refine c_region ?_
  refine t_q (q_mv (.int _ _) rfl) ?_
  refine t_q (q_geq rfl rfl) ?_
  refine t_nil ?_
  refine c_cond rfl ?_ ?_
  · intro hc2
    have hc2d := of_decide_eq_true hc2
    refine c_skip ?_
    refine c_seq ?_
    refine c_block ?_
    refine c_seq ?_
    refine c_draw ?_
    refine d_quiet 9 [0, 1, 2, 3, 4, 5, 6, 7, 8] [0, 1, 2, 3, 4, 5, 6, 7, 8] hS rfl (by kernel_rfl) (by kernel_rfl) (by kernel_rfl) (by kernel_rfl) (fun hap hsel w hS => ?_)
    refine p_q hap hsel 0 rfl rfl hS (fun w hS => q_mv (.int _ _) rfl) ?_
    refine p_q hap hsel 1 rfl rfl hS (fun w hS => q_fieldAddr 0 Tryd.runUnderlying154 rfl Tryd.sizeOf152 (by decide) rfl rfl) ?_
    first | refine p_q hap hsel 2 rfl rfl hS (fun w hS => q_arr_nat Tryd.runUnderlying152 Tryd.sizeOf4 rfl rfl (by omega)) ?_ | refine p_q hap hsel 2 rfl rfl hS (fun w hS => q_arr Tryd.runUnderlying152 Tryd.sizeOf4 rfl rfl (by omega)) ?_
    refine p_q hap hsel 3 rfl rfl hS (fun w hS => q_load1 Tryd.isAgg4 rfl (hS.cell (by repeat first | exact .here _ _ | assumption | apply Pick.there) (nB_at (i := j - 1) (by omega) (by omega)))) ?_
    refine p_q hap hsel 4 rfl rfl hS (fun w hS => q_mv (.int _ _) rfl) ?_
    refine p_q hap hsel 5 rfl rfl hS (fun w hS => q_fieldAddr 0 Tryd.runUnderlying154 rfl Tryd.sizeOf152 (by decide) rfl rfl) ?_
    first | refine p_q hap hsel 6 rfl rfl hS (fun w hS => q_arr_nat Tryd.runUnderlying152 Tryd.sizeOf4 rfl rfl (by omega)) ?_ | refine p_q hap hsel 6 rfl rfl hS (fun w hS => q_arr Tryd.runUnderlying152 Tryd.sizeOf4 rfl rfl (by omega)) ?_
    refine p_q hap hsel 7 rfl rfl hS (fun w hS => q_load1 Tryd.isAgg4 rfl (hS.cell (by repeat first | exact .here _ _ | assumption | apply Pick.there) (nB_at (i := j - 1) (by omega) (by omega)))) ?_
    refine p_q hap hsel 8 rfl rfl hS (fun w hS => q_neq_bool Tryd.runUnderlying4 rfl rfl) ?_
    refine p_end (by kernel_rfl) ?_
    refine c_cond rfl ?_ ?_
    · intro hc8
      have hc8d := of_decide_eq_true hc8
      have hD := lt_bits (v := a) (w := b) (j := j - 1) (by omega) (fun i h1 h2 => hall i (by omega) h2) (of_decide_eq_true hc8)
      refine c_seq ?_
      refine c_region ?_
      refine t_q (q_mv (.int _ _) rfl) ?_
      refine t_q (q_fieldAddr 0 Tryd.runUnderlying154 rfl Tryd.sizeOf152 (by decide) rfl rfl) ?_
      first | refine t_q (q_arr_nat Tryd.runUnderlying152 Tryd.sizeOf4 rfl rfl (by omega)) ?_ | refine t_q (q_arr Tryd.runUnderlying152 Tryd.sizeOf4 rfl rfl (by omega)) ?_
      refine t_q (q_load1 Tryd.isAgg4 rfl (hS.cell (by repeat first | exact .here _ _ | assumption | apply Pick.there) (nB_at (i := j - 1) (by omega) (by omega)))) ?_
      refine t_q (q_as (.bool _) rfl) ?_
      refine t_nil ?_
      refine c_ret ?_
      refine r_one rfl rfl ?_
      have hN := hS.nil
      clear hS
      refine ⟨congrArg (fun b => Ending.returned (.bool b)) ?_, hN⟩
      exact hD.symm
    · intro hc8
      have hc8d := of_decide_eq_false hc8
      have hyes : a.getLsbD (j - 1) = b.getLsbD (j - 1) := Decidable.not_not.1 (of_decide_eq_false hc8)
      refine c_skip ?_
      refine c_region ?_
      refine t_q (q_mv (.int _ _) rfl) ?_
      refine t_q (q_sub_i64 rfl rfl (by omega)) ?_
      refine t_q (q_as (.int _ _) rfl) ?_
      refine t_nil ?_
      exact ⟨k - 1, by omega, j - 1, congrArg (Value.int .i64) (by omega), by omega, by omega, (fun i hi h2 => by
        rcases Nat.lt_or_ge i j with h | h
        · obtain rfl : i = j - 1 := by omega
          exact hyes
        · exact hall i h h2), ((hS.pick (A := blkA g3 154 (nB b t)) (by repeat first | exact .here _ _ | assumption | apply Pick.there)).pick (A := blkA g2 154 (nB a s)) (by repeat first | exact .here _ _ | assumption | apply Pick.there)).front2⟩
  · intro hc2
    have hc2d := of_decide_eq_false hc2
    obtain rfl : j = 0 := by omega
    have hD := lt_none (v := a) (w := b) fun i hi => hall i (by omega) hi
    refine c_exit ?_
    refine ite_t rfl ?_
    refine c_seq ?_
    refine c_region ?_
    refine t_q (q_assign) ?_
    refine t_nil ?_
    refine c_ret ?_
    refine r_one rfl rfl ?_
    have hN := hS.nil
    clear hS
    refine ⟨congrArg (fun b => Ending.returned (.bool b)) ?_, hN⟩
    exact hD.symm
set_option maxHeartbeats 2000000 in
set_option maxRecDepth 100000 in
theorem twice_calls {v : BitVec 136} {s : Bool} : Calls Tryd.prog 111 #[.agg (nB v s).toArray] W fun e w' => e = .returned (.agg (nB (v <<< 1) s).toArray) ∧ St W w' [] := by
  have hS := St.init W
  refine calls_of_wpE (args := [_]) Tryd.func111 rfl rfl rfl ?_
  refine c_seq ?_
  refine c_region ?_
  refine t_box (v := (.agg _)) rfl rfl hS (fun g1 w hS => ?_)
  replace hS := hS.recast (show _ = blkA g1 154 (nB v s) from rfl)
  refine t_alloc (cs := nF (fun _ : Nat => false) false) Tryd.zeroValue154 (by kernel_rfl) hS (fun g2 w hS => ?_)
  refine t_nil ?_
  refine c_seq ?_
  refine c_region ?_
  refine t_q (q_load_blk Tryd.isAgg154 Tryd.sizeOf154 rfl (hS.blk (by repeat first | exact .here _ _ | assumption | apply Pick.there)) (nB_len _ _)) ?_
  refine t_alloc (cs := nF (fun _ : Nat => false) false) Tryd.zeroValue154 (by kernel_rfl) hS (fun g3 w hS => ?_)
  refine t_store (v := (.agg _)) (vs := nB v s) Tryd.sizeOf154 hS (by repeat first | exact .here _ _ | assumption | apply Pick.there) rfl rfl rfl (nB_len _ _) (nB_one _ _) (Nat.ble_eq_true_of_le (by rw [nF_len, nB_len]; decide)) (fun w hS => ?_)
  replace hS := hS.recast (congrArg (blkA g3 154) (rset_full (vs := nB v s) (by rw [nF_len, nB_len])))
  refine t_nil ?_
  refine c_seq ?_
  refine c_seq ?_
  refine c_region ?_
  refine t_q (q_assign) ?_
  refine t_nil ?_
  refine c_block ?_
  refine c_loop [4, 6, 7, 8, 9, 10, 11, 12, 13, 14, 15, 16, 17] (fun k σ w => ∃ j : Nat, σ 4 = .int .i64 (j : Int) ∧ j ≤ 135 ∧ j ≤ k ∧ St W w [blkA g3 154 (nF (upB v j) s), blkA g1 154 (nB v s), blkA g2 154 (nF (fun _ : Nat => false) false)]) (135) rfl (⟨135, rfl, by omega, by omega, ((((hS.pick (A := blkA g2 154 (nF (fun _ : Nat => false) false)) (by repeat first | exact .here _ _ | assumption | apply Pick.there)).pick (A := blkA g1 154 (nB v s)) (by repeat first | exact .here _ _ | assumption | apply Pick.there)).pick (A := blkA g3 154 (nB v s)) (by repeat first | exact .here _ _ | assumption | apply Pick.there)).front3).recast (congrArg (blkA g3 154) (show nB v s = nF (upB v 135) s from nBF_congr (upB_start v)))⟩) ?_
  skip
  rintro k σ w ⟨j, h4, hj, hk, hS⟩
  refine c_know 4 h4 ?_
  clear h4
  refine c_seq ?_
  refine c_seq ?_
  refine c_region ?_
  refine t_q (q_mv (.int _ _) rfl) ?_
  refine t_q (q_gtr rfl rfl) ?_
  refine t_nil ?_
  refine c_cond rfl ?_ ?_
  · intro hc2
    have hc2d := of_decide_eq_true hc2
    refine c_skip ?_
    refine c_seq ?_
    refine c_block ?_
    refine c_region ?_
    refine t_q (q_mv (.int _ _) rfl) ?_
    refine t_q (q_mv (.int _ _) rfl) ?_
    refine t_q (q_sub_i64 rfl rfl (by omega)) ?_
    refine t_q (q_fieldAddr 0 Tryd.runUnderlying154 rfl Tryd.sizeOf152 (by decide) rfl rfl) ?_
    first | refine t_q (q_arr_nat Tryd.runUnderlying152 Tryd.sizeOf4 rfl rfl (by omega)) ?_ | refine t_q (q_arr Tryd.runUnderlying152 Tryd.sizeOf4 rfl rfl (by omega)) ?_
    refine t_q (q_load1 Tryd.isAgg4 rfl (hS.cell (by repeat first | exact .here _ _ | assumption | apply Pick.there) (nB_at (i := j - 1) (by omega) (by omega)))) ?_
    refine t_q (q_fieldAddr 0 Tryd.runUnderlying154 rfl Tryd.sizeOf152 (by decide) rfl rfl) ?_
    first | refine t_q (q_arr_nat Tryd.runUnderlying152 Tryd.sizeOf4 rfl rfl (by omega)) ?_ | refine t_q (q_arr Tryd.runUnderlying152 Tryd.sizeOf4 rfl rfl (by omega)) ?_
    refine t_store (v := (.bool _)) Tryd.sizeOf4 hS (by repeat first | exact .here _ _ | assumption | apply Pick.there) rfl rfl rfl rfl rfl (Nat.ble_eq_true_of_le (by rw [nF_len]; show 0 + j * 1 + 1 ≤ 137; omega)) (fun w hS => ?_)
    replace hS := hS.recast (congrArg (blkA g3 154) (nF_set (g := upB v (j - 1)) (i := j) (by omega) (by omega) (upB_step (by omega) (by omega))))
    refine t_nil ?_
    refine c_region ?_
    refine t_q (q_mv (.int _ _) rfl) ?_
    refine t_q (q_sub_i64 rfl rfl (by omega)) ?_
    refine t_q (q_as (.int _ _) rfl) ?_
    refine t_nil ?_
    exact ⟨k - 1, by omega, j - 1, congrArg (Value.int .i64) (by omega), by omega, by omega, (((hS.pick (A := blkA g2 154 (nF (fun _ : Nat => false) false)) (by repeat first | exact .here _ _ | assumption | apply Pick.there)).pick (A := blkA g1 154 (nB v s)) (by repeat first | exact .here _ _ | assumption | apply Pick.there)).pick (A := blkA g3 154 (nF (upB v (j - 1)) s)) (by repeat first | exact .here _ _ | assumption | apply Pick.there)).front3⟩
  · intro hc2
    have hc2d := of_decide_eq_false hc2
    obtain rfl : j = 0 := by omega
    refine c_exit ?_
    refine ite_t rfl ?_
    refine c_seq ?_
    refine c_region ?_
    refine t_q (q_fieldAddr 0 Tryd.runUnderlying154 rfl Tryd.sizeOf152 (by decide) rfl rfl) ?_
    first | refine t_q (q_arr_nat Tryd.runUnderlying152 Tryd.sizeOf4 rfl rfl (by omega)) ?_ | refine t_q (q_arr Tryd.runUnderlying152 Tryd.sizeOf4 rfl rfl (by omega)) ?_
    refine t_store (v := (.bool _)) Tryd.sizeOf4 hS (by repeat first | exact .here _ _ | assumption | apply Pick.there) rfl rfl rfl rfl rfl (Nat.ble_eq_true_of_le (by rw [nF_len]; decide)) (fun w hS => ?_)
    replace hS := hS.recast (congrArg (blkA g3 154) ((nF_set (g := (v <<< 1).getLsbD) (i := 0) (by omega) rfl upB_end).trans (nB_of fun _ _ => rfl)))
    refine t_nil ?_
    refine c_seq ?_
    refine c_region ?_
    refine t_q (q_load_blk Tryd.isAgg154 Tryd.sizeOf154 rfl (hS.blk (by repeat first | exact .here _ _ | assumption | apply Pick.there)) (nB_len _ _)) ?_
    refine t_store (v := (.agg _)) (vs := nB (v <<< 1) s) Tryd.sizeOf154 hS (by repeat first | exact .here _ _ | assumption | apply Pick.there) rfl rfl rfl (nB_len _ _) (nB_one _ _) (Nat.ble_eq_true_of_le (by rw [nF_len, nB_len]; decide)) (fun w hS => ?_)
    replace hS := hS.recast (congrArg (blkA g2 154) (rset_full (vs := nB (v <<< 1) s) (by rw [nF_len, nB_len])))
    refine t_nil ?_
    refine c_ret ?_
    refine r_one rfl (res1_cellN Tryd.isAgg154 Tryd.sizeOf154 rfl (hS.blk (by repeat first | exact .here _ _ | assumption | apply Pick.there)) (nB_len _ _)) ?_
    exact ⟨rfl, hS.nil⟩
set_option maxHeartbeats 2000000 in
set_option maxRecDepth 100000 in
theorem ofn_calls {x : Int} (hx : 0 ≤ x ∧ x ≤ 9223372036854775807) : Calls Tryd.prog 100 #[.int .i64 x] W fun e w' => e = .returned (.agg (nB (BitVec.ofNat 136 x.toNat) false).toArray) ∧ St W w' [] := by
  have hS := St.init W
  refine calls_of_wpE (args := [_]) Tryd.func100 rfl rfl rfl ?_
  refine c_seq ?_
  refine c_region ?_
  refine t_alloc (cs := nF (fun _ : Nat => false) false) Tryd.zeroValue154 (by kernel_rfl) hS (fun g2 w hS => ?_)
  refine t_nil ?_
  refine c_seq ?_
  refine c_region ?_
  refine t_alloc (cs := nF (fun _ : Nat => false) false) Tryd.zeroValue154 (by kernel_rfl) hS (fun g3 w hS => ?_)
  refine t_nil ?_
  refine c_seq ?_
  refine c_region ?_
  refine t_q (q_mv (.int _ _) rfl) ?_
  refine t_q (q_cast (v' := .bool false) (q_lss rfl rfl) (congrArg Value.bool (decide_eq_false (by omega)))) ?_
  refine t_q (q_fieldAddr 136 Tryd.runUnderlying154 rfl Tryd.sizeOf4 (by decide) rfl rfl) ?_
  refine t_store (v := (.bool _)) Tryd.sizeOf4 hS (by repeat first | exact .here _ _ | assumption | apply Pick.there) rfl rfl rfl rfl rfl (Nat.ble_eq_true_of_le (by rw [nF_len]; exact Nat.le_refl 137)) (fun w hS => ?_)
  replace hS := hS.recast (congrArg (blkA g3 154) nF_sign)
  refine t_nil ?_
  refine c_seq ?_
  refine c_region ?_
  refine t_q (q_mv (.int _ _) rfl) ?_
  first | refine t_q (q_conv_u64 Tryd.runUnderlying2 Tryd.runUnderlying103 rfl (by omega)) ?_ | refine t_q (q_convm_u64 Tryd.runUnderlying2 Tryd.runUnderlying103 rfl) ?_
  refine t_q (q_as (.int _ _) rfl) ?_
  refine t_nil ?_
  refine c_seq ?_
  refine c_seq ?_
  refine c_region ?_
  refine t_q (q_fieldAddr 136 Tryd.runUnderlying154 rfl Tryd.sizeOf4 (by decide) rfl rfl) ?_
  refine t_q (q_load1 Tryd.isAgg4 rfl (hS.cell (by repeat first | exact .here _ _ | assumption | apply Pick.there) nF_neg)) ?_
  refine t_nil ?_
  refine c_cond_f rfl rfl ?_
  refine c_skip ?_
  refine c_seq ?_
  refine c_seq ?_
  refine c_region ?_
  refine t_q (q_assign) ?_
  refine t_nil ?_
  refine c_block ?_
  refine c_loop [4, 5, 16, 17, 18, 19, 20, 21, 22, 23, 24, 25, 26, 27] (fun k σ w => ∃ j u : Nat, σ 5 = .int .i64 (j : Int) ∧ σ 4 = .int .u64 (u : Int) ∧ u = x.toNat / 2 ^ j ∧ j ≤ 64 ∧ 64 - j ≤ k ∧ St W w [blkA g3 154 (nF (loB (BitVec.ofNat 136 x.toNat) j) false), blkA g2 154 (nF (fun _ : Nat => false) false)]) (64) rfl (⟨0, x.toNat, rfl, congrArg (Value.int .u64) (by omega), by rw [Nat.pow_zero, Nat.div_one], by omega, by omega, (((hS.pick (A := blkA g2 154 (nF (fun _ : Nat => false) false)) (by repeat first | exact .here _ _ | assumption | apply Pick.there)).pick (A := blkA g3 154 (nF (fun _ : Nat => false) false)) (by repeat first | exact .here _ _ | assumption | apply Pick.there)).front2).recast (congrArg (blkA g3 154) (nF_congr fun i _ => (loB_zero (BitVec.ofNat 136 x.toNat) i).symm))⟩) ?_
  skip
  rintro k σ w ⟨j, u, h5, h4, hu, hj, hk, hS⟩
  refine c_know 5 h5 ?_
  refine c_know 4 h4 ?_
  clear h5 h4
  have hdl : u ≤ x.toNat := by rw [hu]; exact Nat.div_le_self _ _
  have hu2 : u / 2 = x.toNat / 2 ^ (j + 1) := by rw [Nat.pow_succ, ← Nat.div_div_eq_div_mul, ← hu]
  refine c_seq ?_
  refine c_seq ?_
  refine c_region ?_
  refine t_q (q_mv (.int _ _) rfl) ?_
  refine t_q (q_lss rfl rfl) ?_
  refine t_nil ?_
  refine c_cond rfl ?_ ?_
  · intro hc4
    have hc4d := of_decide_eq_true hc4
    refine c_skip ?_
    refine c_seq ?_
    refine c_block ?_
    refine c_seq ?_
    refine c_region ?_
    refine t_q (q_mv (.int _ _) rfl) ?_
    refine t_q (q_mv (.int _ _) rfl) ?_
    refine t_q (q_rem_n rfl rfl (by omega) (by omega)) ?_
    refine t_q (q_eql rfl rfl) ?_
    refine t_q (q_fieldAddr 0 Tryd.runUnderlying154 rfl Tryd.sizeOf152 (by decide) rfl rfl) ?_
    first | refine t_q (q_arr_nat Tryd.runUnderlying152 Tryd.sizeOf4 rfl rfl (by omega)) ?_ | refine t_q (q_arr Tryd.runUnderlying152 Tryd.sizeOf4 rfl rfl (by omega)) ?_
    refine t_store (v := (.bool _)) Tryd.sizeOf4 hS (by repeat first | exact .here _ _ | assumption | apply Pick.there) rfl rfl rfl rfl rfl (Nat.ble_eq_true_of_le (by rw [nF_len]; show 0 + j * 1 + 1 ≤ 137; omega)) (fun w hS => ?_)
    replace hS := hS.recast (congrArg (blkA g3 154) (nF_set (g := loB (BitVec.ofNat 136 x.toNat) (j + 1)) (i := j) (by omega) (by omega) (loB_step ((tb_eq x.toNat j).elim (fun h => h.symm.trans (by rw [← hu, decide_eq_decide]; omega)) (fun h => absurd h (by omega))))))
    refine t_nil ?_
    refine c_region ?_
    refine t_q (q_mv (.int _ _) rfl) ?_
    refine t_q (q_quo_n rfl rfl (by omega) (by omega) (wrap_u64 (by omega))) ?_
    refine t_q (q_as (.int _ _) rfl) ?_
    refine t_nil ?_
    refine c_region ?_
    refine t_q (q_mv (.int _ _) rfl) ?_
    refine t_q (q_add_i64 rfl rfl (by omega)) ?_
    refine t_q (q_as (.int _ _) rfl) ?_
    refine t_nil ?_
    exact ⟨k - 1, by omega, j + 1, u / 2, rfl, congrArg (Value.int .u64) (by omega), hu2, by omega, by omega, ((hS.pick (A := blkA g2 154 (nF (fun _ : Nat => false) false)) (by repeat first | exact .here _ _ | assumption | apply Pick.there)).pick (A := blkA g3 154 (nF (loB (BitVec.ofNat 136 x.toNat) (j + 1)) false)) (by repeat first | exact .here _ _ | assumption | apply Pick.there)).front2⟩
  · intro hc4
    have hc4d := of_decide_eq_false hc4
    obtain rfl : j = 64 := by omega
    refine c_exit ?_
    refine ite_t rfl ?_
    refine c_seq ?_
    replace hS := ((hS.pick (A := blkA g3 154 (nF (loB (BitVec.ofNat 136 x.toNat) 64) false)) (by repeat first | exact .here _ _ | assumption | apply Pick.there))).recast (congrArg (blkA g3 154) (nB_of (lo_small (by omega))))
    refine c_region ?_
    refine t_q (q_load_blk Tryd.isAgg154 Tryd.sizeOf154 rfl (hS.blk (by repeat first | exact .here _ _ | assumption | apply Pick.there)) (nB_len _ _)) ?_
    refine t_store (v := (.agg _)) (vs := nB (BitVec.ofNat 136 x.toNat) false) Tryd.sizeOf154 hS (by repeat first | exact .here _ _ | assumption | apply Pick.there) rfl rfl rfl (nB_len _ _) (nB_one _ _) (Nat.ble_eq_true_of_le (by rw [nF_len, nB_len]; decide)) (fun w hS => ?_)
    replace hS := hS.recast (congrArg (blkA g2 154) (rset_full (vs := nB (BitVec.ofNat 136 x.toNat) false) (by rw [nF_len, nB_len])))
    refine t_nil ?_
    refine c_ret ?_
    refine r_one rfl (res1_cellN Tryd.isAgg154 Tryd.sizeOf154 rfl (hS.blk (by repeat first | exact .here _ _ | assumption | apply Pick.there)) (nB_len _ _)) ?_
    exact ⟨rfl, hS.nil⟩
set_option maxHeartbeats 2000000 in
set_option maxRecDepth 100000 in
theorem timesn_calls {p q : Nat} (hq : q < 2 ^ 64) : Calls Tryd.prog 99 #[.agg (nB (BitVec.ofNat 136 p) false).toArray, .agg (nB (BitVec.ofNat 136 q) false).toArray] W fun e w' => e = .returned (.agg (nB (BitVec.ofNat 136 (p * q)) false).toArray) ∧ St W w' [] := by
  have hS := St.init W
  refine calls_of_wpE (args := [_, _]) Tryd.func99 rfl rfl rfl ?_
  refine c_seq ?_
  refine c_region ?_
  refine t_box (v := (.agg _)) rfl rfl hS (fun g2 w hS => ?_)
  replace hS := hS.recast (show _ = blkA g2 154 (nB (BitVec.ofNat 136 p) false) from rfl)
  refine t_box (v := (.agg _)) rfl rfl hS (fun g3 w hS => ?_)
  replace hS := hS.recast (show _ = blkA g3 154 (nB (BitVec.ofNat 136 q) false) from rfl)
  refine t_alloc (cs := nF (fun _ : Nat => false) false) Tryd.zeroValue154 (by kernel_rfl) hS (fun g4 w hS => ?_)
  refine t_nil ?_
  refine c_seq ?_
  refine c_region ?_
  refine t_alloc (cs := nF (fun _ : Nat => false) false) Tryd.zeroValue154 (by kernel_rfl) hS (fun g5 w hS => ?_)
  refine t_nil ?_
  refine c_seq ?_
  refine c_region ?_
  refine t_q (q_load_blk Tryd.isAgg154 Tryd.sizeOf154 rfl (hS.blk (by repeat first | exact .here _ _ | assumption | apply Pick.there)) (nB_len _ _)) ?_
  refine t_alloc (cs := nF (fun _ : Nat => false) false) Tryd.zeroValue154 (by kernel_rfl) hS (fun g6 w hS => ?_)
  refine t_store (v := (.agg _)) (vs := nB (BitVec.ofNat 136 p) false) Tryd.sizeOf154 hS (by repeat first | exact .here _ _ | assumption | apply Pick.there) rfl rfl rfl (nB_len _ _) (nB_one _ _) (Nat.ble_eq_true_of_le (by rw [nF_len, nB_len]; decide)) (fun w hS => ?_)
  replace hS := hS.recast (congrArg (blkA g6 154) (rset_full (vs := nB (BitVec.ofNat 136 p) false) (by rw [nF_len, nB_len])))
  refine t_nil ?_
  refine c_seq ?_
  refine c_seq ?_
  refine c_region ?_
  refine t_q (q_assign) ?_
  refine t_nil ?_
  refine c_block ?_
  refine c_loop [7, 9, 10, 11, 12, 13, 14, 15, 16, 17, 18, 19, 20, 21] (fun k σ w => ∃ j : Nat, σ 7 = .int .i64 (j : Int) ∧ j ≤ 64 ∧ 64 - j ≤ k ∧ St W w [blkA g5 154 (nB (mulA p q j) false), blkA g6 154 (nB (mulX p j) false), blkA g2 154 (nB (BitVec.ofNat 136 p) false), blkA g3 154 (nB (BitVec.ofNat 136 q) false), blkA g4 154 (nF (fun _ : Nat => false) false)]) (64) rfl (⟨0, rfl, by omega, by omega, by rw [mul_zero, mulX_zero, ← nZ_zero]; exact (((((hS.pick (A := blkA g4 154 (nF (fun _ : Nat => false) false)) (by repeat first | exact .here _ _ | assumption | apply Pick.there)).pick (A := blkA g3 154 (nB (BitVec.ofNat 136 q) false)) (by repeat first | exact .here _ _ | assumption | apply Pick.there)).pick (A := blkA g2 154 (nB (BitVec.ofNat 136 p) false)) (by repeat first | exact .here _ _ | assumption | apply Pick.there)).pick (A := blkA g6 154 (nB (BitVec.ofNat 136 p) false)) (by repeat first | exact .here _ _ | assumption | apply Pick.there)).pick (A := blkA g5 154 (nF (fun _ : Nat => false) false)) (by repeat first | exact .here _ _ | assumption | apply Pick.there)).front5⟩) ?_
  skip
  rintro k σ w ⟨j, h7, hj, hk, hS⟩
  refine c_know 7 h7 ?_
  clear h7
  refine c_seq ?_
  refine c_seq ?_
  refine c_region ?_
  refine t_q (q_mv (.int _ _) rfl) ?_
  refine t_q (q_lss rfl rfl) ?_
  refine t_nil ?_
  refine c_cond rfl ?_ ?_
  · intro hc2
    have hc2d := of_decide_eq_true hc2
    refine c_skip ?_
    refine c_seq ?_
    refine c_block ?_
    refine c_seq ?_
    refine c_seq ?_
    refine c_region ?_
    refine t_q (q_mv (.int _ _) rfl) ?_
    refine t_q (q_fieldAddr 0 Tryd.runUnderlying154 rfl Tryd.sizeOf152 (by decide) rfl rfl) ?_
    first | refine t_q (q_arr_nat Tryd.runUnderlying152 Tryd.sizeOf4 rfl rfl (by omega)) ?_ | refine t_q (q_arr Tryd.runUnderlying152 Tryd.sizeOf4 rfl rfl (by omega)) ?_
    refine t_q (q_load1 Tryd.isAgg4 rfl (hS.cell (by repeat first | exact .here _ _ | assumption | apply Pick.there) (nB_at (i := j) (by omega) (by omega)))) ?_
    refine t_nil ?_
    refine c_cond rfl ?_ ?_
    · intro hc5
      have hbt := hc5
      refine c_region ?_
      refine t_q (q_load_blk Tryd.isAgg154 Tryd.sizeOf154 rfl (hS.blk (by repeat first | exact .here _ _ | assumption | apply Pick.there)) (nB_len _ _)) ?_
      refine t_q (q_load_blk Tryd.isAgg154 Tryd.sizeOf154 rfl (hS.blk (by repeat first | exact .here _ _ | assumption | apply Pick.there)) (nB_len _ _)) ?_
      refine t_call Tryd.call107 (more_calls) rfl ?_
      rintro e w ⟨rfl, hT⟩
      refine ⟨_, rfl, ?_⟩
      replace hS := hS.after hT
      refine t_store (v := (.agg _)) (vs := nB (mulA p q j + mulX p j) false) Tryd.sizeOf154 hS (by repeat first | exact .here _ _ | assumption | apply Pick.there) rfl rfl rfl (nB_len _ _) (nB_one _ _) (Nat.ble_eq_true_of_le (by rw [nB_len, nB_len]; decide)) (fun w hS => ?_)
      replace hS := hS.recast (congrArg (blkA g5 154) (rset_full (vs := nB (mulA p q j + mulX p j) false) (by rw [nB_len, nB_len])))
      replace hS := hS.recast (congrArg (fun v => blkA g5 154 (nB v false)) (mul_yes (by omega) hbt))
      refine t_nil ?_
      refine c_region ?_
      refine t_q (q_load_blk Tryd.isAgg154 Tryd.sizeOf154 rfl (hS.blk (by repeat first | exact .here _ _ | assumption | apply Pick.there)) (nB_len _ _)) ?_
      refine t_call Tryd.call111 (twice_calls) rfl ?_
      rintro e w ⟨rfl, hT⟩
      refine ⟨_, rfl, ?_⟩
      replace hS := hS.after hT
      refine t_store (v := (.agg _)) (vs := nB (mulX p j <<< 1) false) Tryd.sizeOf154 hS (by repeat first | exact .here _ _ | assumption | apply Pick.there) rfl rfl rfl (nB_len _ _) (nB_one _ _) (Nat.ble_eq_true_of_le (by rw [nB_len, nB_len]; decide)) (fun w hS => ?_)
      replace hS := hS.recast (congrArg (blkA g6 154) (rset_full (vs := nB (mulX p j <<< 1) false) (by rw [nB_len, nB_len])))
      refine t_nil ?_
      refine c_region ?_
      refine t_q (q_mv (.int _ _) rfl) ?_
      refine t_q (q_add_i64 rfl rfl (by omega)) ?_
      refine t_q (q_as (.int _ _) rfl) ?_
      refine t_nil ?_
      rw [mul_twice] at hS
      exact ⟨k - 1, by omega, j + 1, rfl, by omega, by omega, (((((hS.pick (A := blkA g4 154 (nF (fun _ : Nat => false) false)) (by repeat first | exact .here _ _ | assumption | apply Pick.there)).pick (A := blkA g3 154 (nB (BitVec.ofNat 136 q) false)) (by repeat first | exact .here _ _ | assumption | apply Pick.there)).pick (A := blkA g2 154 (nB (BitVec.ofNat 136 p) false)) (by repeat first | exact .here _ _ | assumption | apply Pick.there)).pick (A := blkA g6 154 (nB (mulX p (j + 1)) false)) (by repeat first | exact .here _ _ | assumption | apply Pick.there)).pick (A := blkA g5 154 (nB (mulA p q (j + 1)) false)) (by repeat first | exact .here _ _ | assumption | apply Pick.there)).front5⟩
    · intro hc5
      have hbt := hc5
      replace hS := ((hS.pick (A := blkA g5 154 (nB (mulA p q j) false)) (by repeat first | exact .here _ _ | assumption | apply Pick.there))).recast (congrArg (fun v => blkA g5 154 (nB v false)) (mul_no (a := p) (by omega) hbt))
      refine c_skip ?_
      refine c_region ?_
      refine t_q (q_load_blk Tryd.isAgg154 Tryd.sizeOf154 rfl (hS.blk (by repeat first | exact .here _ _ | assumption | apply Pick.there)) (nB_len _ _)) ?_
      refine t_call Tryd.call111 (twice_calls) rfl ?_
      rintro e w ⟨rfl, hT⟩
      refine ⟨_, rfl, ?_⟩
      replace hS := hS.after hT
      refine t_store (v := (.agg _)) (vs := nB (mulX p j <<< 1) false) Tryd.sizeOf154 hS (by repeat first | exact .here _ _ | assumption | apply Pick.there) rfl rfl rfl (nB_len _ _) (nB_one _ _) (Nat.ble_eq_true_of_le (by rw [nB_len, nB_len]; decide)) (fun w hS => ?_)
      replace hS := hS.recast (congrArg (blkA g6 154) (rset_full (vs := nB (mulX p j <<< 1) false) (by rw [nB_len, nB_len])))
      refine t_nil ?_
      refine c_region ?_
      refine t_q (q_mv (.int _ _) rfl) ?_
      refine t_q (q_add_i64 rfl rfl (by omega)) ?_
      refine t_q (q_as (.int _ _) rfl) ?_
      refine t_nil ?_
      rw [mul_twice] at hS
      exact ⟨k - 1, by omega, j + 1, rfl, by omega, by omega, (((((hS.pick (A := blkA g4 154 (nF (fun _ : Nat => false) false)) (by repeat first | exact .here _ _ | assumption | apply Pick.there)).pick (A := blkA g3 154 (nB (BitVec.ofNat 136 q) false)) (by repeat first | exact .here _ _ | assumption | apply Pick.there)).pick (A := blkA g2 154 (nB (BitVec.ofNat 136 p) false)) (by repeat first | exact .here _ _ | assumption | apply Pick.there)).pick (A := blkA g6 154 (nB (mulX p (j + 1)) false)) (by repeat first | exact .here _ _ | assumption | apply Pick.there)).pick (A := blkA g5 154 (nB (mulA p q (j + 1)) false)) (by repeat first | exact .here _ _ | assumption | apply Pick.there)).front5⟩
  · intro hc2
    have hc2d := of_decide_eq_false hc2
    obtain rfl : j = 64 := by omega
    refine c_exit ?_
    refine ite_t rfl ?_
    refine c_seq ?_
    refine c_region ?_
    refine t_q (q_fieldAddr 136 Tryd.runUnderlying154 rfl Tryd.sizeOf4 (by decide) rfl rfl) ?_
    refine t_q (q_load1 Tryd.isAgg4 rfl (hS.cell (by repeat first | exact .here _ _ | assumption | apply Pick.there) nB_neg)) ?_
    refine t_q (q_fieldAddr 136 Tryd.runUnderlying154 rfl Tryd.sizeOf4 (by decide) rfl rfl) ?_
    refine t_q (q_load1 Tryd.isAgg4 rfl (hS.cell (by repeat first | exact .here _ _ | assumption | apply Pick.there) nB_neg)) ?_
    refine t_q (q_cast (v' := .bool false) (q_neq_bool Tryd.runUnderlying4 rfl rfl) (by rfl)) ?_
    refine t_q (q_mv (.bool _) rfl) ?_
    refine t_no rfl rfl (by decide) ?_
    refine t_no rfl rfl (by decide) ?_
    refine t_no rfl rfl (by decide) ?_
    refine t_q (q_pick_f rfl rfl) ?_
    refine t_q (q_fieldAddr 136 Tryd.runUnderlying154 rfl Tryd.sizeOf4 (by decide) rfl rfl) ?_
    refine t_store (v := (.bool _)) Tryd.sizeOf4 hS (by repeat first | exact .here _ _ | assumption | apply Pick.there) rfl rfl rfl rfl rfl (Nat.ble_eq_true_of_le (by rw [nB_len]; exact Nat.le_refl 137)) (fun w hS => ?_)
    replace hS := hS.recast (congrArg (blkA g5 154) ((nB_sign (v := (mulA p q 64)) (s := false)).trans (congrArg (nB (mulA p q 64)) (show _ = false from rfl))))
    refine t_nil ?_
    refine c_seq ?_
    replace hS := ((hS.pick (A := blkA g5 154 (nB (mulA p q 64) false)) (by repeat first | exact .here _ _ | assumption | apply Pick.there))).recast (congrArg (fun v => blkA g5 154 (nB v false)) (mul_all hq))
    refine c_region ?_
    refine t_q (q_load_blk Tryd.isAgg154 Tryd.sizeOf154 rfl (hS.blk (by repeat first | exact .here _ _ | assumption | apply Pick.there)) (nB_len _ _)) ?_
    refine t_store (v := (.agg _)) (vs := nB (BitVec.ofNat 136 (p * q)) false) Tryd.sizeOf154 hS (by repeat first | exact .here _ _ | assumption | apply Pick.there) rfl rfl rfl (nB_len _ _) (nB_one _ _) (Nat.ble_eq_true_of_le (by rw [nF_len, nB_len]; decide)) (fun w hS => ?_)
    replace hS := hS.recast (congrArg (blkA g4 154) (rset_full (vs := nB (BitVec.ofNat 136 (p * q)) false) (by rw [nF_len, nB_len])))
    refine t_nil ?_
    refine c_ret ?_
    refine r_one rfl (res1_cellN Tryd.isAgg154 Tryd.sizeOf154 rfl (hS.blk (by repeat first | exact .here _ _ | assumption | apply Pick.there)) (nB_len _ _)) ?_
    exact ⟨rfl, hS.nil⟩
set_option maxHeartbeats 1000000 in
set_option maxRecDepth 100000 in
theorem minusn_calls {v : BitVec 136} : Calls Tryd.prog 101 #[.agg (nB v false).toArray] W fun e w' => e = .returned (.agg (nB v (!decide (v = 0#136))).toArray) ∧ St W w' [] := by
  have hS := St.init W
  refine calls_of_wpE (args := [_]) Tryd.func101 rfl rfl rfl ?_
  refine c_seq ?_
  refine c_region ?_
  refine t_box (v := (.agg _)) rfl rfl hS (fun g1 w hS => ?_)
  replace hS := hS.recast (show _ = blkA g1 154 (nB v false) from rfl)
  refine t_alloc (cs := nF (fun _ : Nat => false) false) Tryd.zeroValue154 (by kernel_rfl) hS (fun g2 w hS => ?_)
  refine t_nil ?_
  refine c_seq ?_
  refine c_region ?_
  refine t_q (q_fieldAddr 136 Tryd.runUnderlying154 rfl Tryd.sizeOf4 (by decide) rfl rfl) ?_
  refine t_q (q_load1 Tryd.isAgg4 rfl (hS.cell (by repeat first | exact .here _ _ | assumption | apply Pick.there) nB_neg)) ?_
  refine t_q (q_not rfl) ?_
  refine t_q (q_mv (.bool _) rfl) ?_
  refine t_yes rfl rfl rfl ?_
  refine t_q (q_load_blk Tryd.isAgg154 Tryd.sizeOf154 rfl (hS.blk (by repeat first | exact .here _ _ | assumption | apply Pick.there)) (nB_len _ _)) ?_
  refine t_yes rfl rfl rfl ?_
  refine t_call Tryd.call110 (nought_calls) rfl ?_
  rintro e w ⟨rfl, hT⟩
  refine ⟨_, rfl, ?_⟩
  replace hS := hS.after hT
  refine t_yes rfl rfl rfl ?_
  refine t_q (q_not rfl) ?_
  refine t_q (q_pick_t rfl rfl) ?_
  refine t_q (q_fieldAddr 136 Tryd.runUnderlying154 rfl Tryd.sizeOf4 (by decide) rfl rfl) ?_
  refine t_store (v := (.bool _)) Tryd.sizeOf4 hS (by repeat first | exact .here _ _ | assumption | apply Pick.there) rfl rfl rfl rfl rfl (Nat.ble_eq_true_of_le (by rw [nB_len]; exact Nat.le_refl 137)) (fun w hS => ?_)
  replace hS := hS.recast (congrArg (blkA g1 154) nB_sign)
  refine t_nil ?_
  refine c_seq ?_
  refine c_region ?_
  refine t_q (q_load_blk Tryd.isAgg154 Tryd.sizeOf154 rfl (hS.blk (by repeat first | exact .here _ _ | assumption | apply Pick.there)) (nB_len _ _)) ?_
  refine t_store (v := (.agg _)) (vs := nB v (!decide (v = 0#136))) Tryd.sizeOf154 hS (by repeat first | exact .here _ _ | assumption | apply Pick.there) rfl rfl rfl (nB_len _ _) (nB_one _ _) (Nat.ble_eq_true_of_le (by rw [nF_len, nB_len]; decide)) (fun w hS => ?_)
  replace hS := hS.recast (congrArg (blkA g2 154) (rset_full (vs := nB v (!decide (v = 0#136))) (by rw [nF_len, nB_len])))
  refine t_nil ?_
  refine c_ret ?_
  refine r_one rfl (res1_cellN Tryd.isAgg154 Tryd.sizeOf154 rfl (hS.blk (by repeat first | exact .here _ _ | assumption | apply Pick.there)) (nB_len _ _)) ?_
  exact ⟨rfl, hS.nil⟩
set_option maxHeartbeats 2000000 in
set_option maxRecDepth 100000 in
theorem plusn_calls {a b : BitVec 136} : Calls Tryd.prog 98 #[.agg (nB a false).toArray, .agg (nB b (!decide (b = 0#136))).toArray] W fun e w' => ∃ u, e = .returned (.agg (nB u (decide (a.toNat < b.toNat))).toArray) ∧ St W w' [] := by
  have hS := St.init W
  refine calls_of_wpE (args := [_, _]) Tryd.func98 rfl rfl rfl ?_
  refine c_seq ?_
  refine c_region ?_
  refine t_box (v := (.agg _)) rfl rfl hS (fun g2 w hS => ?_)
  replace hS := hS.recast (show _ = blkA g2 154 (nB a false) from rfl)
  refine t_box (v := (.agg _)) rfl rfl hS (fun g3 w hS => ?_)
  replace hS := hS.recast (show _ = blkA g3 154 (nB b (!decide (b = 0#136))) from rfl)
  refine t_alloc (cs := nF (fun _ : Nat => false) false) Tryd.zeroValue154 (by kernel_rfl) hS (fun g4 w hS => ?_)
  refine t_nil ?_
  refine c_seq ?_
  refine c_region ?_
  refine t_alloc (cs := nF (fun _ : Nat => false) false) Tryd.zeroValue154 (by kernel_rfl) hS (fun g5 w hS => ?_)
  refine t_nil ?_
  refine c_cut [6, 7, 8, 9, 10, 11, 12, 13, 14, 15, 16, 17, 18, 19, 20, 21, 22, 23, 24, 25, 26, 27, 28, 29, 30, 31] (fun σ w => ∃ u : BitVec 136, (a.toNat < b.toNat → u ≠ 0#136) ∧ St W w [blkA g5 154 (nB u (decide (a.toNat < b.toNat))), blkA g2 154 (nB a false), blkA g3 154 (nB b (!decide (b = 0#136))), blkA g4 154 (nF (fun _ : Nat => false) false)]) rfl ?_ ?_
  ·
    refine c_seq ?_
    refine c_region ?_
    refine t_q (q_fieldAddr 136 Tryd.runUnderlying154 rfl Tryd.sizeOf4 (by decide) rfl rfl) ?_
    refine t_q (q_load1 Tryd.isAgg4 rfl (hS.cell (by repeat first | exact .here _ _ | assumption | apply Pick.there) nB_neg)) ?_
    refine t_q (q_fieldAddr 136 Tryd.runUnderlying154 rfl Tryd.sizeOf4 (by decide) rfl rfl) ?_
    refine t_q (q_load1 Tryd.isAgg4 rfl (hS.cell (by repeat first | exact .here _ _ | assumption | apply Pick.there) nB_neg)) ?_
    refine t_q (q_eql_bool Tryd.runUnderlying4 rfl rfl) ?_
    refine t_nil ?_
    refine c_cond rfl ?_ ?_
    · intro hc4
      have hc4d := of_decide_eq_true hc4
      have hb0 : b = 0#136 := by have h1 := of_decide_eq_true hc4; cases h2 : decide (b = 0#136) with
        | true => exact of_decide_eq_true h2
        | false => rw [h2] at h1; cases h1
      have hnl : ¬ a.toNat < b.toNat := by rw [hb0]; exact Nat.not_lt_zero _
      have hun : a.toNat < b.toNat → (a + b) ≠ 0#136 := fun h => absurd h hnl
      refine c_seq ?_
      refine c_region ?_
      refine t_q (q_load_blk Tryd.isAgg154 Tryd.sizeOf154 rfl (hS.blk (by repeat first | exact .here _ _ | assumption | apply Pick.there)) (nB_len _ _)) ?_
      refine t_q (q_load_blk Tryd.isAgg154 Tryd.sizeOf154 rfl (hS.blk (by repeat first | exact .here _ _ | assumption | apply Pick.there)) (nB_len _ _)) ?_
      refine t_call Tryd.call107 (more_calls) rfl ?_
      rintro e w ⟨rfl, hT⟩
      refine ⟨_, rfl, ?_⟩
      replace hS := hS.after hT
      refine t_store (v := (.agg _)) (vs := nB (a + b) false) Tryd.sizeOf154 hS (by repeat first | exact .here _ _ | assumption | apply Pick.there) rfl rfl rfl (nB_len _ _) (nB_one _ _) (Nat.ble_eq_true_of_le (by rw [nF_len, nB_len]; decide)) (fun w hS => ?_)
      replace hS := hS.recast (congrArg (blkA g5 154) (rset_full (vs := nB (a + b) false) (by rw [nF_len, nB_len])))
      refine t_nil ?_
      refine c_region ?_
      refine t_q (q_fieldAddr 136 Tryd.runUnderlying154 rfl Tryd.sizeOf4 (by decide) rfl rfl) ?_
      refine t_q (q_load1 Tryd.isAgg4 rfl (hS.cell (by repeat first | exact .here _ _ | assumption | apply Pick.there) nB_neg)) ?_
      refine t_q (q_fieldAddr 136 Tryd.runUnderlying154 rfl Tryd.sizeOf4 (by decide) rfl rfl) ?_
      refine t_store (v := (.bool _)) Tryd.sizeOf4 hS (by repeat first | exact .here _ _ | assumption | apply Pick.there) rfl rfl rfl rfl rfl (Nat.ble_eq_true_of_le (by rw [nB_len]; exact Nat.le_refl 137)) (fun w hS => ?_)
      replace hS := hS.recast (congrArg (blkA g5 154) ((nB_sign (v := (a + b)) (s := false)).trans (congrArg (nB (a + b)) (show _ = (decide (a.toNat < b.toNat)) from (decide_eq_false hnl).symm))))
      refine t_nil ?_
      exact ⟨_, hun, ((((hS.pick (A := blkA g4 154 (nF (fun _ : Nat => false) false)) (by repeat first | exact .here _ _ | assumption | apply Pick.there)).pick (A := blkA g3 154 (nB b (!decide (b = 0#136)))) (by repeat first | exact .here _ _ | assumption | apply Pick.there)).pick (A := blkA g2 154 (nB a false)) (by repeat first | exact .here _ _ | assumption | apply Pick.there)).pick (A := blkA g5 154 (nB _ (decide (a.toNat < b.toNat)))) (by repeat first | exact .here _ _ | assumption | apply Pick.there)).front4⟩
    · intro hc4
      have hc4d := of_decide_eq_false hc4
      have hb0 : (!decide (b = 0#136)) = true := by have h1 := of_decide_eq_false hc4; cases h2 : decide (b = 0#136) with
        | true => rw [h2] at h1; exact absurd rfl h1
        | false => rfl
      refine c_seq ?_
      refine c_region ?_
      refine t_q (q_load_blk Tryd.isAgg154 Tryd.sizeOf154 rfl (hS.blk (by repeat first | exact .here _ _ | assumption | apply Pick.there)) (nB_len _ _)) ?_
      refine t_q (q_load_blk Tryd.isAgg154 Tryd.sizeOf154 rfl (hS.blk (by repeat first | exact .here _ _ | assumption | apply Pick.there)) (nB_len _ _)) ?_
      refine t_call Tryd.call108 (below_calls) rfl ?_
      rintro e w ⟨rfl, hT⟩
      refine ⟨_, rfl, ?_⟩
      replace hS := hS.after hT
      refine t_nil ?_
      refine c_cond rfl ?_ ?_
      · intro hc8
        have hlt := of_decide_eq_true hc8
        have hun : a.toNat < b.toNat → (b - a) ≠ 0#136 := fun _ h => by
          have h1 := BitVec.sub_add_cancel b a
          rw [h, BitVec.zero_add] at h1
          rw [h1] at hlt
          exact Nat.lt_irrefl _ hlt
        refine c_seq ?_
        refine c_region ?_
        refine t_q (q_load_blk Tryd.isAgg154 Tryd.sizeOf154 rfl (hS.blk (by repeat first | exact .here _ _ | assumption | apply Pick.there)) (nB_len _ _)) ?_
        refine t_q (q_load_blk Tryd.isAgg154 Tryd.sizeOf154 rfl (hS.blk (by repeat first | exact .here _ _ | assumption | apply Pick.there)) (nB_len _ _)) ?_
        refine t_call Tryd.call109 (lessn_calls) rfl ?_
        rintro e w ⟨rfl, hT⟩
        refine ⟨_, rfl, ?_⟩
        replace hS := hS.after hT
        refine t_store (v := (.agg _)) (vs := nB (b - a) false) Tryd.sizeOf154 hS (by repeat first | exact .here _ _ | assumption | apply Pick.there) rfl rfl rfl (nB_len _ _) (nB_one _ _) (Nat.ble_eq_true_of_le (by rw [nF_len, nB_len]; decide)) (fun w hS => ?_)
        replace hS := hS.recast (congrArg (blkA g5 154) (rset_full (vs := nB (b - a) false) (by rw [nF_len, nB_len])))
        refine t_nil ?_
        refine c_region ?_
        refine t_q (q_fieldAddr 136 Tryd.runUnderlying154 rfl Tryd.sizeOf4 (by decide) rfl rfl) ?_
        refine t_q (q_load1 Tryd.isAgg4 rfl (hS.cell (by repeat first | exact .here _ _ | assumption | apply Pick.there) nB_neg)) ?_
        refine t_q (q_fieldAddr 136 Tryd.runUnderlying154 rfl Tryd.sizeOf4 (by decide) rfl rfl) ?_
        refine t_store (v := (.bool _)) Tryd.sizeOf4 hS (by repeat first | exact .here _ _ | assumption | apply Pick.there) rfl rfl rfl rfl rfl (Nat.ble_eq_true_of_le (by rw [nB_len]; exact Nat.le_refl 137)) (fun w hS => ?_)
        replace hS := hS.recast (congrArg (blkA g5 154) ((nB_sign (v := (b - a)) (s := false)).trans (congrArg (nB (b - a)) (show _ = (decide (a.toNat < b.toNat)) from hb0.trans (decide_eq_true hlt).symm))))
        refine t_nil ?_
        exact ⟨_, hun, ((((hS.pick (A := blkA g4 154 (nF (fun _ : Nat => false) false)) (by repeat first | exact .here _ _ | assumption | apply Pick.there)).pick (A := blkA g3 154 (nB b (!decide (b = 0#136)))) (by repeat first | exact .here _ _ | assumption | apply Pick.there)).pick (A := blkA g2 154 (nB a false)) (by repeat first | exact .here _ _ | assumption | apply Pick.there)).pick (A := blkA g5 154 (nB _ (decide (a.toNat < b.toNat)))) (by repeat first | exact .here _ _ | assumption | apply Pick.there)).front4⟩
      · intro hc8
        have hnl := of_decide_eq_false hc8
        have hun : a.toNat < b.toNat → (a - b) ≠ 0#136 := fun h => absurd h hnl
        refine c_seq ?_
        refine c_region ?_
        refine t_q (q_load_blk Tryd.isAgg154 Tryd.sizeOf154 rfl (hS.blk (by repeat first | exact .here _ _ | assumption | apply Pick.there)) (nB_len _ _)) ?_
        refine t_q (q_load_blk Tryd.isAgg154 Tryd.sizeOf154 rfl (hS.blk (by repeat first | exact .here _ _ | assumption | apply Pick.there)) (nB_len _ _)) ?_
        refine t_call Tryd.call109 (lessn_calls) rfl ?_
        rintro e w ⟨rfl, hT⟩
        refine ⟨_, rfl, ?_⟩
        replace hS := hS.after hT
        refine t_store (v := (.agg _)) (vs := nB (a - b) false) Tryd.sizeOf154 hS (by repeat first | exact .here _ _ | assumption | apply Pick.there) rfl rfl rfl (nB_len _ _) (nB_one _ _) (Nat.ble_eq_true_of_le (by rw [nF_len, nB_len]; decide)) (fun w hS => ?_)
        replace hS := hS.recast (congrArg (blkA g5 154) (rset_full (vs := nB (a - b) false) (by rw [nF_len, nB_len])))
        refine t_nil ?_
        refine c_region ?_
        refine t_q (q_fieldAddr 136 Tryd.runUnderlying154 rfl Tryd.sizeOf4 (by decide) rfl rfl) ?_
        refine t_q (q_load1 Tryd.isAgg4 rfl (hS.cell (by repeat first | exact .here _ _ | assumption | apply Pick.there) nB_neg)) ?_
        refine t_q (q_fieldAddr 136 Tryd.runUnderlying154 rfl Tryd.sizeOf4 (by decide) rfl rfl) ?_
        refine t_store (v := (.bool _)) Tryd.sizeOf4 hS (by repeat first | exact .here _ _ | assumption | apply Pick.there) rfl rfl rfl rfl rfl (Nat.ble_eq_true_of_le (by rw [nB_len]; exact Nat.le_refl 137)) (fun w hS => ?_)
        replace hS := hS.recast (congrArg (blkA g5 154) ((nB_sign (v := (a - b)) (s := false)).trans (congrArg (nB (a - b)) (show _ = (decide (a.toNat < b.toNat)) from (decide_eq_false hnl).symm))))
        refine t_nil ?_
        exact ⟨_, hun, ((((hS.pick (A := blkA g4 154 (nF (fun _ : Nat => false) false)) (by repeat first | exact .here _ _ | assumption | apply Pick.there)).pick (A := blkA g3 154 (nB b (!decide (b = 0#136)))) (by repeat first | exact .here _ _ | assumption | apply Pick.there)).pick (A := blkA g2 154 (nB a false)) (by repeat first | exact .here _ _ | assumption | apply Pick.there)).pick (A := blkA g5 154 (nB _ (decide (a.toNat < b.toNat)))) (by repeat first | exact .here _ _ | assumption | apply Pick.there)).front4⟩
  ·
    rintro σ w ⟨u, hu, hS⟩
    refine c_seq ?_
    refine c_region ?_
    refine t_q (q_fieldAddr 136 Tryd.runUnderlying154 rfl Tryd.sizeOf4 (by decide) rfl rfl) ?_
    refine t_q (q_load1 Tryd.isAgg4 rfl (hS.cell (by repeat first | exact .here _ _ | assumption | apply Pick.there) nB_neg)) ?_
    refine t_q (q_mv (.bool _) rfl) ?_
    refine t_case 34 rfl ?_ ?_
    · intro hg14
      have hsg : (decide (a.toNat < b.toNat)) = true := hg14
      have hu0 := hu (of_decide_eq_true hsg)
      refine t_yes rfl rfl hg14 ?_
      refine t_q (q_load_blk Tryd.isAgg154 Tryd.sizeOf154 rfl (hS.blk (by repeat first | exact .here _ _ | assumption | apply Pick.there)) (nB_len _ _)) ?_
      refine t_yes rfl rfl hg14 ?_
      refine t_call Tryd.call110 (nought_calls) rfl ?_
      rintro e w ⟨rfl, hT⟩
      refine ⟨_, rfl, ?_⟩
      replace hS := hS.after hT
      refine t_yes rfl rfl hg14 ?_
      refine t_q (q_not rfl) ?_
      refine t_q (q_pick_t rfl hg14) ?_
      refine t_q (q_fieldAddr 136 Tryd.runUnderlying154 rfl Tryd.sizeOf4 (by decide) rfl rfl) ?_
      refine t_store (v := (.bool _)) Tryd.sizeOf4 hS (by repeat first | exact .here _ _ | assumption | apply Pick.there) rfl rfl rfl rfl rfl (Nat.ble_eq_true_of_le (by rw [nB_len]; exact Nat.le_refl 137)) (fun w hS => ?_)
      replace hS := hS.recast (congrArg (blkA g5 154) (nB_sign.trans (congrArg (nB u) (show _ = (decide (a.toNat < b.toNat)) from by first | (rw [hsg, decide_eq_false hu0]; rfl) | rw [hsg]))))
      refine t_nil ?_
      refine c_seq ?_
      refine c_region ?_
      refine t_q (q_load_blk Tryd.isAgg154 Tryd.sizeOf154 rfl (hS.blk (by repeat first | exact .here _ _ | assumption | apply Pick.there)) (nB_len _ _)) ?_
      refine t_store (v := (.agg _)) (vs := nB u (decide (a.toNat < b.toNat))) Tryd.sizeOf154 hS (by repeat first | exact .here _ _ | assumption | apply Pick.there) rfl rfl rfl (nB_len _ _) (nB_one _ _) (Nat.ble_eq_true_of_le (by rw [nF_len, nB_len]; decide)) (fun w hS => ?_)
      replace hS := hS.recast (congrArg (blkA g4 154) (rset_full (vs := nB u (decide (a.toNat < b.toNat))) (by rw [nF_len, nB_len])))
      refine t_nil ?_
      refine c_ret ?_
      refine r_one rfl (res1_cellN Tryd.isAgg154 Tryd.sizeOf154 rfl (hS.blk (by repeat first | exact .here _ _ | assumption | apply Pick.there)) (nB_len _ _)) ?_
      exact ⟨u, rfl, hS.nil⟩
    · intro hg14
      have hsg : (decide (a.toNat < b.toNat)) = false := hg14
      refine t_no rfl rfl (by rw [hg14]; decide) ?_
      refine t_no rfl rfl (by rw [hg14]; decide) ?_
      refine t_no rfl rfl (by rw [hg14]; decide) ?_
      refine t_q (q_pick_f rfl hg14) ?_
      refine t_q (q_fieldAddr 136 Tryd.runUnderlying154 rfl Tryd.sizeOf4 (by decide) rfl rfl) ?_
      refine t_store (v := (.bool _)) Tryd.sizeOf4 hS (by repeat first | exact .here _ _ | assumption | apply Pick.there) rfl rfl rfl rfl rfl (Nat.ble_eq_true_of_le (by rw [nB_len]; exact Nat.le_refl 137)) (fun w hS => ?_)
      replace hS := hS.recast (congrArg (blkA g5 154) (nB_sign.trans (congrArg (nB u) (show _ = (decide (a.toNat < b.toNat)) from by first | (rw [hsg, decide_eq_false hu0]; rfl) | rw [hsg]))))
      refine t_nil ?_
      refine c_seq ?_
      refine c_region ?_
      refine t_q (q_load_blk Tryd.isAgg154 Tryd.sizeOf154 rfl (hS.blk (by repeat first | exact .here _ _ | assumption | apply Pick.there)) (nB_len _ _)) ?_
      refine t_store (v := (.agg _)) (vs := nB u (decide (a.toNat < b.toNat))) Tryd.sizeOf154 hS (by repeat first | exact .here _ _ | assumption | apply Pick.there) rfl rfl rfl (nB_len _ _) (nB_one _ _) (Nat.ble_eq_true_of_le (by rw [nF_len, nB_len]; decide)) (fun w hS => ?_)
      replace hS := hS.recast (congrArg (blkA g4 154) (rset_full (vs := nB u (decide (a.toNat < b.toNat))) (by rw [nF_len, nB_len])))
      refine t_nil ?_
      refine c_ret ?_
      refine r_one rfl (res1_cellN Tryd.isAgg154 Tryd.sizeOf154 rfl (hS.blk (by repeat first | exact .here _ _ | assumption | apply Pick.there)) (nB_len _ _)) ?_
      exact ⟨u, rfl, hS.nil⟩
theorem num_less {a b c d : Int} (ha : 0 ≤ a ∧ a ≤ 9223372036854775807) (hb : 0 ≤ b ∧ b ≤ 9223372036854775807) (hc : 0 ≤ c ∧ c ≤ 9223372036854775807) (hd : 0 ≤ d ∧ d ≤ 9223372036854775807) : decide ((BitVec.ofNat 136 (a.toNat * b.toNat)).toNat < (BitVec.ofNat 136 (c.toNat * d.toNat)).toNat) = decide (a * b < c * d) := by
  rw [num_lt (prod_lt (by omega) (by omega)) (prod_lt (by omega) (by omega)), decide_eq_decide]
  obtain ⟨a, rfl⟩ := Int.eq_ofNat_of_zero_le ha.1
  obtain ⟨b, rfl⟩ := Int.eq_ofNat_of_zero_le hb.1
  obtain ⟨c, rfl⟩ := Int.eq_ofNat_of_zero_le hc.1
  obtain ⟨d, rfl⟩ := Int.eq_ofNat_of_zero_le hd.1
  rw [Int.toNat_natCast, Int.toNat_natCast, Int.toNat_natCast, Int.toNat_natCast, ← Int.natCast_mul, ← Int.natCast_mul]
  exact Int.ofNat_lt.symm
set_option maxHeartbeats 1000000 in
set_option maxRecDepth 100000 in
theorem qless_calls {a b c d : Int} (ha : 0 ≤ a ∧ a ≤ 9223372036854775807) (hb : 0 ≤ b ∧ b ≤ 9223372036854775807) (hc : 0 ≤ c ∧ c ≤ 9223372036854775807) (hd : 0 ≤ d ∧ d ≤ 9223372036854775807) : Calls Tryd.prog 84 #[.int .i64 a, .int .i64 b, .int .i64 c, .int .i64 d] W fun e w' => e = .returned (.bool (decide (a * b < c * d))) ∧ St W w' [] := by
  have hS := St.init W
  refine calls_of_wpE (args := [_, _, _, _]) Tryd.func84 rfl rfl rfl ?_
  refine c_seq ?_
  refine c_region ?_
  refine t_q (q_assign) ?_
  refine t_nil ?_
  refine c_seq ?_
  refine c_region ?_
  refine t_q (q_mv (.int _ _) rfl) ?_
  refine t_call Tryd.call100 (ofn_calls (x := a) ha) rfl ?_
  rintro e w ⟨rfl, hT⟩
  refine ⟨_, rfl, ?_⟩
  replace hS := hS.after hT
  refine t_q (q_mv (.int _ _) rfl) ?_
  refine t_call Tryd.call100 (ofn_calls (x := b) hb) rfl ?_
  rintro e w ⟨rfl, hT⟩
  refine ⟨_, rfl, ?_⟩
  replace hS := hS.after hT
  refine t_call Tryd.call99 (timesn_calls (p := a.toNat) (q := b.toNat) (by omega)) rfl ?_
  rintro e w ⟨rfl, hT⟩
  refine ⟨_, rfl, ?_⟩
  replace hS := hS.after hT
  refine t_q (q_mv (.int _ _) rfl) ?_
  refine t_call Tryd.call100 (ofn_calls (x := c) hc) rfl ?_
  rintro e w ⟨rfl, hT⟩
  refine ⟨_, rfl, ?_⟩
  replace hS := hS.after hT
  refine t_q (q_mv (.int _ _) rfl) ?_
  refine t_call Tryd.call100 (ofn_calls (x := d) hd) rfl ?_
  rintro e w ⟨rfl, hT⟩
  refine ⟨_, rfl, ?_⟩
  replace hS := hS.after hT
  refine t_call Tryd.call99 (timesn_calls (p := c.toNat) (q := d.toNat) (by omega)) rfl ?_
  rintro e w ⟨rfl, hT⟩
  refine ⟨_, rfl, ?_⟩
  replace hS := hS.after hT
  refine t_call Tryd.call101 (minusn_calls (v := (BitVec.ofNat 136 (c.toNat * d.toNat)))) rfl ?_
  rintro e w ⟨rfl, hT⟩
  refine ⟨_, rfl, ?_⟩
  replace hS := hS.after hT
  refine t_call Tryd.call98 (plusn_calls (a := (BitVec.ofNat 136 (a.toNat * b.toNat))) (b := (BitVec.ofNat 136 (c.toNat * d.toNat)))) rfl ?_
  rintro e w ⟨u, rfl, hT⟩
  refine ⟨_, rfl, ?_⟩
  replace hS := hS.after hT
  refine t_alloc (cs := nF (fun _ : Nat => false) false) Tryd.zeroValue154 (by kernel_rfl) hS (fun g9 w hS => ?_)
  refine t_store (v := (.agg _)) (vs := nB u (decide ((BitVec.ofNat 136 (a.toNat * b.toNat)).toNat < (BitVec.ofNat 136 (c.toNat * d.toNat)).toNat))) Tryd.sizeOf154 hS (by repeat first | exact .here _ _ | assumption | apply Pick.there) rfl rfl rfl (nB_len _ _) (nB_one _ _) (Nat.ble_eq_true_of_le (by rw [nF_len, nB_len]; decide)) (fun w hS => ?_)
  replace hS := hS.recast (congrArg (blkA g9 154) (rset_full (vs := nB u (decide ((BitVec.ofNat 136 (a.toNat * b.toNat)).toNat < (BitVec.ofNat 136 (c.toNat * d.toNat)).toNat))) (by rw [nF_len, nB_len])))
  refine t_nil ?_
  refine c_seq ?_
  refine c_region ?_
  refine t_q (q_fieldAddr 136 Tryd.runUnderlying154 rfl Tryd.sizeOf4 (by decide) rfl rfl) ?_
  refine t_q (q_load1 Tryd.isAgg4 rfl (hS.cell (by repeat first | exact .here _ _ | assumption | apply Pick.there) nB_neg)) ?_
  refine t_q (q_as (.bool _) rfl) ?_
  refine t_nil ?_
  refine c_ret ?_
  refine r_one rfl rfl ?_
  rw [num_less ha hb hc hd]
  exact ⟨rfl, hS.nil⟩
end Go.Proofs.YtcgagmojgjbfpaaDoor
