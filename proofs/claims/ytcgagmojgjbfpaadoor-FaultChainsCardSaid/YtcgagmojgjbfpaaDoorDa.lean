/- Digits. -/
import Derived.Test.YtcgagmojgjbfpaaDoorTx
import Derived.Test.YtcgagmojgjbfpaaDoorFb
namespace Go.Proofs.YtcgagmojgjbfpaaDoor
open Go Go.RowKit Go.Lib
variable {W : World}
/-- a number's decimal digits -/
def dig (k : Nat) : UInt8 := UInt8.ofNat (48 + k)
def decN (n : Nat) : List UInt8 := if _h : n < 10 then [dig n] else decN (n / 10) ++ [dig (n % 10)]
termination_by n
decreasing_by omega
def decI (n : Int) : List UInt8 := if n < 0 then 45 :: decN n.natAbs else decN n.natAbs
theorem decN_lt {n : Nat} (h : n < 10) : decN n = [dig n] := by rw [decN, dif_pos h]
theorem decN_ge {n : Nat} (h : ¬ n < 10) : decN n = decN (n / 10) ++ [dig (n % 10)] := by rw [decN, dif_neg h]
theorem decN_len : ∀ (k n : Nat), 1 ≤ k → n < 10 ^ k → 1 ≤ (decN n).length ∧ (decN n).length ≤ k := by
  intro k
  induction k with
  | zero => intro n h; omega
  | succ k ih =>
    intro n _ hn
    by_cases h : n < 10
    · rw [decN_lt h]; exact ⟨Nat.le_refl _, by show 1 ≤ k + 1; omega⟩
    · rw [decN_ge h, List.length_append]
      have hk : 1 ≤ k := by
        rcases Nat.eq_zero_or_pos k with h0 | h0
        · subst h0; rw [Nat.pow_succ, Nat.pow_zero, Nat.one_mul] at hn; omega
        · exact h0
      rw [Nat.pow_succ] at hn
      have := ih (n / 10) hk (by omega)
      exact ⟨by show 1 ≤ _ + 1; omega, by show _ + 1 ≤ k + 1; omega⟩
theorem decN_step {n u : Nat} {acc : List UInt8} (h : decN n = decN u ++ acc) (hu : u / 10 ≠ 0) : decN n = decN (u / 10) ++ (dig (u % 10) :: acc) := by
  rw [h, decN_ge (n := u) (by omega), List.append_assoc]
  rfl
theorem decN_last {n u : Nat} {acc : List UInt8} (h : decN n = decN u ++ acc) (hu : u / 10 = 0) : decN n = dig (u % 10) :: acc := by
  rw [h, decN_lt (by omega), Nat.mod_eq_of_lt (by omega)]
  rfl
theorem dig_val {k : Nat} (h : k < 10) : bv (dig k) = .int .u8 (48 + (k : Int)) := by
  unfold bv dig
  rw [UInt8.toNat_ofNat_of_lt' (by simp [UInt8.size]; omega)]
  congr 1
theorem decI_len {n : Int} (h : -9223372036854775808 ≤ n ∧ n ≤ 9223372036854775807) : 1 ≤ (decI n).length ∧ (decI n).length ≤ 20 := by
  have h1 := decN_len 19 n.natAbs (by decide) (by omega)
  unfold decI
  split
  · rw [List.length_cons]; omega
  · omega
theorem tmod_neg {n : Int} (h : n < 0) : Int.tmod n 10 = -((n.natAbs % 10 : Nat) : Int) := by
  obtain ⟨m, rfl⟩ : ∃ m : Nat, n = -(m : Int) := ⟨n.natAbs, by omega⟩
  rw [Int.neg_tmod, Int.natAbs_neg, Int.natAbs_natCast, Int.tmod_eq_emod_of_nonneg (by omega)]
  omega
theorem tdiv_neg {n : Int} (h : n < 0) : Int.tdiv n 10 = -((n.natAbs / 10 : Nat) : Int) := by
  obtain ⟨m, rfl⟩ : ∃ m : Nat, n = -(m : Int) := ⟨n.natAbs, by omega⟩
  rw [Int.neg_tdiv, Int.natAbs_neg, Int.natAbs_natCast, Int.tdiv_eq_ediv_of_nonneg (by omega)]
  omega
theorem decI_neg_small {n : Int} (h : n < 0) (h2 : -10 < n) : decI n = 45 :: [dig (n.natAbs % 10)] := by
  unfold decI
  rw [if_pos h, decN_lt (by omega), Nat.mod_eq_of_lt (by omega)]
theorem decI_neg_big {n : Int} (h2 : ¬ -10 < n) : decI n = decI (-((n.natAbs / 10 : Nat) : Int)) ++ [dig (n.natAbs % 10)] := by
  unfold decI
  rw [if_pos (by omega), if_pos (by omega), decN_ge (by omega), Int.natAbs_neg, Int.natAbs_natCast]
  rfl
theorem decI_pos_small {n : Int} (h : ¬ n < 0) (h2 : n < 10) : decI n = [dig (n.natAbs % 10)] := by
  unfold decI
  rw [if_neg h, decN_lt (by omega), Nat.mod_eq_of_lt (by omega)]
theorem decI_pos_big {n : Int} (h : ¬ n < 0) (h2 : ¬ n < 10) : decI n = decI ((n.natAbs / 10 : Nat) : Int) ++ [dig (n.natAbs % 10)] := by
  unfold decI
  rw [if_neg h, if_neg (by omega), decN_ge (by omega), Int.natAbs_natCast]
/-- layers in a text, the outermost first -/
def txtL : List Int → List UInt8
  | [] => []
  | a :: l => decI a ++ l.flatMap fun b => 62 :: decI b
theorem txt_nil : txtL [] = [] := rfl
theorem txtL_eq (a : Int) (l : List Int) : txtL (a :: l) = decI a ++ l.flatMap fun b => 62 :: decI b := rfl
theorem txtL_cons (a b : Int) (l : List Int) : txtL (a :: b :: l) = decI a ++ 62 :: txtL (b :: l) := by
  rw [txtL_eq, txtL_eq, List.flatMap_cons, List.cons_append]
theorem txtL_step : ∀ {l : List Int} {j : Nat} (h : j < l.length), txtL (l.take (j + 1)) = (if 0 < j then txtL (l.take j) ++ [62] else txtL (l.take j)) ++ decI (l.getD j 0)
  | [], _, h => absurd h (Nat.not_lt_zero _)
  | a :: l, 0, _ => by
    show decI a ++ _ = [] ++ decI a
    simp
  | a :: l, j + 1, h => by
    have hj : j < l.length := Nat.lt_of_succ_lt_succ h
    rw [if_pos (Nat.succ_pos _), List.take_succ_cons, List.take_succ_cons, List.take_succ_eq_append_getElem hj, List.getD_cons_succ, List.getD_eq_getElem?_getD, List.getElem?_eq_getElem hj]
    rw [txtL_eq, txtL_eq, List.flatMap_append, List.flatMap_cons, List.flatMap_nil, List.append_nil]
    simp
theorem txtL_len : ∀ {l : List Int}, (∀ x ∈ l, -9223372036854775808 ≤ x ∧ x ≤ 9223372036854775807) → (txtL l).length ≤ 21 * l.length
  | [], _ => Nat.le_refl _
  | [a], h => by
    have := decI_len (h a List.mem_cons_self)
    rw [txtL_eq, List.flatMap_nil, List.append_nil, List.length_singleton]
    omega
  | a :: b :: l, h => by
    have h1 := decI_len (h a List.mem_cons_self)
    have h2 := txtL_len (l := b :: l) fun x hx => h x (List.mem_cons_of_mem _ hx)
    rw [txtL_cons, List.length_append, List.length_cons, List.length_cons]
    omega
theorem set_tail {z v : Value} {m : Nat} {R : List Value} : setN (List.replicate (m + 1) z ++ R) m [v] = List.replicate m z ++ (v :: R) := by
  show List.set _ _ _ = _
  rw [List.set_append_left _ _ (by rw [List.length_replicate]; omega), List.replicate_succ', List.set_append_right _ _ (by rw [List.length_replicate]; omega), List.length_replicate, Nat.sub_self, List.append_assoc]
  rfl
theorem tail_rd {w : World} {g t m : Nat} {z : Value} {l : List UInt8} (hb : Blk w g t (List.replicate m z ++ l.map bv)) : RdB w (some ⟨g, 0 + m * 1, none⟩) l :=
  hb.rd fun i hi => ⟨rfl, fun j v hv => by
    unfold bsf at hv
    have h0 : j = 0 := by
      rcases Nat.eq_zero_or_pos j with h | h
      · exact h
      · rw [List.getElem?_eq_none (by show 1 ≤ j; omega)] at hv; cases hv
    subst h0
    rw [List.getElem?_append_right (by rw [List.length_replicate]; omega), List.length_replicate, show 0 + m * 1 + (i * 1 + 0) - m = i by omega, List.getElem?_map, List.getElem?_eq_getElem hi]
    rw [List.getD_eq_getElem?_getD, List.getElem?_eq_getElem hi] at hv
    exact hv⟩
attribute [local irreducible] decI dig txtL blkA rowA rdsA
set_option maxHeartbeats 1000000 in
set_option maxRecDepth 100000 in
theorem fdig_calls {n : Int} (hn : -9223372036854775808 ≤ n ∧ n ≤ 9223372036854775807) : Calls Tryd.prog 42 #[.int .i64 n] W fun e w' => e = .returned (.string ⟨(decI n).toArray⟩) ∧ St W w' [] := by
  have hS := St.init W
  have hD0 := decN_len 20 n.natAbs (by decide) (by omega)
  refine calls_of_wpE (args := [_]) Tryd.func42 rfl rfl rfl ?_
  refine c_seq ?_
  refine c_region ?_
  refine t_q (q_assign) ?_
  refine t_nil ?_
  refine c_seq ?_
  refine c_region ?_
  refine t_alloc (cs := List.replicate 20 (.int .u8 0)) Tryd.zeroValue112 (by kernel_rfl) hS (fun g3 w hS => ?_)
  refine t_nil ?_
  refine c_seq ?_
  refine c_region ?_
  refine t_q (q_mv (.int _ _) rfl) ?_
  first | refine t_q (q_conv_u64 Tryd.runUnderlying3 Tryd.runUnderlying103 rfl (by omega)) ?_ | refine t_q (q_convm_u64 Tryd.runUnderlying3 Tryd.runUnderlying103 rfl) ?_
  refine t_q (q_assign) ?_
  refine t_q (q_as (.int _ _) rfl) ?_
  refine t_nil ?_
  refine c_seq ?_
  refine c_seq ?_
  refine c_region ?_
  refine t_q (q_mv (.int _ _) rfl) ?_
  refine t_q (q_lss rfl rfl) ?_
  refine t_nil ?_
  refine c_cond rfl ?_ ?_
  · intro hc2
    have hc2d := of_decide_eq_true hc2
    refine c_region ?_
    refine t_q (q_mv (.int _ _) rfl) ?_
    refine t_q (q_cast (v' := .int .u64 (n.natAbs : Int)) (q_negm_u64 rfl) (congrArg (Value.int .u64) (by omega))) ?_
    refine t_q (q_as (.int _ _) rfl) ?_
    refine t_nil ?_
    refine c_seq ?_
    refine c_block ?_
    refine c_loop [4, 5, 12, 13, 14, 15, 16, 17, 18, 19, 20, 21, 22, 23] (fun k σ w => ∃ (u : Nat) (acc : List UInt8), σ 4 = .int .i64 ((20 - acc.length : Nat) : Int) ∧ σ 5 = .int .u64 (u : Int) ∧ decN n.natAbs = decN u ++ acc ∧ u ≤ n.natAbs ∧ (decN u).length ≤ k ∧ St W w [blkA g3 112 (List.replicate (20 - acc.length) (.int .u8 0) ++ acc.map bv)]) (20) rfl (⟨n.natAbs, [], rfl, congrArg (Value.int .u64) (by omega), by rw [List.append_nil], Nat.le_refl _, by omega, hS⟩) ?_
    skip
    rintro k σ w ⟨u, acc, h4, h5, hacc, hu, hk, hS⟩
    refine c_know 4 h4 ?_
    refine c_know 5 h5 ?_
    clear h4 h5
    have hlen := congrArg List.length hacc
    rw [List.length_append] at hlen
    have hu1 := decN_len 20 u (by decide) (by omega)
    refine c_block ?_
    refine c_seq ?_
    refine c_region ?_
    refine t_q (q_mv (.int _ _) rfl) ?_
    refine t_q (q_cast (v' := .int .i64 ((20 - acc.length - 1 : Nat) : Int)) (q_sub_i64 rfl rfl (by omega)) (congrArg (Value.int .i64) (by omega))) ?_
    refine t_q (q_as (.int _ _) rfl) ?_
    refine t_nil ?_
    refine c_seq ?_
    refine c_region ?_
    refine t_q (q_mv (.int _ _) rfl) ?_
    refine t_q (q_mv (.int _ _) rfl) ?_
    refine t_q (q_rem_n rfl rfl (by omega) (by omega)) ?_
    refine t_q (q_add_u64 rfl rfl (by omega)) ?_
    refine t_q (q_cast (v' := bv (dig (u % 10))) (q_conv_u8 Tryd.runUnderlying103 Tryd.runUnderlying5 rfl (by omega)) (by rw [dig_val (by omega)]; exact congrArg (Value.int .u8) (by omega))) ?_
    first | refine t_q (q_arr_nat Tryd.runUnderlying112 Tryd.sizeOf5 rfl rfl (by omega)) ?_ | refine t_q (q_arr Tryd.runUnderlying112 Tryd.sizeOf5 rfl rfl (by omega)) ?_
    refine t_store (v := (.int _ _)) Tryd.sizeOf5 hS (by repeat first | exact .here _ _ | assumption | apply Pick.there) rfl rfl rfl rfl rfl (Nat.ble_eq_true_of_le (by rw [List.length_append, List.length_replicate, List.length_map]; show 0 + (20 - acc.length - 1) * 1 + 1 ≤ _; omega)) (fun w hS => ?_)
    replace hS := hS.recast (congrArg (blkA g3 112) (show _ = List.replicate (20 - (dig (u % 10) :: acc).length) (.int .u8 0) ++ (dig (u % 10) :: acc).map bv from by
      rw [List.length_cons, show 20 - acc.length = (20 - (acc.length + 1)) + 1 by omega]
      exact (congrArg (fun k => setN _ k _) (show 0 + (20 - (acc.length + 1) + 1 - 1) * 1 = 20 - (acc.length + 1) by omega)).trans set_tail))
    refine t_nil ?_
    refine c_seq ?_
    refine c_region ?_
    refine t_q (q_mv (.int _ _) rfl) ?_
    refine t_q (q_cast (v' := .int .u64 ((u / 10 : Nat) : Int)) (q_quo_n rfl rfl (by omega) (by omega) (wrap_u64 (by omega))) (congrArg (Value.int .u64) (by omega))) ?_
    refine t_q (q_as (.int _ _) rfl) ?_
    refine t_nil ?_
    refine c_seq ?_
    refine c_region ?_
    refine t_q (q_mv (.int _ _) rfl) ?_
    refine t_q (q_eql rfl rfl) ?_
    refine t_nil ?_
    refine c_cond rfl ?_ ?_
    · intro hc5
      have hc5d := of_decide_eq_true hc5
      have hlast := decN_last hacc (by omega)
      obtain ⟨acc2, hacc2⟩ : ∃ a, a = dig (u % 10) :: acc := ⟨_, rfl⟩
      rw [← hacc2] at hlast hS
      have hl2 : acc2.length = acc.length + 1 := by rw [hacc2]; rfl
      replace hacc := hlast
      refine c_exit ?_
      refine ite_f (by decide) ?_
      refine ite_t rfl ?_
      refine c_cut [4, 24, 25, 26, 27, 28, 29] (fun σ w => ∃ l : List UInt8, l = decI n ∧ l.length ≤ 20 ∧ 1 ≤ l.length ∧ σ 4 = .int .i64 ((20 - l.length : Nat) : Int) ∧ St W w [blkA g3 112 (List.replicate (20 - l.length) (.int .u8 0) ++ l.map bv)]) rfl ?_ ?_
      ·
        refine c_seq ?_
        refine c_region ?_
        refine t_q (q_mv (.int _ _) rfl) ?_
        refine t_q (q_lss rfl rfl) ?_
        refine t_nil ?_
        refine c_cond rfl ?_ ?_
        · intro hc7
          have hc7d := of_decide_eq_true hc7
          have hneg : n < 0 := by omega
          have h19 : (decN n.natAbs).length ≤ 19 := (decN_len 19 n.natAbs (by decide) (by omega)).2
          rw [hacc] at h19
          refine c_seq ?_
          refine c_region ?_
          refine t_q (q_mv (.int _ _) rfl) ?_
          refine t_q (q_cast (v' := .int .i64 ((20 - acc2.length - 1 : Nat) : Int)) (q_sub_i64 rfl rfl (by omega)) (congrArg (Value.int .i64) (by omega))) ?_
          refine t_q (q_as (.int _ _) rfl) ?_
          refine t_nil ?_
          refine c_region ?_
          refine t_q (q_mv (.int _ _) rfl) ?_
          first | refine t_q (q_arr_nat Tryd.runUnderlying112 Tryd.sizeOf5 rfl rfl (by omega)) ?_ | refine t_q (q_arr Tryd.runUnderlying112 Tryd.sizeOf5 rfl rfl (by omega)) ?_
          refine t_store (v := (.int _ _)) Tryd.sizeOf5 hS (by repeat first | exact .here _ _ | assumption | apply Pick.there) rfl rfl rfl rfl rfl (Nat.ble_eq_true_of_le (by rw [List.length_append, List.length_replicate, List.length_map]; show 0 + (20 - acc2.length - 1) * 1 + 1 ≤ _; omega)) (fun w hS => ?_)
          replace hS := hS.recast (congrArg (blkA g3 112) (show _ = List.replicate (20 - (45 :: acc2).length) (.int .u8 0) ++ (45 :: acc2 : List UInt8).map bv from by
            rw [List.length_cons, show 20 - acc2.length = (20 - (acc2.length + 1)) + 1 by omega]
            exact (congrArg (fun k => setN _ k _) (show 0 + (20 - (acc2.length + 1) + 1 - 1) * 1 = 20 - (acc2.length + 1) by omega)).trans set_tail))
          have hD : (45 :: acc2 : List UInt8) = decI n := by unfold decI; rw [if_pos (by omega), hacc]
          have hL : (45 :: acc2 : List UInt8).length ≤ 20 := by rw [List.length_cons]; omega
          refine t_nil ?_
          exact ⟨_, hD, hL, by first | omega | (rw [List.length_cons]; omega), congrArg (Value.int .i64) (by first | rfl | omega | (rw [List.length_cons]; omega)), hS⟩
        · intro hc7
          have hc7d := of_decide_eq_false hc7
          have hD : acc2 = decI n := by unfold decI; rw [if_neg (by omega), hacc]
          have hL : acc2.length ≤ 20 := by omega
          refine c_skip ?_
          exact ⟨_, hD, hL, by first | omega | (rw [List.length_cons]; omega), congrArg (Value.int .i64) (by first | rfl | omega | (rw [List.length_cons]; omega)), hS⟩
      ·
        rintro σ w ⟨l, hl, hl20, hl1, h4, hS⟩
        skip
        refine c_know 4 h4 ?_
        refine c_seq ?_
        refine c_region ?_
        refine t_q (q_mv (.int _ _) rfl) ?_
        refine t_q (q_cast (v' := .slice (some ⟨g3, 0 + (20 - l.length) * 1, none⟩) l.length l.length) (q_arr_from Tryd.runUnderlying112 Tryd.sizeOf5 rfl rfl (by omega) (by omega)) (by rw [Int.toNat_natCast, show 20 - (20 - l.length) = l.length by omega])) ?_
        refine t_q (q_string Tryd.runUnderlying57 Tryd.runUnderlying5 Tryd.runUnderlying9 rfl rfl (tail_rd (l := l) (hS.blk (by repeat first | exact .here _ _ | assumption | apply Pick.there)))) ?_
        refine t_q (q_as (.string _) rfl) ?_
        refine t_nil ?_
        refine c_ret ?_
        refine r_one rfl rfl ?_
        rw [← hl]
        exact ⟨rfl, hS.nil⟩
    · intro hc5
      have hc5d := of_decide_eq_false hc5
      have hu0 : u / 10 ≠ 0 := by omega
      refine c_skip ?_
      have hstep := decN_step hacc hu0
      have hl2 : (decN (u / 10)).length + 1 = (decN u).length := by rw [decN_ge (n := u) (by omega), List.length_append]; rfl
      exact ⟨k - 1, by omega, u / 10, dig (u % 10) :: acc, congrArg (Value.int .i64) (by rw [List.length_cons]; omega), rfl, hstep, by omega, by omega, hS⟩
  · intro hc2
    have hc2d := of_decide_eq_false hc2
    refine c_skip ?_
    refine c_seq ?_
    refine c_block ?_
    refine c_loop [4, 5, 12, 13, 14, 15, 16, 17, 18, 19, 20, 21, 22, 23] (fun k σ w => ∃ (u : Nat) (acc : List UInt8), σ 4 = .int .i64 ((20 - acc.length : Nat) : Int) ∧ σ 5 = .int .u64 (u : Int) ∧ decN n.natAbs = decN u ++ acc ∧ u ≤ n.natAbs ∧ (decN u).length ≤ k ∧ St W w [blkA g3 112 (List.replicate (20 - acc.length) (.int .u8 0) ++ acc.map bv)]) (20) rfl (⟨n.natAbs, [], rfl, congrArg (Value.int .u64) (by omega), by rw [List.append_nil], Nat.le_refl _, by omega, hS⟩) ?_
    skip
    rintro k σ w ⟨u, acc, h4, h5, hacc, hu, hk, hS⟩
    refine c_know 4 h4 ?_
    refine c_know 5 h5 ?_
    clear h4 h5
    have hlen := congrArg List.length hacc
    rw [List.length_append] at hlen
    have hu1 := decN_len 20 u (by decide) (by omega)
    refine c_block ?_
    refine c_seq ?_
    refine c_region ?_
    refine t_q (q_mv (.int _ _) rfl) ?_
    refine t_q (q_cast (v' := .int .i64 ((20 - acc.length - 1 : Nat) : Int)) (q_sub_i64 rfl rfl (by omega)) (congrArg (Value.int .i64) (by omega))) ?_
    refine t_q (q_as (.int _ _) rfl) ?_
    refine t_nil ?_
    refine c_seq ?_
    refine c_region ?_
    refine t_q (q_mv (.int _ _) rfl) ?_
    refine t_q (q_mv (.int _ _) rfl) ?_
    refine t_q (q_rem_n rfl rfl (by omega) (by omega)) ?_
    refine t_q (q_add_u64 rfl rfl (by omega)) ?_
    refine t_q (q_cast (v' := bv (dig (u % 10))) (q_conv_u8 Tryd.runUnderlying103 Tryd.runUnderlying5 rfl (by omega)) (by rw [dig_val (by omega)]; exact congrArg (Value.int .u8) (by omega))) ?_
    first | refine t_q (q_arr_nat Tryd.runUnderlying112 Tryd.sizeOf5 rfl rfl (by omega)) ?_ | refine t_q (q_arr Tryd.runUnderlying112 Tryd.sizeOf5 rfl rfl (by omega)) ?_
    refine t_store (v := (.int _ _)) Tryd.sizeOf5 hS (by repeat first | exact .here _ _ | assumption | apply Pick.there) rfl rfl rfl rfl rfl (Nat.ble_eq_true_of_le (by rw [List.length_append, List.length_replicate, List.length_map]; show 0 + (20 - acc.length - 1) * 1 + 1 ≤ _; omega)) (fun w hS => ?_)
    replace hS := hS.recast (congrArg (blkA g3 112) (show _ = List.replicate (20 - (dig (u % 10) :: acc).length) (.int .u8 0) ++ (dig (u % 10) :: acc).map bv from by
      rw [List.length_cons, show 20 - acc.length = (20 - (acc.length + 1)) + 1 by omega]
      exact (congrArg (fun k => setN _ k _) (show 0 + (20 - (acc.length + 1) + 1 - 1) * 1 = 20 - (acc.length + 1) by omega)).trans set_tail))
    refine t_nil ?_
    refine c_seq ?_
    refine c_region ?_
    refine t_q (q_mv (.int _ _) rfl) ?_
    refine t_q (q_cast (v' := .int .u64 ((u / 10 : Nat) : Int)) (q_quo_n rfl rfl (by omega) (by omega) (wrap_u64 (by omega))) (congrArg (Value.int .u64) (by omega))) ?_
    refine t_q (q_as (.int _ _) rfl) ?_
    refine t_nil ?_
    refine c_seq ?_
    refine c_region ?_
    refine t_q (q_mv (.int _ _) rfl) ?_
    refine t_q (q_eql rfl rfl) ?_
    refine t_nil ?_
    refine c_cond rfl ?_ ?_
    · intro hc11
      have hc11d := of_decide_eq_true hc11
      have hlast := decN_last hacc (by omega)
      obtain ⟨acc2, hacc2⟩ : ∃ a, a = dig (u % 10) :: acc := ⟨_, rfl⟩
      rw [← hacc2] at hlast hS
      have hl2 : acc2.length = acc.length + 1 := by rw [hacc2]; rfl
      replace hacc := hlast
      refine c_exit ?_
      refine ite_f (by decide) ?_
      refine ite_t rfl ?_
      refine c_cut [4, 24, 25, 26, 27, 28, 29] (fun σ w => ∃ l : List UInt8, l = decI n ∧ l.length ≤ 20 ∧ 1 ≤ l.length ∧ σ 4 = .int .i64 ((20 - l.length : Nat) : Int) ∧ St W w [blkA g3 112 (List.replicate (20 - l.length) (.int .u8 0) ++ l.map bv)]) rfl ?_ ?_
      ·
        refine c_seq ?_
        refine c_region ?_
        refine t_q (q_mv (.int _ _) rfl) ?_
        refine t_q (q_lss rfl rfl) ?_
        refine t_nil ?_
        refine c_cond rfl ?_ ?_
        · intro hc13
          have hc13d := of_decide_eq_true hc13
          have hneg : n < 0 := by omega
          have h19 : (decN n.natAbs).length ≤ 19 := (decN_len 19 n.natAbs (by decide) (by omega)).2
          rw [hacc] at h19
          refine c_seq ?_
          refine c_region ?_
          refine t_q (q_mv (.int _ _) rfl) ?_
          refine t_q (q_cast (v' := .int .i64 ((20 - acc2.length - 1 : Nat) : Int)) (q_sub_i64 rfl rfl (by omega)) (congrArg (Value.int .i64) (by omega))) ?_
          refine t_q (q_as (.int _ _) rfl) ?_
          refine t_nil ?_
          refine c_region ?_
          refine t_q (q_mv (.int _ _) rfl) ?_
          first | refine t_q (q_arr_nat Tryd.runUnderlying112 Tryd.sizeOf5 rfl rfl (by omega)) ?_ | refine t_q (q_arr Tryd.runUnderlying112 Tryd.sizeOf5 rfl rfl (by omega)) ?_
          refine t_store (v := (.int _ _)) Tryd.sizeOf5 hS (by repeat first | exact .here _ _ | assumption | apply Pick.there) rfl rfl rfl rfl rfl (Nat.ble_eq_true_of_le (by rw [List.length_append, List.length_replicate, List.length_map]; show 0 + (20 - acc2.length - 1) * 1 + 1 ≤ _; omega)) (fun w hS => ?_)
          replace hS := hS.recast (congrArg (blkA g3 112) (show _ = List.replicate (20 - (45 :: acc2).length) (.int .u8 0) ++ (45 :: acc2 : List UInt8).map bv from by
            rw [List.length_cons, show 20 - acc2.length = (20 - (acc2.length + 1)) + 1 by omega]
            exact (congrArg (fun k => setN _ k _) (show 0 + (20 - (acc2.length + 1) + 1 - 1) * 1 = 20 - (acc2.length + 1) by omega)).trans set_tail))
          have hD : (45 :: acc2 : List UInt8) = decI n := by unfold decI; rw [if_pos (by omega), hacc]
          have hL : (45 :: acc2 : List UInt8).length ≤ 20 := by rw [List.length_cons]; omega
          refine t_nil ?_
          exact ⟨_, hD, hL, by first | omega | (rw [List.length_cons]; omega), congrArg (Value.int .i64) (by first | rfl | omega | (rw [List.length_cons]; omega)), hS⟩
        · intro hc13
          have hc13d := of_decide_eq_false hc13
          have hD : acc2 = decI n := by unfold decI; rw [if_neg (by omega), hacc]
          have hL : acc2.length ≤ 20 := by omega
          refine c_skip ?_
          exact ⟨_, hD, hL, by first | omega | (rw [List.length_cons]; omega), congrArg (Value.int .i64) (by first | rfl | omega | (rw [List.length_cons]; omega)), hS⟩
      ·
        rintro σ w ⟨l, hl, hl20, hl1, h4, hS⟩
        skip
        refine c_know 4 h4 ?_
        refine c_seq ?_
        refine c_region ?_
        refine t_q (q_mv (.int _ _) rfl) ?_
        refine t_q (q_cast (v' := .slice (some ⟨g3, 0 + (20 - l.length) * 1, none⟩) l.length l.length) (q_arr_from Tryd.runUnderlying112 Tryd.sizeOf5 rfl rfl (by omega) (by omega)) (by rw [Int.toNat_natCast, show 20 - (20 - l.length) = l.length by omega])) ?_
        refine t_q (q_string Tryd.runUnderlying57 Tryd.runUnderlying5 Tryd.runUnderlying9 rfl rfl (tail_rd (l := l) (hS.blk (by repeat first | exact .here _ _ | assumption | apply Pick.there)))) ?_
        refine t_q (q_as (.string _) rfl) ?_
        refine t_nil ?_
        refine c_ret ?_
        refine r_one rfl rfl ?_
        rw [← hl]
        exact ⟨rfl, hS.nil⟩
    · intro hc11
      have hc11d := of_decide_eq_false hc11
      have hu0 : u / 10 ≠ 0 := by omega
      refine c_skip ?_
      have hstep := decN_step hacc hu0
      have hl2 : (decN (u / 10)).length + 1 = (decN u).length := by rw [decN_ge (n := u) (by omega), List.length_append]; rfl
      exact ⟨k - 1, by omega, u / 10, dig (u % 10) :: acc, congrArg (Value.int .i64) (by rw [List.length_cons]; omega), rfl, hstep, by omega, by omega, hS⟩
theorem bvi_nat (b : UInt8) : bvi ((b.toNat : Nat) : Int) = b := by
  unfold bvi
  rw [Int.toNat_natCast]
  exact UInt8.ofNat_toNat
set_option maxHeartbeats 1000000 in
set_option maxRecDepth 100000 in
theorem ldig_step {n : Int} (hn : -9223372036854775808 ≤ n ∧ n ≤ 9223372036854775807) (ih : ∀ m : Int, m.natAbs < n.natAbs → -9223372036854775808 ≤ m ∧ m ≤ 9223372036854775807 → ∀ W : World, Calls Tryd.prog 12 #[.int .i64 m] W fun e w' => e = .returned (.string ⟨(decI m).toArray⟩) ∧ St W w' []) : Calls Tryd.prog 12 #[.int .i64 n] W fun e w' => e = .returned (.string ⟨(decI n).toArray⟩) ∧ St W w' [] := by
  have hS := St.init W
  have hD0 := decI_len hn
  refine calls_of_wpE (args := [_]) Tryd.func12 rfl rfl rfl ?_
  refine c_seq ?_
  refine c_region ?_
  refine t_q (q_assign) ?_
  refine t_nil ?_
  refine c_seq ?_
  refine c_seq ?_
  refine c_region ?_
  refine t_q (q_mv (.int _ _) rfl) ?_
  refine t_q (q_lss rfl rfl) ?_
  refine t_nil ?_
  refine c_cond rfl ?_ ?_
  · intro hc2
    have hc2d := of_decide_eq_true hc2
    have hneg : n < 0 := by omega
    refine c_seq ?_
    refine c_region ?_
    refine t_q (q_mv (.int _ _) rfl) ?_
    refine t_q (q_cast (v' := .int .i64 (-((n.natAbs % 10 : Nat) : Int))) (q_rem rfl rfl (by decide)) (congrArg (Value.int .i64) (tmod_neg hneg))) ?_
    refine t_q (q_sub_i64 rfl rfl (by omega)) ?_
    refine t_q (q_cast (v' := bv (dig (n.natAbs % 10))) (q_conv_u8 Tryd.runUnderlying3 Tryd.runUnderlying5 rfl (by omega)) (by rw [dig_val (by omega)] <;> first | done | exact congrArg (Value.int .u8) (by omega))) ?_
    refine t_build_bytes [((dig (n.natAbs % 10)).toNat : Int)] Tryd.runUnderlying57 Tryd.sizeOf5 Tryd.zeroValue5 rfl rfl (by intro a ha; rw [List.mem_singleton.1 ha]; have := (dig (n.natAbs % 10)).toNat_lt; omega) (by decide) hS (fun g11 w hS => ?_)
    rw [show ([((dig (n.natAbs % 10)).toNat : Int)].map bvi).map bv = [dig (n.natAbs % 10)].map bv from by rw [List.map_cons, bvi_nat]; rfl] at hS
    refine t_q (q_string Tryd.runUnderlying57 Tryd.runUnderlying5 Tryd.runUnderlying9 rfl rfl (hS.rowRd (bs := [dig (n.natAbs % 10)]) (by repeat first | exact .here _ _ | assumption | apply Pick.there) rfl)) ?_
    refine t_q (q_as (.string _) rfl) ?_
    refine t_nil ?_
    refine c_seq ?_
    refine c_seq ?_
    refine c_region ?_
    refine t_q (q_mv (.int _ _) rfl) ?_
    refine t_q (q_gtr rfl rfl) ?_
    refine t_nil ?_
    refine c_cond rfl ?_ ?_
    · intro hc4
      have hc4d := of_decide_eq_true hc4
      have hD : decI n = _ := decI_neg_small hneg (by omega)
      refine c_seq ?_
      refine c_region ?_
      refine t_q (q_mv (.string _) rfl) ?_
      refine t_q (q_add_lst (a := [45]) (b := [dig (n.natAbs % 10)]) rfl rfl (by show 1 + 1 ≤ _; omega)) ?_
      refine t_q (q_as (.string _) rfl) ?_
      refine t_nil ?_
      refine c_ret ?_
      refine r_one rfl rfl ?_
      rw [hD]
      exact ⟨rfl, hS.nil⟩
    · intro hc4
      have hc4d := of_decide_eq_false hc4
      have hD := decI_neg_big (n := n) (by omega)
      have hL := decI_len (n := -((n.natAbs / 10 : Nat) : Int)) (by omega)
      refine c_skip ?_
      refine c_seq ?_
      refine c_region ?_
      refine t_q (q_mv (.int _ _) rfl) ?_
      refine t_q (q_cast (v' := .int .i64 (-((n.natAbs / 10 : Nat) : Int))) (q_quo rfl rfl (by decide)) (congrArg (Value.int .i64) (by rw [tdiv_neg hneg, wrap_i64 (by omega)]))) ?_
      refine t_call Tryd.call12 (ih (-((n.natAbs / 10 : Nat) : Int)) (by omega) (by omega) _) rfl ?_
      rintro e w ⟨rfl, hT⟩
      refine ⟨_, rfl, ?_⟩
      replace hS := hS.after hT
      refine t_q (q_mv (.string _) rfl) ?_
      refine t_q (q_add_lst (a := decI (-((n.natAbs / 10 : Nat) : Int))) (b := [dig (n.natAbs % 10)]) rfl rfl (by show _ + 1 ≤ _; omega)) ?_
      refine t_q (q_as (.string _) rfl) ?_
      refine t_nil ?_
      refine c_ret ?_
      refine r_one rfl rfl ?_
      rw [hD]
      exact ⟨rfl, hS.nil⟩
  · intro hc2
    have hc2d := of_decide_eq_false hc2
    refine c_skip ?_
    refine c_seq ?_
    refine c_region ?_
    refine t_q (q_mv (.int _ _) rfl) ?_
    refine t_q (q_cast (v' := .int .i64 (((n.natAbs % 10 : Nat) : Int))) (q_rem rfl rfl (by decide)) (congrArg (Value.int .i64) (by rw [Int.tmod_eq_emod_of_nonneg (by omega)]; omega))) ?_
    refine t_q (q_add_i64 rfl rfl (by omega)) ?_
    refine t_q (q_cast (v' := bv (dig (n.natAbs % 10))) (q_conv_u8 Tryd.runUnderlying3 Tryd.runUnderlying5 rfl (by omega)) (by rw [dig_val (by omega)] <;> first | done | exact congrArg (Value.int .u8) (by omega))) ?_
    refine t_build_bytes [((dig (n.natAbs % 10)).toNat : Int)] Tryd.runUnderlying57 Tryd.sizeOf5 Tryd.zeroValue5 rfl rfl (by intro a ha; rw [List.mem_singleton.1 ha]; have := (dig (n.natAbs % 10)).toNat_lt; omega) (by decide) hS (fun g26 w hS => ?_)
    rw [show ([((dig (n.natAbs % 10)).toNat : Int)].map bvi).map bv = [dig (n.natAbs % 10)].map bv from by rw [List.map_cons, bvi_nat]; rfl] at hS
    refine t_q (q_string Tryd.runUnderlying57 Tryd.runUnderlying5 Tryd.runUnderlying9 rfl rfl (hS.rowRd (bs := [dig (n.natAbs % 10)]) (by repeat first | exact .here _ _ | assumption | apply Pick.there) rfl)) ?_
    refine t_q (q_as (.string _) rfl) ?_
    refine t_nil ?_
    refine c_seq ?_
    refine c_seq ?_
    refine c_region ?_
    refine t_q (q_mv (.int _ _) rfl) ?_
    refine t_q (q_lss rfl rfl) ?_
    refine t_nil ?_
    refine c_cond rfl ?_ ?_
    · intro hc7
      have hc7d := of_decide_eq_true hc7
      have hD : decI n = _ := decI_pos_small (by omega) (by omega)
      refine c_seq ?_
      refine c_region ?_
      refine t_q (q_mv (.string _) rfl) ?_
      refine t_q (q_as (.string _) rfl) ?_
      refine t_nil ?_
      refine c_ret ?_
      refine r_one rfl rfl ?_
      rw [hD]
      exact ⟨rfl, hS.nil⟩
    · intro hc7
      have hc7d := of_decide_eq_false hc7
      have hD := decI_pos_big (n := n) (by omega) (by omega)
      have hL := decI_len (n := ((n.natAbs / 10 : Nat) : Int)) (by omega)
      refine c_skip ?_
      refine c_seq ?_
      refine c_region ?_
      refine t_q (q_mv (.int _ _) rfl) ?_
      refine t_q (q_cast (v' := .int .i64 (((n.natAbs / 10 : Nat) : Int))) (q_quo rfl rfl (by decide)) (congrArg (Value.int .i64) (by rw [Int.tdiv_eq_ediv_of_nonneg (by omega), wrap_i64 (by omega)]; omega))) ?_
      refine t_call Tryd.call12 (ih ((n.natAbs / 10 : Nat) : Int) (by omega) (by omega) _) rfl ?_
      rintro e w ⟨rfl, hT⟩
      refine ⟨_, rfl, ?_⟩
      replace hS := hS.after hT
      refine t_q (q_mv (.string _) rfl) ?_
      refine t_q (q_add_lst (a := decI ((n.natAbs / 10 : Nat) : Int)) (b := [dig (n.natAbs % 10)]) rfl rfl (by show _ + 1 ≤ _; omega)) ?_
      refine t_q (q_as (.string _) rfl) ?_
      refine t_nil ?_
      refine c_ret ?_
      refine r_one rfl rfl ?_
      rw [hD]
      exact ⟨rfl, hS.nil⟩
theorem ldig_all : ∀ (k : Nat) (n : Int), n.natAbs ≤ k → -9223372036854775808 ≤ n ∧ n ≤ 9223372036854775807 → ∀ W : World, Calls Tryd.prog 12 #[.int .i64 n] W fun e w' => e = .returned (.string ⟨(decI n).toArray⟩) ∧ St W w' [] := by
  intro k
  induction k with
  | zero => exact fun n hk hn W => ldig_step hn fun m hm _ _ => absurd hm (by omega)
  | succ k ih => exact fun n hk hn W => ldig_step hn fun m hm hm2 W => ih m (by omega) hm2 W
theorem ldig_calls {n : Int} (hn : -9223372036854775808 ≤ n ∧ n ≤ 9223372036854775807) : Calls Tryd.prog 12 #[.int .i64 n] W fun e w' => e = .returned (.string ⟨(decI n).toArray⟩) ∧ St W w' [] := ldig_all n.natAbs n (Nat.le_refl _) hn W
end Go.Proofs.YtcgagmojgjbfpaaDoor
