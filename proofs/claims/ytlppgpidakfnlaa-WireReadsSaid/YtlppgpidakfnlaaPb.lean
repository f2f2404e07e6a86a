/- Check sums: what the calls compute. -/
import Derived.Test.YtlppgpidakfnlaaPa
namespace Go.Proofs.Ytlppgpidakfnlaa
open Go Go.RowKit Go.Lib
variable {W : World}
set_option maxRecDepth 100000 in
theorem nib_calls {n : Nat} (hn : n < 4294967296) : Calls Try.prog 126 #[.int .u32 (n : Int)] W fun e w' => e = .returned (.int .u32 ((cit 4 n : Nat) : Int)) ∧ St W w' [] := by
  have hS := St.init W
  refine calls_of_wpE (args := [_]) Try.func126 rfl rfl rfl ?_
  refine c_seq ?_
  refine c_region ?_
  refine t_q (q_assign) ?_
  refine t_nil ?_
  refine c_seq ?_
  refine c_seq ?_
  refine c_region ?_
  refine t_q (q_move) ?_
  refine t_nil ?_
  refine c_block ?_
  refine c_loop [0, 3, 4, 5, 6, 7, 8, 9, 10, 11, 12] (fun k σ w => ∃ j x : Nat, σ 3 = .int .i64 (j : Int) ∧ σ 0 = .int .u32 (x : Int) ∧ x = cit j n ∧ j ≤ 4 ∧ 4 - j ≤ k ∧ St W w []) (4) rfl (⟨0, n, rfl, rfl, rfl, by omega, by omega, hS⟩) ?_
  skip
  rintro k σ w ⟨j, x, h3, h0, hx, hj, hk, hS⟩
  refine c_know 3 h3 ?_
  refine c_know 0 h0 ?_
  clear h3 h0
  have hxl : x < 4294967296 := by rw [hx]; exact cit_lt hn j
  have hm1 := mk_le x
  have hp1 := pk_le x
  refine c_seq ?_
  refine c_region ?_
  refine t_q (q_lss rfl rfl) ?_
  refine t_nil ?_
  refine c_seq ?_
  refine c_cond rfl ?_ ?_
  · intro hc2
    have hc2d := of_decide_eq_true hc2
    refine c_skip ?_
    refine c_seq ?_
    refine c_block ?_
    refine c_region ?_
    refine t_q (q_mv (.int _ _) rfl) ?_
    refine t_q (q_shr_n (D := 2) rfl rfl (by decide) (by decide) (by decide)) ?_
    refine t_q (q_mv (.int _ _) rfl) ?_
    refine t_q (q_cast (v' := .int .u32 ((x % 2 : Nat) : Int)) (q_and_u32 rfl rfl (by omega) (by omega)) (by rw [Int.toNat_natCast]; exact congrArg (fun n : Nat => Value.int .u32 (n : Int)) (Nat.and_one_is_mod x))) ?_
    refine t_q (q_cast (v' := .int .u32 (mk x : Int)) (q_negm_u32 rfl) (by rw [neg_mk])) ?_
    refine t_q (q_cast (v' := .int .u32 (pk x : Int)) (q_and_u32 rfl rfl (by omega) (by omega)) (by rw [Int.toNat_natCast]; exact congrArg (fun n : Nat => Value.int .u32 (n : Int)) (and_mk x))) ?_
    refine t_q (q_cast (v' := .int .u32 ((cst x : Nat) : Int)) (q_xor_u32 rfl rfl (by omega) (by omega)) (by rw [show ((x : Int) / 2).toNat = x / 2 from by omega, Int.toNat_natCast]; rfl)) ?_
    refine t_q (q_as (.int _ _) rfl) ?_
    refine t_nil ?_
    refine c_region ?_
    refine t_q (q_add_i64 rfl rfl (by omega)) ?_
    refine t_q (q_mv (.int _ _) rfl) ?_
    refine t_nil ?_
    exact ⟨k - 1, by omega, j + 1, cst x, rfl, rfl, by rw [hx]; rfl, by omega, by omega, hS⟩
  · intro hc2
    have hc2d := of_decide_eq_false hc2
    refine c_exit ?_
    refine ite_t rfl ?_
    refine c_seq ?_
    refine c_region ?_
    refine t_q (q_mv (.int _ _) rfl) ?_
    refine t_q (q_as (.int _ _) rfl) ?_
    refine t_nil ?_
    refine c_ret ?_
    refine r_one rfl rfl ?_
    obtain rfl : j = 4 := by omega
    rw [← hx]
    exact ⟨rfl, hS⟩
set_option maxRecDepth 100000 in
theorem sum_calls {A : Option Addr} {c : Nat} {bs : List UInt8} (hR : RdB W A bs) (hm : bs.length ≤ 1000000000) : Calls Try.prog 69 #[.slice A bs.length c] W fun e w' => e = .returned (.int .u32 ((crc bs : Nat) : Int)) ∧ St W w' [] := by
  have hS := St.init W
  refine calls_of_wpE (args := [_]) Try.func69 rfl rfl rfl ?_
  refine c_seq ?_
  refine c_region ?_
  refine t_q (q_assign) ?_
  refine t_nil ?_
  refine c_seq ?_
  refine c_region ?_
  refine t_q (q_as (.func _ _ _) rfl) ?_
  refine t_nil ?_
  refine c_seq ?_
  refine c_region ?_
  refine t_alloc Try.zeroValue191 rfl hS (fun g4 w hS => ?_)
  refine t_nil ?_
  refine c_seq ?_
  refine c_seq ?_
  refine c_region ?_
  refine t_q (q_move) ?_
  refine t_nil ?_
  refine c_block ?_
  refine c_loop [5, 9, 10, 11, 12, 13, 14, 15, 16, 17] (fun k σ w => ∃ i : Nat, σ 9 = .int .u32 (i : Int) ∧ i ≤ 16 ∧ 16 - i ≤ k ∧ St W w [blkA g4 191 (rowN i)]) (16) rfl (⟨0, rfl, by omega, by omega, hS.recast (show _ = blkA g4 191 (rowN 0) from rfl)⟩) ?_
  skip
  rintro k σ w ⟨i, h9, hi, hk, hS⟩
  refine c_know 9 h9 ?_
  clear h9
  refine c_seq ?_
  refine c_region ?_
  refine t_q (q_lss rfl rfl) ?_
  refine t_nil ?_
  refine c_seq ?_
  refine c_cond rfl ?_ ?_
  · intro hc2
    have hc2d := of_decide_eq_true hc2
    refine c_skip ?_
    refine c_seq ?_
    refine c_block ?_
    refine c_seq ?_
    refine c_region ?_
    refine t_q (q_mv (.int _ _) rfl) ?_
    refine t_q (q_as (.int _ _) rfl) ?_
    refine t_nil ?_
    refine c_region ?_
    refine t_q (q_mv (.int _ _) rfl) ?_
    refine t_q (q_mv (.func _ _ _) rfl) ?_
    refine t_q (q_mv (.int _ _) rfl) ?_
    refine t_callv Try.call126 rfl (nib_calls (n := i) (by omega)) rfl ?_
    rintro e w ⟨rfl, hT⟩
    refine ⟨_, rfl, ?_⟩
    replace hS := hS.after hT
    first | refine t_q (q_arr_nat Try.runUnderlying191 Try.sizeOf132 rfl rfl (by omega)) ?_ | refine t_q (q_arr Try.runUnderlying191 Try.sizeOf132 rfl rfl (by omega)) ?_
    refine t_store (v := (.int _ _)) Try.sizeOf132 hS (by repeat first | exact .here _ _ | assumption | apply Pick.there) rfl rfl rfl rfl rfl (Nat.ble_eq_true_of_le (by show 0 + i * 1 + 1 ≤ (rowN i).length; rw [rowN_len]; omega)) (fun w hS => ?_)
    refine t_nil ?_
    refine c_region ?_
    refine t_q (q_add_u32 rfl rfl (by omega)) ?_
    refine t_q (q_mv (.int _ _) rfl) ?_
    refine t_nil ?_
    exact ⟨k - 1, by omega, i + 1, rfl, by omega, by omega, hS.recast (congrArg (blkA g4 191 ·) (rowN_set (by omega)))⟩
  · intro hc2
    have hc2d := of_decide_eq_false hc2
    obtain rfl : i = 16 := by omega
    refine c_exit ?_
    refine ite_t rfl ?_
    refine c_seq ?_
    refine c_region ?_
    refine t_q (q_assign) ?_
    refine t_nil ?_
    refine c_seq ?_
    refine c_seq ?_
    refine c_region ?_
    refine t_q (q_mv (.slice _ _ _) rfl) ?_
    refine t_q (q_len_slice Try.runUnderlying25 rfl) ?_
    refine t_q (q_move) ?_
    refine t_nil ?_
    refine c_block ?_
    refine c_loop [6, 8, 20, 21, 22, 23, 24, 25, 26, 27, 28, 29, 30, 31, 32, 33, 34, 35, 36, 37, 38, 39, 40, 41, 42] (fun k σ w => ∃ j x : Nat, σ 20 = .int .i64 (j : Int) ∧ σ 6 = .int .u32 (x : Int) ∧ x = crcR (bs.take j) ∧ j ≤ bs.length ∧ bs.length - j ≤ k ∧ St W w [blkA g4 191 (rowN 16)]) (bs.length) rfl (⟨0, 4294967295, rfl, rfl, rfl, by omega, by omega, hS⟩) ?_
    skip
    rintro k σ w ⟨j, x, h20, h6, hx, hj, hk, hS⟩
    refine c_know 20 h20 ?_
    refine c_know 6 h6 ?_
    clear h20 h6
    have hxl : x < 4294967296 := by rw [hx]; exact crcR_lt _
    have hcb := (bs.getD j 0).toNat_lt
    have hy : (x ^^^ (bs.getD j 0).toNat) < 4294967296 := Nat.xor_lt_two_pow (n := 32) hxl (by omega)
    have hy2 : (cit 4 (x ^^^ (bs.getD j 0).toNat)) < 4294967296 := cit_lt hy 4
    have hn1 := cit_lt (n := (x ^^^ (bs.getD j 0).toNat) % 16) (by omega) 4
    have hn2 := cit_lt (n := (cit 4 (x ^^^ (bs.getD j 0).toNat)) % 16) (by omega) 4
    refine c_seq ?_
    refine c_region ?_
    refine t_q (q_lss rfl rfl) ?_
    refine t_nil ?_
    refine c_seq ?_
    refine c_cond rfl ?_ ?_
    · intro hc6
      have hc6d := of_decide_eq_true hc6
      have hjl : j < bs.length := by omega
      refine c_skip ?_
      refine c_seq ?_
      refine c_block ?_
      refine c_seq ?_
      refine c_region ?_
      first | refine t_index_nat Try.runUnderlying25 Try.sizeOf5 (hR.st hS) rfl rfl (by omega) (fun ad7 hl7 hx7 => ?_) | refine t_index Try.runUnderlying25 Try.sizeOf5 (hR.st hS) rfl rfl (by omega) (fun ad7 hl7 hx7 => ?_)
      refine t_q (q_cast (v' := .int .u8 ((bs.getD j 0).toNat : Int)) (q_load1 Try.isAgg5 rfl (hx7 0 _ rfl)) (rfl)) ?_
      refine t_q (q_as (.int _ _) rfl) ?_
      refine t_nil ?_
      refine c_seq ?_
      refine c_region ?_
      refine t_q (q_mv (.int _ _) rfl) ?_
      refine t_q (q_mv (.int _ _) rfl) ?_
      first | refine t_q (q_conv_u32 Try.runUnderlying5 Try.runUnderlying132 rfl (by omega)) ?_ | refine t_q (q_convm_u32 Try.runUnderlying5 Try.runUnderlying132 rfl) ?_
      refine t_q (q_cast (v' := .int .u32 (((x ^^^ (bs.getD j 0).toNat) : Nat) : Int)) (q_xor_u32 rfl rfl (by omega) (by omega)) (by rw [Int.toNat_natCast, Int.toNat_natCast])) ?_
      refine t_q (q_as (.int _ _) rfl) ?_
      refine t_nil ?_
      refine c_seq ?_
      refine c_region ?_
      refine t_q (q_mv (.int _ _) rfl) ?_
      refine t_q (q_shr_n (D := 16) rfl rfl (by decide) (by decide) (by decide)) ?_
      refine t_q (q_mv (.int _ _) rfl) ?_
      refine t_q (q_cast (v' := .int .u32 (((x ^^^ (bs.getD j 0).toNat) % 16 : Nat) : Int)) (q_and_u32 rfl rfl (by omega) (by omega)) (by rw [Int.toNat_natCast]; exact congrArg (fun n : Nat => Value.int .u32 (n : Int)) (Nat.and_two_pow_sub_one_eq_mod (x ^^^ (bs.getD j 0).toNat) 4))) ?_
      first | refine t_q (q_arr_nat Try.runUnderlying191 Try.sizeOf132 rfl rfl (by omega)) ?_ | refine t_q (q_arr Try.runUnderlying191 Try.sizeOf132 rfl rfl (by omega)) ?_
      refine t_q (q_load1 Try.isAgg132 rfl (hS.cell (by repeat first | exact .here _ _ | assumption | apply Pick.there) rowN_get)) ?_
      refine t_q (q_cast (v' := .int .u32 ((cit 4 (x ^^^ (bs.getD j 0).toNat) : Nat) : Int)) (q_xor_u32 rfl rfl (by omega) (by omega)) (by rw [cit4 (x ^^^ (bs.getD j 0).toNat), show (((x ^^^ (bs.getD j 0).toNat) : Nat) : Int) / 16 = (((x ^^^ (bs.getD j 0).toNat) / 16 : Nat) : Int) from by omega, Int.toNat_natCast, Int.toNat_natCast])) ?_
      refine t_q (q_as (.int _ _) rfl) ?_
      refine t_nil ?_
      refine c_region ?_
      refine t_q (q_mv (.int _ _) rfl) ?_
      refine t_q (q_shr_n (D := 16) rfl rfl (by decide) (by decide) (by decide)) ?_
      refine t_q (q_mv (.int _ _) rfl) ?_
      refine t_q (q_cast (v' := .int .u32 (((cit 4 (x ^^^ (bs.getD j 0).toNat)) % 16 : Nat) : Int)) (q_and_u32 rfl rfl (by omega) (by omega)) (by rw [Int.toNat_natCast]; exact congrArg (fun n : Nat => Value.int .u32 (n : Int)) (Nat.and_two_pow_sub_one_eq_mod (cit 4 (x ^^^ (bs.getD j 0).toNat)) 4))) ?_
      first | refine t_q (q_arr_nat Try.runUnderlying191 Try.sizeOf132 rfl rfl (by omega)) ?_ | refine t_q (q_arr Try.runUnderlying191 Try.sizeOf132 rfl rfl (by omega)) ?_
      refine t_q (q_load1 Try.isAgg132 rfl (hS.cell (by repeat first | exact .here _ _ | assumption | apply Pick.there) rowN_get)) ?_
      refine t_q (q_cast (v' := .int .u32 ((cit 4 (cit 4 (x ^^^ (bs.getD j 0).toNat)) : Nat) : Int)) (q_xor_u32 rfl rfl (by omega) (by omega)) (by rw [cit4 (cit 4 (x ^^^ (bs.getD j 0).toNat)), show (((cit 4 (x ^^^ (bs.getD j 0).toNat)) : Nat) : Int) / 16 = (((cit 4 (x ^^^ (bs.getD j 0).toNat)) / 16 : Nat) : Int) from by omega, Int.toNat_natCast, Int.toNat_natCast])) ?_
      refine t_q (q_as (.int _ _) rfl) ?_
      refine t_nil ?_
      refine c_region ?_
      refine t_q (q_add_i64 rfl rfl (by omega)) ?_
      refine t_q (q_mv (.int _ _) rfl) ?_
      refine t_nil ?_
      exact ⟨k - 1, by omega, j + 1, cit 4 (cit 4 (x ^^^ (bs.getD j 0).toNat)), rfl, rfl, by rw [crcR_snoc hjl, ← hx]; unfold crcB; rw [show (8 : Nat) = 4 + 4 from rfl, cit_add], by omega, by omega, hS⟩
    · intro hc6
      have hc6d := of_decide_eq_false hc6
      obtain rfl : j = bs.length := by omega
      rw [List.take_length] at hx
      refine c_exit ?_
      refine ite_t rfl ?_
      refine c_seq ?_
      refine c_region ?_
      refine t_q (q_mv (.int _ _) rfl) ?_
      refine t_q (q_com_u32 rfl (by omega)) ?_
      refine t_q (q_as (.int _ _) rfl) ?_
      refine t_nil ?_
      refine c_ret ?_
      refine r_one rfl rfl ?_
      have hlt := crcR_lt bs
      refine ⟨congrArg (fun n : Int => Ending.returned (.int .u32 n)) ?_, hS.nil⟩
      unfold crc
      omega
set_option maxRecDepth 100000 in
theorem qsum_calls {A : Option Addr} {c : Nat} {bs : List UInt8} (hR : RdB W A bs) (hm : bs.length ≤ 1000000000) : Calls Try.prog 77 #[.slice A bs.length c] W fun e w' => e = .returned (.int .u32 ((crc bs : Nat) : Int)) ∧ St W w' [] := by
  have hS := St.init W
  refine calls_of_wpE (args := [_]) Try.func77 rfl rfl rfl ?_
  refine c_seq ?_
  refine c_region ?_
  refine t_q (q_assign) ?_
  refine t_nil ?_
  refine c_seq ?_
  refine c_region ?_
  refine t_q (q_assign) ?_
  refine t_nil ?_
  refine c_seq ?_
  refine c_seq ?_
  refine c_region ?_
  refine t_q (q_assign) ?_
  refine t_nil ?_
  refine c_block ?_
  refine c_loop [3, 4, 5, 6, 7, 8, 9, 10, 11, 12, 13, 14, 15, 16, 17, 18, 19, 20, 21, 22, 23, 24, 25, 26, 27, 28, 29, 30, 31, 32, 33, 34] (fun k σ w => ∃ j x : Nat, σ 4 = .int .i64 (j : Int) ∧ σ 3 = .int .u32 (x : Int) ∧ x = crcR (bs.take j) ∧ j ≤ bs.length ∧ bs.length - j ≤ k ∧ St W w []) (bs.length) rfl (⟨0, 4294967295, rfl, rfl, rfl, by omega, by omega, hS⟩) ?_
  skip
  rintro k σ w ⟨j, x, h4, h3, hx, hj, hk, hS⟩
  refine c_know 4 h4 ?_
  refine c_know 3 h3 ?_
  clear h4 h3
  have hxl : x < 4294967296 := by rw [hx]; exact crcR_lt _
  have hcb := (bs.getD j 0).toNat_lt
  obtain ⟨kO, hkO⟩ : ∃ x, x = k := ⟨_, rfl⟩
  rw [← hkO] at hk
  refine c_seq ?_
  refine c_seq ?_
  refine c_region ?_
  refine t_q (q_mv (.int _ _) rfl) ?_
  refine t_q (q_mv (.slice _ _ _) rfl) ?_
  refine t_q (q_len_slice Try.runUnderlying25 rfl) ?_
  refine t_q (q_lss rfl rfl) ?_
  refine t_nil ?_
  refine c_cond rfl ?_ ?_
  · intro hc2
    have hc2d := of_decide_eq_true hc2
    have hjl : j < bs.length := by omega
    refine c_skip ?_
    refine c_seq ?_
    refine c_block ?_
    refine c_seq ?_
    refine c_region ?_
    refine t_q (q_mv (.slice _ _ _) rfl) ?_
    refine t_q (q_mv (.int _ _) rfl) ?_
    first | refine t_index_nat Try.runUnderlying25 Try.sizeOf5 (hR.st hS) rfl rfl (by omega) (fun ad3 hl3 hx3 => ?_) | refine t_index Try.runUnderlying25 Try.sizeOf5 (hR.st hS) rfl rfl (by omega) (fun ad3 hl3 hx3 => ?_)
    refine t_q (q_cast (v' := .int .u8 ((bs.getD j 0).toNat : Int)) (q_load1 Try.isAgg5 rfl (hx3 0 _ rfl)) (rfl)) ?_
    refine t_q (q_as (.int _ _) rfl) ?_
    refine t_nil ?_
    refine c_seq ?_
    refine c_region ?_
    refine t_q (q_assign) ?_
    refine t_nil ?_
    refine c_block ?_
    refine c_loop [3, 5, 6, 7, 18, 19, 20, 21, 22, 23, 24, 25, 26, 27, 28, 29, 30, 31, 32, 33, 34] (fun k σ w => ∃ u p q : Nat, σ 6 = .int .i64 (u : Int) ∧ σ 3 = .int .u32 (p : Int) ∧ σ 5 = .int .u8 (q : Int) ∧ (p, q) = rit u (x, (bs.getD j 0).toNat) ∧ p < 4294967296 ∧ q < 256 ∧ u ≤ 8 ∧ 8 - u ≤ k ∧ St W w []) (8) rfl (⟨0, x, (bs.getD j 0).toNat, rfl, rfl, rfl, rfl, hxl, hcb, by omega, by omega, hS⟩) ?_
    skip
    rintro k σ w ⟨u, p, q, h6, h3, h5, hpq, hp, hq, hu, hk2, hS⟩
    refine c_know 6 h6 ?_
    refine c_know 3 h3 ?_
    refine c_know 5 h5 ?_
    clear h6 h3 h5
    have hpx : p / 2 ^^^ cpoly < 4294967296 := Nat.xor_lt_two_pow (n := 32) (by omega) (by decide)
    refine c_seq ?_
    refine c_seq ?_
    refine c_region ?_
    refine t_q (q_mv (.int _ _) rfl) ?_
    refine t_q (q_lss rfl rfl) ?_
    refine t_nil ?_
    refine c_cond rfl ?_ ?_
    · intro hc5
      have hc5d := of_decide_eq_true hc5
      refine c_skip ?_
      refine c_seq ?_
      refine c_block ?_
      refine c_seq ?_
      refine c_region ?_
      refine t_q (q_mv (.int _ _) rfl) ?_
      refine t_q (q_rem_n rfl rfl (by omega) (by omega)) ?_
      refine t_q (q_mv (.int _ _) rfl) ?_
      refine t_q (q_rem_n rfl rfl (by omega) (by omega)) ?_
      first | refine t_q (q_conv_u32 Try.runUnderlying5 Try.runUnderlying132 rfl (by omega)) ?_ | refine t_q (q_convm_u32 Try.runUnderlying5 Try.runUnderlying132 rfl) ?_
      refine t_q (q_neq rfl rfl) ?_
      refine t_q (q_as (.bool _) rfl) ?_
      refine t_nil ?_
      refine c_seq ?_
      refine c_region ?_
      refine t_q (q_mv (.int _ _) rfl) ?_
      refine t_q (q_cast (v' := .int .u32 ((p / 2 : Nat) : Int)) (q_quo_n rfl rfl (by omega) (by omega) (wrap_u32 (by omega))) (by congr 1)) ?_
      refine t_q (q_as (.int _ _) rfl) ?_
      refine t_nil ?_
      refine c_seq ?_
      refine c_region ?_
      refine t_q (q_mv (.int _ _) rfl) ?_
      refine t_q (q_cast (v' := .int .u8 ((q / 2 : Nat) : Int)) (q_quo_n rfl rfl (by omega) (by omega) (wrap_u8 (by omega))) (by congr 1)) ?_
      refine t_q (q_as (.int _ _) rfl) ?_
      refine t_nil ?_
      refine c_seq ?_
      refine c_region ?_
      refine t_q (q_mv (.bool _) rfl) ?_
      refine t_nil ?_
      refine c_cond rfl ?_ ?_
      · intro hc7
        have hc7d := of_decide_eq_true hc7
        have hne : p % 2 ≠ q % 2 := by omega
        refine c_region ?_
        refine t_q (q_mv (.int _ _) rfl) ?_
        refine t_q (q_cast (v' := .int .u32 ((p / 2 ^^^ cpoly : Nat) : Int)) (q_xor_u32 rfl rfl (by omega) (by omega)) (by rw [Int.toNat_natCast]; rfl)) ?_
        refine t_q (q_as (.int _ _) rfl) ?_
        refine t_nil ?_
        refine c_region ?_
        refine t_q (q_mv (.int _ _) rfl) ?_
        refine t_q (q_add_i64 rfl rfl (by omega)) ?_
        refine t_q (q_as (.int _ _) rfl) ?_
        refine t_nil ?_
        first
          | exact ⟨k - 1, by omega, u + 1, p / 2 ^^^ cpoly, q / 2, rfl, rfl, rfl, by rw [rit, ← hpq, rst, if_pos hne], hpx, by omega, by omega, by omega, hS⟩
          | exact ⟨k - 1, by omega, u + 1, p / 2, q / 2, rfl, rfl, rfl, by rw [rit, ← hpq, rst, if_neg hne, Nat.xor_zero], by omega, by omega, by omega, by omega, hS⟩
      · intro hc7
        have hc7d := of_decide_eq_false hc7
        have hne : ¬ p % 2 ≠ q % 2 := by omega
        refine c_skip ?_
        refine c_region ?_
        refine t_q (q_mv (.int _ _) rfl) ?_
        refine t_q (q_add_i64 rfl rfl (by omega)) ?_
        refine t_q (q_as (.int _ _) rfl) ?_
        refine t_nil ?_
        first
          | exact ⟨k - 1, by omega, u + 1, p / 2 ^^^ cpoly, q / 2, rfl, rfl, rfl, by rw [rit, ← hpq, rst, if_pos hne], hpx, by omega, by omega, by omega, hS⟩
          | exact ⟨k - 1, by omega, u + 1, p / 2, q / 2, rfl, rfl, rfl, by rw [rit, ← hpq, rst, if_neg hne, Nat.xor_zero], by omega, by omega, by omega, by omega, hS⟩
    · intro hc5
      have hc5d := of_decide_eq_false hc5
      obtain rfl : u = 8 := by omega
      refine c_exit ?_
      refine ite_t rfl ?_
      refine c_region ?_
      refine t_q (q_mv (.int _ _) rfl) ?_
      refine t_q (q_add_i64 rfl rfl (by omega)) ?_
      refine t_q (q_as (.int _ _) rfl) ?_
      refine t_nil ?_
      exact ⟨kO - 1, by omega, j + 1, p, rfl, rfl, by rw [crcR_snoc hjl, ← hx, ← rit8 _ _ hcb, ← hpq], by omega, by omega, hS⟩
  · intro hc2
    have hc2d := of_decide_eq_false hc2
    obtain rfl : j = bs.length := by omega
    rw [List.take_length] at hx
    refine c_exit ?_
    refine ite_t rfl ?_
    refine c_seq ?_
    refine c_region ?_
    refine t_q (q_mv (.int _ _) rfl) ?_
    refine t_q (q_sub_u32 rfl rfl (by omega)) ?_
    refine t_q (q_as (.int _ _) rfl) ?_
    refine t_nil ?_
    refine c_ret ?_
    refine r_one rfl rfl ?_
    have hlt := crcR_lt bs
    refine ⟨congrArg (fun n : Int => Ending.returned (.int .u32 n)) ?_, hS.nil⟩
    unfold crc
    omega
set_option maxRecDepth 100000 in
theorem seal_calls {w : World} {L R : List Asn} {A : Option Addr} {m c : Nat} {bs : List UInt8} (hS : St W w L) (pk : Pick L (rowA 5 1 A m c (bs.map bv)) R) (hm : m = bs.length) (hb : bs.length ≤ 1000000000) :
  Calls Try.prog 71 #[.slice A m c] w fun e w' => ∃ A' m' c', e = .returned (.slice A' m' c') ∧ m' = (bs ++ four (crc bs)).length ∧ St W w' (rowA 5 1 A' m' c' ((bs ++ four (crc bs)).map bv) :: R) := by
  subst hm
  replace hS := hS.pick pk
  clear pk
  have hcl := crc_lt bs
  refine calls_of_wpE (args := [_]) Try.func71 rfl rfl rfl ?_
  refine c_seq ?_
  refine c_region ?_
  refine t_q (q_assign) ?_
  refine t_nil ?_
  refine c_seq ?_
  refine c_region ?_
  refine t_q (q_mv (.slice _ _ _) rfl) ?_
  refine t_call Try.call69 (sum_calls (hS.rowRd (.here _ _) rfl) hb) rfl ?_
  rintro e w ⟨rfl, hT⟩
  refine ⟨_, rfl, ?_⟩
  replace hS := hS.after hT
  refine t_q (q_as (.int _ _) rfl) ?_
  refine t_nil ?_
  refine c_seq ?_
  refine c_region ?_
  refine t_q (q_mv (.slice _ _ _) rfl) ?_
  refine t_q (q_mv (.int _ _) rfl) ?_
  first | refine t_q (q_conv_u8 Try.runUnderlying132 Try.runUnderlying5 rfl (by omega)) ?_ | refine t_q (q_convm_u8 Try.runUnderlying132 Try.runUnderlying5 rfl) ?_
  refine t_q (q_mv (.int _ _) rfl) ?_
  refine t_q (q_shr_n (D := 256) rfl rfl (by decide) (by decide) (by decide)) ?_
  first | refine t_q (q_conv_u8 Try.runUnderlying132 Try.runUnderlying5 rfl (by omega)) ?_ | refine t_q (q_convm_u8 Try.runUnderlying132 Try.runUnderlying5 rfl) ?_
  refine t_q (q_mv (.int _ _) rfl) ?_
  refine t_q (q_shr_n (D := 65536) rfl rfl (by decide) (by decide) (by decide)) ?_
  first | refine t_q (q_conv_u8 Try.runUnderlying132 Try.runUnderlying5 rfl (by omega)) ?_ | refine t_q (q_convm_u8 Try.runUnderlying132 Try.runUnderlying5 rfl) ?_
  refine t_q (q_mv (.int _ _) rfl) ?_
  refine t_q (q_shr_n (D := 16777216) rfl rfl (by decide) (by decide) (by decide)) ?_
  first | refine t_q (q_conv_u8 Try.runUnderlying132 Try.runUnderlying5 rfl (by omega)) ?_ | refine t_q (q_convm_u8 Try.runUnderlying132 Try.runUnderlying5 rfl) ?_
  refine t_build_bytes [_, _, _, _] Try.runUnderlying25 Try.sizeOf5 Try.zeroValue5 rfl rfl (by simp; try omega) (by decide) hS (fun g18 w hS => ?_)
  refine t_append_own (size := 1) (bytes := 1) Try.underlying25 (info_of Try.type5) rfl rfl rfl rfl (by decide) hS (.here _ _) (by repeat first | exact .here _ _ | assumption | apply Pick.there) rfl rfl (by first | exact allOne_bv _ | exact allOne_ints _ _ | rfl) (by unfold maxLen; omega) (by omega) (fun A19 c19 w hS => ?_)
  refine t_q (q_as (.slice _ _ _) rfl) ?_
  refine t_nil ?_
  refine c_ret ?_
  refine r_one rfl rfl ?_
  refine ⟨_, _, _, rfl, ?_, hS.recast (congrArg (rowA 5 1 _ _ _) ?_)⟩
  · rw [List.length_append]; rfl
  · rw [show ((crc bs : Nat) : Int) / 16777216 = ((crc bs : Nat) : Int) / 16777216 % 256 from by omega, four_bvi, List.map_append]
set_option maxRecDepth 100000 in
theorem four_calls {w : World} {L : List Asn} {v : Nat} (hS : St W w L) (hv : v < 4294967296) :
  Calls Try.prog 76 #[.int .u32 (v : Int)] w fun e w' => ∃ A' m' c', e = .returned (.slice A' m' c') ∧ m' = (four v).length ∧ St W w' (rowA 5 1 A' m' c' ((four v).map bv) :: L) := by
  refine calls_of_wpE (args := [_]) Try.func76 rfl rfl rfl ?_
  refine c_seq ?_
  refine c_region ?_
  refine t_q (q_assign) ?_
  refine t_nil ?_
  refine c_seq ?_
  refine c_region ?_
  refine t_q (q_assign) ?_
  refine t_nil ?_
  refine c_seq ?_
  refine c_seq ?_
  refine c_region ?_
  refine t_q (q_assign) ?_
  refine t_nil ?_
  refine c_block ?_
  refine c_loop [0, 3, 4, 5, 6, 7, 8, 9, 10, 11, 12, 13, 14, 15, 16] (fun k σ w => ∃ (i x : Nat) (A' : Option Addr) (m c' : Nat), σ 4 = .int .i64 (i : Int) ∧ σ 0 = .int .u32 (x : Int) ∧ σ 3 = .slice A' m c' ∧ x = v / 256 ^ i ∧ x < 4294967296 ∧ i ≤ 4 ∧ 4 - i ≤ k ∧ m = ((four v).take i).length ∧ St W w (rowA 5 1 A' m c' (((four v).take i).map bv) :: L)) (4) rfl (⟨0, v, none, 0, 0, rfl, rfl, rfl, (by rw [Nat.pow_zero, Nat.div_one]), hv, by omega, by omega, rfl, hS.nilrow 5 1⟩) ?_
  skip
  rintro k σ w ⟨i, x, A', m, c', h4, h0, h3, hx, hxl, hi, hk, hmm, hS⟩
  refine c_know 4 h4 ?_
  refine c_know 0 h0 ?_
  refine c_know 3 h3 ?_
  clear h4 h0 h3
  have hl4 : ((four v).take i).length ≤ 4 := by rw [List.length_take]; exact Nat.min_le_right _ _
  refine c_seq ?_
  refine c_seq ?_
  refine c_region ?_
  refine t_q (q_mv (.int _ _) rfl) ?_
  refine t_q (q_lss rfl rfl) ?_
  refine t_nil ?_
  refine c_cond rfl ?_ ?_
  · intro hc2
    have hc2d := of_decide_eq_true hc2
    refine c_skip ?_
    refine c_seq ?_
    refine c_block ?_
    refine c_seq ?_
    refine c_region ?_
    refine t_q (q_mv (.slice _ _ _) rfl) ?_
    refine t_q (q_mv (.int _ _) rfl) ?_
    refine t_q (q_rem_n rfl rfl (by omega) (by omega)) ?_
    first | refine t_q (q_conv_u8 Try.runUnderlying132 Try.runUnderlying5 rfl (by omega)) ?_ | refine t_q (q_convm_u8 Try.runUnderlying132 Try.runUnderlying5 rfl) ?_
    refine t_build_bytes [_] Try.runUnderlying25 Try.sizeOf5 Try.zeroValue5 rfl rfl (by simp; try omega) (by decide) hS (fun g13 w hS => ?_)
    refine t_append_own (size := 1) (bytes := 1) Try.underlying25 (info_of Try.type5) rfl rfl rfl rfl (by decide) hS (.here _ _) (by repeat first | exact .here _ _ | assumption | apply Pick.there) rfl rfl (by first | exact allOne_bv _ | exact allOne_ints _ _ | rfl) (by unfold maxLen; omega) (by omega) (fun A14 c14 w hS => ?_)
    refine t_q (q_as (.slice _ _ _) rfl) ?_
    refine t_nil ?_
    refine c_region ?_
    refine t_q (q_mv (.int _ _) rfl) ?_
    refine t_q (q_cast (v' := .int .u32 ((x / 256 : Nat) : Int)) (q_quo_n rfl rfl (by omega) (by omega) (wrap_u32 (by omega))) (by congr 1)) ?_
    refine t_q (q_as (.int _ _) rfl) ?_
    refine t_nil ?_
    refine c_region ?_
    refine t_q (q_mv (.int _ _) rfl) ?_
    refine t_q (q_add_i64 rfl rfl (by omega)) ?_
    refine t_q (q_as (.int _ _) rfl) ?_
    refine t_nil ?_
    refine ⟨k - 1, by omega, i + 1, x / 256, A14, _, c14, rfl, rfl, rfl, by rw [hx, Nat.pow_succ, Nat.div_div_eq_div_mul], by omega, by omega, by omega, ?_, hS.recast (congrArg (rowA 5 1 _ _ _) ?_)⟩
    · rw [four_take (by omega), List.length_append, hmm]; rfl
    · rw [four_take (by omega), ← hx, List.map_append]; rfl
  · intro hc2
    have hc2d := of_decide_eq_false hc2
    obtain rfl : i = 4 := by omega
    refine c_exit ?_
    refine ite_t rfl ?_
    refine c_seq ?_
    refine c_region ?_
    refine t_q (q_mv (.slice _ _ _) rfl) ?_
    refine t_q (q_as (.slice _ _ _) rfl) ?_
    refine t_nil ?_
    refine c_ret ?_
    refine r_one rfl rfl ?_
    exact ⟨_, _, _, rfl, hmm, hS⟩
set_option maxRecDepth 100000 in
theorem wrap_calls {A : Option Addr} {c : Nat} {body : List UInt8} {kk : UInt8} (hR : RdB W A body) (hm : body.length ≤ 1000000) : Calls Try.prog 20 #[bv kk, .slice A body.length c] W fun e w' => ∃ A' m c', e = .returned (.tuple #[.slice A' m c', .int .i64 (wrapE kk body)]) ∧ m = (wrapL kk body).length ∧ St W w' [rowA 5 1 A' m c' ((wrapL kk body).map bv)] := by
  have hS := St.init W
  have hkk := kk.toNat_lt
  have hel := enc_ten (n := body.length) (by omega)
  have hpl := preB_len kk body
  refine calls_of_wpE (args := [_, _]) Try.func20 rfl rfl rfl ?_
  refine c_seq ?_
  refine c_region ?_
  refine t_q (q_assign) ?_
  refine t_q (q_assign) ?_
  refine t_nil ?_
  refine c_seq ?_
  refine c_block ?_
  refine c_seq ?_
  refine c_region ?_
  refine t_q (q_mv (.int _ _) rfl) ?_
  refine t_q (q_eql rfl rfl) ?_
  refine t_q (q_as (.bool _) rfl) ?_
  refine t_nil ?_
  refine c_cond rfl ?_ ?_
  · intro hc2
    have hc2d := of_decide_eq_true hc2
    refine c_seq ?_
    refine c_region ?_
    refine t_q (q_assign) ?_
    refine t_q (q_assign) ?_
    refine t_nil ?_
    refine c_ret ?_
    refine r_two rfl rfl rfl ?_
    first
      | (obtain ⟨e1, e2⟩ := wrapE_zero (k := kk) (body := body) (u8_zero.1 (by omega)); rw [e1, e2]; exact ⟨none, 0, 0, rfl, rfl, (hS.nilrow 5 1).front1⟩)
      | (obtain ⟨e1, e2⟩ := wrapE_long (k := kk) (body := body) (fun h => by have := u8_zero.2 h; omega) (by omega); rw [e1, e2]; exact ⟨none, 0, 0, rfl, rfl, (hS.nilrow 5 1).front1⟩)
      | (obtain ⟨e1, e2⟩ := wrapE_ok (k := kk) (body := body) (fun h => by have := u8_zero.2 h; omega) (by omega); rw [e1, e2]; exact ⟨_, _, _, rfl, hm21, hS.front1⟩)
  · intro hc2
    have hc2d := of_decide_eq_false hc2
    refine c_seq ?_
    refine c_region ?_
    refine t_q (q_mv (.slice _ _ _) rfl) ?_
    refine t_q (q_len_slice Try.runUnderlying25 rfl) ?_
    refine t_q (q_gtr rfl rfl) ?_
    refine t_q (q_as (.bool _) rfl) ?_
    refine t_nil ?_
    refine c_cond rfl ?_ ?_
    · intro hc4
      have hc4d := of_decide_eq_true hc4
      refine c_seq ?_
      refine c_region ?_
      refine t_q (q_assign) ?_
      refine t_q (q_assign) ?_
      refine t_nil ?_
      refine c_ret ?_
      refine r_two rfl rfl rfl ?_
      first
        | (obtain ⟨e1, e2⟩ := wrapE_zero (k := kk) (body := body) (u8_zero.1 (by omega)); rw [e1, e2]; exact ⟨none, 0, 0, rfl, rfl, (hS.nilrow 5 1).front1⟩)
        | (obtain ⟨e1, e2⟩ := wrapE_long (k := kk) (body := body) (fun h => by have := u8_zero.2 h; omega) (by omega); rw [e1, e2]; exact ⟨none, 0, 0, rfl, rfl, (hS.nilrow 5 1).front1⟩)
        | (obtain ⟨e1, e2⟩ := wrapE_ok (k := kk) (body := body) (fun h => by have := u8_zero.2 h; omega) (by omega); rw [e1, e2]; exact ⟨_, _, _, rfl, hm21, hS.front1⟩)
    · intro hc4
      have hc4d := of_decide_eq_false hc4
      refine c_skip ?_
      refine c_seq ?_
      refine c_region ?_
      refine t_alloc Try.zeroValue135 rfl hS (fun g6 w hS => ?_)
      replace hS := hS.wr0
      refine t_nil ?_
      refine c_seq ?_
      refine c_region ?_
      refine t_q (q_mv (.slice _ _ _) rfl) ?_
      refine t_q (q_string Try.runUnderlying25 Try.runUnderlying5 Try.runUnderlying9 rfl rfl (hR.st hS)) ?_
      refine t_call Try.call70 (Text_calls hS (by repeat first | exact .here _ _ | assumption | apply Pick.there) (by show body.toArray.size ≤ _; rw [List.size_toArray]; omega) (by simp)) rfl ?_
      rintro e w ⟨rfl, hS⟩
      refine ⟨_, rfl, ?_⟩
      replace hS := hS.recast (congrArg (wrA g6) (show _ = enc body.length ++ body from by rw [List.nil_append]; rfl))
      refine t_nil ?_
      refine c_seq ?_
      refine c_region ?_
      refine t_q (q_mv (.int _ _) rfl) ?_
      refine t_build_bytes [_] Try.runUnderlying25 Try.sizeOf5 Try.zeroValue5 rfl rfl (by simp; try omega) (by decide) hS (fun g18 w hS => ?_)
      refine t_call Try.call72 (Bytes_calls hS (by repeat first | exact .here _ _ | assumption | apply Pick.there) (by rw [List.length_append]; omega)) rfl ?_
      rintro e w ⟨A19, c19, rfl, hc19, hS⟩
      refine ⟨_, rfl, ?_⟩
      have hl19 : (enc body.length ++ body).length = (enc body.length).length + body.length := List.length_append
      refine t_append_own (size := 1) (bytes := 1) Try.underlying25 (info_of Try.type5) rfl rfl rfl rfl (by decide) hS (.here _ _) (by repeat first | exact .here _ _ | assumption | apply Pick.there) rfl rfl (by first | exact allOne_bv _ | exact allOne_ints _ _ | rfl) (by unfold maxLen; omega) (by omega) (fun A20 c20 w hS => ?_)
      replace hS := hS.recast (congrArg (rowA 5 1 A20 _ c20) (show _ = (preB kk body).map bv from by simp only [List.map_cons, List.map_nil, bvi_nat, preB]; rfl))
      refine t_call Try.call71 (seal_calls hS (.here _ _) (by omega) (by omega)) rfl ?_
      rintro e w ⟨A21, m21, c21, rfl, hm21, hS⟩
      refine ⟨_, rfl, ?_⟩
      refine t_q (q_as (.slice _ _ _) rfl) ?_
      refine t_q (q_assign) ?_
      refine t_nil ?_
      refine c_ret ?_
      refine r_two rfl rfl rfl ?_
      first
        | (obtain ⟨e1, e2⟩ := wrapE_zero (k := kk) (body := body) (u8_zero.1 (by omega)); rw [e1, e2]; exact ⟨none, 0, 0, rfl, rfl, (hS.nilrow 5 1).front1⟩)
        | (obtain ⟨e1, e2⟩ := wrapE_long (k := kk) (body := body) (fun h => by have := u8_zero.2 h; omega) (by omega); rw [e1, e2]; exact ⟨none, 0, 0, rfl, rfl, (hS.nilrow 5 1).front1⟩)
        | (obtain ⟨e1, e2⟩ := wrapE_ok (k := kk) (body := body) (fun h => by have := u8_zero.2 h; omega) (by omega); rw [e1, e2]; exact ⟨_, _, _, rfl, hm21, hS.front1⟩)
set_option maxRecDepth 100000 in
theorem qpbytes_calls {A : Option Addr} {c : Nat} {body : List UInt8} {kk : UInt8} (hR : RdB W A body) (hm : body.length ≤ 1000000) (hb : body.length ≤ 65536) : Calls Try.prog 80 #[bv kk, .slice A body.length c] W fun e w' => ∃ A' m' c', e = .returned (.slice A' m' c') ∧ m' = (parB kk body).length ∧ St W w' (rowA 5 1 A' m' c' ((parB kk body).map bv) :: []) := by
  have hS := St.init W
  have hkk := kk.toNat_lt
  have hel := enc_ten (n := body.length) (by omega)
  have hpl := preB_len kk body
  have hcl := crc_lt (preB kk body)
  refine calls_of_wpE (args := [_, _]) Try.func80 rfl rfl rfl ?_
  refine c_seq ?_
  refine c_region ?_
  refine t_q (q_assign) ?_
  refine t_nil ?_
  refine c_seq ?_
  refine c_region ?_
  refine t_q (q_mv (.int _ _) rfl) ?_
  refine t_build_bytes [_] Try.runUnderlying25 Try.sizeOf5 Try.zeroValue5 rfl rfl (by simp; try omega) (by decide) hS (fun g7 w hS => ?_)
  refine t_q (q_mv (.slice _ _ _) rfl) ?_
  refine t_q (q_string Try.runUnderlying25 Try.runUnderlying5 Try.runUnderlying9 rfl rfl (hR.st hS)) ?_
  refine t_call Try.call130 (qwText hS (by show body.toArray.size ≤ _; rw [List.size_toArray]; omega)) rfl ?_
  rintro e w ⟨A10, n10, c10, rfl, hn10, hS⟩
  refine ⟨_, rfl, ?_⟩
  replace hS := hS.recast (show _ = rowA 5 1 A10 n10 c10 ((enc body.length ++ body).map bv) from rfl)
  replace hn10 : n10 = (enc body.length ++ body).length := hn10
  rw [List.length_append] at hn10
  refine t_append_own (size := 1) (bytes := 1) Try.underlying25 (info_of Try.type5) rfl rfl rfl rfl (by decide) hS (.here _ _) (by repeat first | exact .here _ _ | assumption | apply Pick.there) rfl rfl (by first | exact allOne_bv _ | exact allOne_ints _ _ | rfl) (by unfold maxLen; omega) (by omega) (fun A11 c11 w hS => ?_)
  replace hS := hS.recast (congrArg (rowA 5 1 A11 _ c11) (show _ = (preB kk body).map bv from by simp only [List.map_cons, List.map_nil, bvi_nat, preB]; rfl))
  have hn11 : 1 + n10 = (preB kk body).length := by omega
  refine t_q (q_as (.slice _ _ _) rfl) ?_
  refine t_nil ?_
  refine c_seq ?_
  refine c_region ?_
  refine t_q (q_mv (.slice _ _ _) rfl) ?_
  refine t_q (q_mv (.slice _ _ _) rfl) ?_
  have hA := qsum_calls (W := w) (c := c11) (hS.rowRd (.here _ _) hn11) (by omega)
  rw [← hn11] at hA
  refine t_call Try.call77 hA rfl ?_
  rintro e w ⟨rfl, hT⟩
  refine ⟨_, rfl, ?_⟩
  replace hS := hS.after hT
  refine t_call Try.call76 (four_calls hS hcl) rfl ?_
  rintro e w ⟨A15, m15, c15, rfl, hm15, hS⟩
  refine ⟨_, rfl, ?_⟩
  replace hm15 : m15 = 4 := hm15
  refine t_append_own (size := 1) (bytes := 1) Try.underlying25 (info_of Try.type5) rfl rfl rfl rfl (by decide) hS (.here _ _) (by repeat first | exact .here _ _ | assumption | apply Pick.there) rfl rfl (by first | exact allOne_bv _ | exact allOne_ints _ _ | rfl) (by unfold maxLen; omega) (by omega) (fun A16 c16 w hS => ?_)
  refine t_q (q_as (.slice _ _ _) rfl) ?_
  refine t_nil ?_
  refine c_ret ?_
  refine r_one rfl rfl ?_
  refine ⟨_, _, _, rfl, ?_, (hS.recast (congrArg (rowA 5 1 _ _ _) ?_)).front1⟩
  · unfold parB; rw [List.length_append, ← hn11, hm15]; rfl
  · unfold parB; rw [List.map_append]
-- qwrap_calls: no such function here
end Go.Proofs.Ytlppgpidakfnlaa
