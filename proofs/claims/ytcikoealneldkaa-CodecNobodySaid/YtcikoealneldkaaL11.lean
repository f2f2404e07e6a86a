/- Nobody: nil receivers, and a reader that no call made: the walk. -/
import Derived.Test.YtcikoealneldkaaCl
namespace Go.Proofs.Ytcikoealneldkaa
open Go Go.RowKit Go.Lib
variable {W : World}

set_option maxRecDepth 100000 in
theorem nNat {A : Option Addr} {c : Nat} {ns : List Int} (hR : RdI W .u64 A ns) (hm : ns.length ≤ 1000000) : Calls Try.prog 42 #[.pointer none, .slice A ns.length c] W fun e w' => e = .returned (.tuple #[]) ∧ St W w' [] := by
  have hS := St.init W
  refine calls_of_wpE (args := [_, _]) Try.func42 rfl rfl rfl ?_
  refine c_seq ?_
  refine c_region ?_
  refine t_q (q_mv (.slice _ _ _) rfl) ?_
  refine t_q (q_len_slice Try.runUnderlying191 rfl) ?_
  refine t_q (q_move) ?_
  refine t_nil ?_
  refine c_block ?_
  refine c_loop [4, 7, 8, 9, 10, 11, 12, 13, 14, 15, 16, 17, 18] (fun k σ w => ∃ j : Nat, σ 7 = .int .i64 (j : Int) ∧ j ≤ ns.length ∧ ns.length - j ≤ k ∧ St W w []) (ns.length) rfl (⟨0, rfl, by omega, by omega, hS⟩) ?_
  skip
  rintro k σ w ⟨j, h7, hj, hk, hS⟩
  refine c_know 7 h7 ?_
  clear h7
  refine c_seq ?_
  refine c_region ?_
  refine t_q (q_lss rfl rfl) ?_
  refine t_nil ?_
  refine c_seq ?_
  refine c_cond rfl ?_ ?_
  · intro hc2
    have hc2d := of_decide_eq_true hc2
    refine c_skip ?_
    refine c_seq ?_
    refine c_block ?_
    refine c_seq ?_
    refine c_region ?_
    refine t_q (q_mv (.int _ _) rfl) ?_
    refine t_q (q_as (.int _ _) rfl) ?_
    refine t_nil ?_
    refine c_seq ?_
    refine c_region ?_
    refine t_q (q_mv (.pointer _) rfl) ?_
    refine t_q (q_neq_ptr_nil Try.runUnderlying69 rfl rfl) ?_
    refine t_nil ?_
    refine c_cond_f rfl rfl ?_
    refine c_skip ?_
    refine c_region ?_
    refine t_q (q_add_i64 rfl rfl (by omega)) ?_
    refine t_q (q_mv (.int _ _) rfl) ?_
    refine t_nil ?_
    exact ⟨k - 1, by omega, j + 1, rfl, by omega, by omega, hS.nil⟩
  · intro hc2
    have hc2d := of_decide_eq_false hc2
    refine c_exit ?_
    refine ite_t rfl ?_
    refine r_none rfl  ?_
    exact ⟨rfl, hS⟩
set_option maxRecDepth 100000 in
theorem nInt {A : Option Addr} {c : Nat} {ns : List Int} (hR : RdI W .i64 A ns) (hm : ns.length ≤ 1000000) (hns : ∀ n ∈ ns, -9223372036854775808 ≤ n ∧ n ≤ 9223372036854775807) : Calls Try.prog 44 #[.pointer none, .slice A ns.length c] W fun e w' => e = .returned (.tuple #[]) ∧ St W w' [] := by
  have hS := St.init W
  refine calls_of_wpE (args := [_, _]) Try.func44 rfl rfl rfl ?_
  refine c_seq ?_
  refine c_region ?_
  refine t_q (q_mv (.slice _ _ _) rfl) ?_
  refine t_q (q_len_slice Try.runUnderlying192 rfl) ?_
  refine t_q (q_move) ?_
  refine t_nil ?_
  refine c_block ?_
  refine c_loop [5, 8, 9, 10, 11, 12, 13, 14, 15, 16, 17, 18, 19, 20, 21, 22] (fun k σ w => ∃ j : Nat, σ 8 = .int .i64 (j : Int) ∧ j ≤ ns.length ∧ ns.length - j ≤ k ∧ St W w []) (ns.length) rfl (⟨0, rfl, by omega, by omega, hS⟩) ?_
  skip
  rintro k σ w ⟨j, h8, hj, hk, hS⟩
  refine c_know 8 h8 ?_
  clear h8
  refine c_seq ?_
  refine c_region ?_
  refine t_q (q_lss rfl rfl) ?_
  refine t_nil ?_
  refine c_seq ?_
  refine c_cond rfl ?_ ?_
  · intro hc2
    have hc2d := of_decide_eq_true hc2
    have hel : -9223372036854775808 ≤ ns.getD j 0 ∧ ns.getD j 0 ≤ 9223372036854775807 := by
      rw [List.getD_eq_getElem?_getD, List.getElem?_eq_getElem (by omega)]
      exact hns _ (List.getElem_mem _)
    refine c_skip ?_
    refine c_seq ?_
    refine c_block ?_
    refine c_seq ?_
    refine c_region ?_
    first | refine t_index_nat Try.runUnderlying192 Try.sizeOf2 (hR.st hS) rfl rfl (by omega) (fun ad3 hl3 hx3 => ?_) | refine t_index Try.runUnderlying192 Try.sizeOf2 (hR.st hS) rfl rfl (by omega) (fun ad3 hl3 hx3 => ?_)
    refine t_q (q_cast (v' := .int .i64 (ns.getD j 0)) (q_load1 Try.isAgg2 rfl (hx3 0 _ rfl)) (rfl)) ?_
    refine t_q (q_as (.int _ _) rfl) ?_
    refine t_nil ?_
    refine c_region ?_
    refine t_q (q_mv (.pointer _) rfl) ?_
    refine t_q (q_mv (.int _ _) rfl) ?_
    first | refine t_q (q_conv_u64 Try.runUnderlying2 Try.runUnderlying24 rfl (by omega)) ?_ | refine t_q (q_convm_u64 Try.runUnderlying2 Try.runUnderlying24 rfl) ?_
    refine t_q (q_shlm_u64 (D := 2) rfl rfl (by decide) (by decide)) ?_
    refine t_q (q_mv (.int _ _) rfl) ?_
    refine t_q (q_shr_n (D := 9223372036854775808) rfl rfl (by decide) (by decide) (by decide)) ?_
    first | refine t_q (q_conv_u64 Try.runUnderlying2 Try.runUnderlying24 rfl (by omega)) ?_ | refine t_q (q_convm_u64 Try.runUnderlying2 Try.runUnderlying24 rfl) ?_
    refine t_q (q_xor_u64 rfl rfl (by omega) (by omega)) ?_
    refine t_build_ints [_] Try.runUnderlying191 Try.sizeOf24 Try.zeroValue24 rfl rfl (by decide) hS (fun g20 w hS => ?_)
    refine t_call Try.call42 (nNat (hS.rowInts (.here _ _) rfl) (by simp)) rfl ?_
    rintro e w ⟨rfl, hT⟩
    refine ⟨_, rfl, ?_⟩
    replace hS := hS.after hT
    refine t_nil ?_
    refine c_region ?_
    refine t_q (q_add_i64 rfl rfl (by omega)) ?_
    refine t_q (q_mv (.int _ _) rfl) ?_
    refine t_nil ?_
    exact ⟨k - 1, by omega, j + 1, rfl, by omega, by omega, hS.nil⟩
  · intro hc2
    have hc2d := of_decide_eq_false hc2
    refine c_exit ?_
    refine ite_t rfl ?_
    refine r_none rfl  ?_
    exact ⟨rfl, hS⟩
set_option maxRecDepth 100000 in
theorem nFlag {b : Bool} : Calls Try.prog 46 #[.pointer none, .bool b] W fun e w' => e = .returned (.tuple #[]) ∧ St W w' [] := by
  have hS := St.init W
  refine calls_of_wpE (args := [_, _]) Try.func46 rfl rfl rfl ?_
  refine c_seq ?_
  refine c_seq ?_
  refine c_region ?_
  refine t_q (q_mv (.bool _) rfl) ?_
  refine t_nil ?_
  refine c_cond rfl ?_ ?_
  · intro hc2
    refine c_seq ?_
    refine c_region ?_
    refine t_q (q_mv (.pointer _) rfl) ?_
    refine t_build_ints [_] Try.runUnderlying191 Try.sizeOf24 Try.zeroValue24 rfl rfl (by decide) hS (fun g6 w hS => ?_)
    refine t_call Try.call42 (nNat (hS.rowInts (.here _ _) rfl) (by simp)) rfl ?_
    rintro e w ⟨rfl, hT⟩
    refine ⟨_, rfl, ?_⟩
    replace hS := hS.after hT
    refine t_nil ?_
    refine c_ret ?_
    refine r_none rfl  ?_
    exact ⟨rfl, hS.nil⟩
  · intro hc2
    refine c_skip ?_
    refine c_region ?_
    refine t_q (q_mv (.pointer _) rfl) ?_
    refine t_build_ints [_] Try.runUnderlying191 Try.sizeOf24 Try.zeroValue24 rfl rfl (by decide) hS (fun g9 w hS => ?_)
    refine t_call Try.call42 (nNat (hS.rowInts (.here _ _) rfl) (by simp)) rfl ?_
    rintro e w ⟨rfl, hT⟩
    refine ⟨_, rfl, ?_⟩
    replace hS := hS.after hT
    refine t_nil ?_
    refine r_none rfl  ?_
    exact ⟨rfl, hS.nil⟩
set_option maxRecDepth 100000 in
theorem nText {s : ByteArray} : Calls Try.prog 48 #[.pointer none, .string s] W fun e w' => e = .returned (.tuple #[]) ∧ St W w' [] := by
  have hS := St.init W
  refine calls_of_wpE (args := [_, _]) Try.func48 rfl rfl rfl ?_
  refine c_seq ?_
  refine c_region ?_
  refine t_q (q_mv (.pointer _) rfl) ?_
  refine t_q (q_neq_ptr_nil Try.runUnderlying69 rfl rfl) ?_
  refine t_nil ?_
  refine c_cond_f rfl rfl ?_
  refine c_skip ?_
  refine r_none rfl  ?_
  exact ⟨rfl, hS⟩
set_option maxRecDepth 100000 in
theorem nBytes : Calls Try.prog 50 #[.pointer none] W fun e w' => e = .returned (.slice none 0 0) ∧ St W w' [] := by
  have hS := St.init W
  refine calls_of_wpE (args := [_]) Try.func50 rfl rfl rfl ?_
  refine c_seq ?_
  refine c_region ?_
  refine t_q (q_assign) ?_
  refine t_nil ?_
  refine c_seq ?_
  refine c_seq ?_
  refine c_region ?_
  refine t_q (q_mv (.pointer _) rfl) ?_
  refine t_q (q_eql_ptr_nil Try.runUnderlying69 rfl rfl) ?_
  refine t_nil ?_
  refine c_cond_t rfl rfl ?_
  refine c_seq ?_
  refine c_region ?_
  refine t_q (q_assign) ?_
  refine t_nil ?_
  refine c_ret ?_
  refine r_one rfl rfl ?_
  exact ⟨rfl, hS⟩
set_option maxRecDepth 100000 in
theorem nFail : Calls Try.prog 67 #[.pointer none] W fun e w' => e = .returned (.tuple #[]) ∧ St W w' [] := by
  have hS := St.init W
  refine calls_of_wpE (args := [_]) Try.func67 rfl rfl rfl ?_
  refine c_seq ?_
  refine c_region ?_
  refine t_q (q_mv (.pointer _) rfl) ?_
  refine t_q (q_neq_ptr_nil Try.runUnderlying77 rfl rfl) ?_
  refine t_nil ?_
  refine c_cond_f rfl rfl ?_
  refine c_skip ?_
  refine r_none rfl  ?_
  exact ⟨rfl, hS⟩
set_option maxRecDepth 100000 in
theorem nrNat {n : Int} : Calls Try.prog 59 #[.pointer none, .int .u64 n] W fun e w' => e = .returned (.int .u64 0) ∧ St W w' [] := by
  have hS := St.init W
  refine calls_of_wpE (args := [_, _]) Try.func59 rfl rfl rfl ?_
  refine c_seq ?_
  refine c_region ?_
  refine t_q (q_assign) ?_
  refine t_nil ?_
  refine c_seq ?_
  refine c_seq ?_
  refine c_region ?_
  refine t_q (q_mv (.pointer _) rfl) ?_
  refine t_q (q_eql_ptr_nil Try.runUnderlying77 rfl rfl) ?_
  refine t_nil ?_
  refine c_cond_t rfl rfl ?_
  refine c_seq ?_
  refine c_region ?_
  refine t_q (q_assign) ?_
  refine t_nil ?_
  refine c_ret ?_
  refine r_one rfl rfl ?_
  exact ⟨rfl, hS⟩
set_option maxRecDepth 100000 in
theorem nrInt : Calls Try.prog 61 #[.pointer none] W fun e w' => e = .returned (.int .i64 0) ∧ St W w' [] := by
  have hS := St.init W
  refine calls_of_wpE (args := [_]) Try.func61 rfl rfl rfl ?_
  refine c_seq ?_
  refine c_region ?_
  refine t_q (q_assign) ?_
  refine t_nil ?_
  refine c_seq ?_
  refine c_region ?_
  refine t_q (q_mv (.pointer _) rfl) ?_
  refine t_call Try.call59 (nrNat) rfl ?_
  rintro e w ⟨rfl, hT⟩
  refine ⟨_, rfl, ?_⟩
  replace hS := hS.after hT
  refine t_q (q_as (.int _ _) rfl) ?_
  refine t_nil ?_
  refine c_seq ?_
  refine c_region ?_
  refine t_q (q_mv (.int _ _) rfl) ?_
  refine t_q (q_shr_n (D := 2) rfl rfl (by decide) (by decide) (by decide)) ?_
  refine t_q (q_conv_i64 Try.runUnderlying24 Try.runUnderlying2 rfl (by omega)) ?_
  refine t_q (q_mv (.int _ _) rfl) ?_
  refine t_q (q_cast (v' := .int .u64 0) (q_and_u64 rfl rfl (by omega) (by omega)) (by rfl)) ?_
  refine t_q (q_conv_i64 Try.runUnderlying24 Try.runUnderlying2 rfl (by omega)) ?_
  refine t_q (q_neg_i64 rfl (by omega)) ?_
  refine t_q (q_cast (v' := .int .i64 0) (q_xor rfl rfl) (by rfl)) ?_
  refine t_q (q_as (.int _ _) rfl) ?_
  refine t_nil ?_
  refine c_ret ?_
  refine r_one rfl rfl ?_
  exact ⟨rfl, hS⟩
set_option maxRecDepth 100000 in
theorem nrFlag : Calls Try.prog 63 #[.pointer none] W fun e w' => e = .returned (.bool false) ∧ St W w' [] := by
  have hS := St.init W
  refine calls_of_wpE (args := [_]) Try.func63 rfl rfl rfl ?_
  refine c_seq ?_
  refine c_region ?_
  refine t_q (q_assign) ?_
  refine t_nil ?_
  refine c_seq ?_
  refine c_region ?_
  refine t_q (q_mv (.pointer _) rfl) ?_
  refine t_call Try.call59 (nrNat) rfl ?_
  rintro e w ⟨rfl, hT⟩
  refine ⟨_, rfl, ?_⟩
  replace hS := hS.after hT
  refine t_q (q_cast (v' := .bool false) (q_eql rfl rfl) (by rfl)) ?_
  refine t_q (q_as (.bool _) rfl) ?_
  refine t_nil ?_
  refine c_ret ?_
  refine r_one rfl rfl ?_
  exact ⟨rfl, hS⟩
set_option maxRecDepth 100000 in
theorem nrText {n : Int} : Calls Try.prog 65 #[.pointer none, .int .i64 n] W fun e w' => e = .returned (.string ByteArray.empty) ∧ St W w' [] := by
  have hS := St.init W
  refine calls_of_wpE (args := [_, _]) Try.func65 rfl rfl rfl ?_
  refine c_seq ?_
  refine c_region ?_
  refine t_box (v := (.pointer _)) rfl rfl hS (fun g2 w hS => ?_)
  refine t_q (q_assign) ?_
  refine t_nil ?_
  refine c_seq ?_
  refine c_seq ?_
  refine c_region ?_
  refine t_q (q_load1 Try.isAgg77 rfl (hS.cell (by repeat first | exact .here _ _ | assumption | apply Pick.there) rfl)) ?_
  refine t_q (q_eql_ptr_nil Try.runUnderlying77 rfl rfl) ?_
  refine t_nil ?_
  refine c_cond_t rfl rfl ?_
  refine c_seq ?_
  refine c_region ?_
  refine t_q (q_assign) ?_
  refine t_nil ?_
  refine c_ret ?_
  refine r_one rfl rfl ?_
  exact ⟨rfl, hS.nil⟩
set_option maxRecDepth 100000 in
theorem nrLeft : Calls Try.prog 69 #[.pointer none] W fun e w' => e = .returned (.int .i64 0) ∧ St W w' [] := by
  have hS := St.init W
  refine calls_of_wpE (args := [_]) Try.func69 rfl rfl rfl ?_
  refine c_seq ?_
  refine c_region ?_
  refine t_q (q_assign) ?_
  refine t_nil ?_
  refine c_seq ?_
  refine c_seq ?_
  refine c_region ?_
  refine t_q (q_mv (.pointer _) rfl) ?_
  refine t_q (q_eql_ptr_nil Try.runUnderlying77 rfl rfl) ?_
  refine t_nil ?_
  refine c_cond_t rfl rfl ?_
  refine c_seq ?_
  refine c_region ?_
  refine t_q (q_assign) ?_
  refine t_nil ?_
  refine c_ret ?_
  refine r_one rfl rfl ?_
  exact ⟨rfl, hS⟩
set_option maxRecDepth 100000 in
theorem nrBad : Calls Try.prog 70 #[.pointer none] W fun e w' => e = .returned (.bool false) ∧ St W w' [] := by
  have hS := St.init W
  refine calls_of_wpE (args := [_]) Try.func70 rfl rfl rfl ?_
  refine c_seq ?_
  refine c_region ?_
  refine t_q (q_assign) ?_
  refine t_nil ?_
  refine c_seq ?_
  refine c_region ?_
  refine t_q (q_mv (.pointer _) rfl) ?_
  refine t_q (q_neq_ptr_nil Try.runUnderlying77 rfl rfl) ?_
  refine t_q (q_mv (.bool _) rfl) ?_
  refine t_no rfl rfl (by decide) ?_
  refine t_no rfl rfl (by decide) ?_
  refine t_no rfl rfl (by decide) ?_
  refine t_no rfl rfl (by decide) ?_
  refine t_q (q_pick_f rfl rfl) ?_
  refine t_q (q_as (.bool _) rfl) ?_
  refine t_nil ?_
  refine c_ret ?_
  refine r_one rfl rfl ?_
  exact ⟨rfl, hS⟩
set_option maxRecDepth 100000 in
theorem nrEnd : Calls Try.prog 71 #[.pointer none] W fun e w' => e = .returned (.int .i64 1) ∧ St W w' [] := by
  have hS := St.init W
  refine calls_of_wpE (args := [_]) Try.func71 rfl rfl rfl ?_
  refine c_seq ?_
  refine c_region ?_
  refine t_q (q_assign) ?_
  refine t_nil ?_
  refine c_seq ?_
  refine c_block ?_
  refine c_seq ?_
  refine c_region ?_
  refine t_q (q_mv (.pointer _) rfl) ?_
  refine t_q (q_eql_ptr_nil Try.runUnderlying77 rfl rfl) ?_
  refine t_q (q_as (.bool _) rfl) ?_
  refine t_nil ?_
  refine c_cond_t rfl rfl ?_
  refine c_seq ?_
  refine c_region ?_
  refine t_q (q_assign) ?_
  refine t_nil ?_
  refine c_ret ?_
  refine r_one rfl rfl ?_
  exact ⟨rfl, hS⟩
set_option maxRecDepth 100000 in
theorem CodecNobody_calls {n : Int} {s : ByteArray} (hn : 0 ≤ n ∧ n < 18446744073709551616) :
  Calls Try.prog 11 #[.int .u64 n, .string s] W fun e w' => e = .returned (.bool true) ∧ St W w' [] := by
  have hS := St.init W
  refine calls_of_wpE (args := [_, _]) Try.func11 rfl rfl rfl ?_
  refine c_seq ?_
  refine c_region ?_
  refine t_q (q_assign) ?_
  refine t_nil ?_
  refine c_seq ?_
  refine c_seq ?_
  refine c_region ?_
  refine t_q (q_mv (.string _) rfl) ?_
  refine t_q (q_len_string Try.runUnderlying9 rfl) ?_
  refine t_q (q_gtr rfl rfl) ?_
  refine t_nil ?_
  refine c_cond rfl ?_ ?_
  · intro hc2
    have hc2d := of_decide_eq_true hc2
    refine c_seq ?_
    refine c_region ?_
    refine t_call Try.call41 (lives_calls) rfl ?_
    rintro e w ⟨rfl, hT⟩
    refine ⟨_, rfl, ?_⟩
    replace hS := hS.after hT
    refine t_q (q_as (.bool _) rfl) ?_
    refine t_nil ?_
    refine c_ret ?_
    refine r_one rfl rfl ?_
    exact ⟨rfl, hS.nil⟩
  · intro hc2
    have hc2d := of_decide_eq_false hc2
    refine c_skip ?_
    refine c_seq ?_
    refine c_region ?_
    refine t_q (q_assign) ?_
    refine t_nil ?_
    refine c_seq ?_
    refine c_region ?_
    refine t_q (q_mv (.pointer _) rfl) ?_
    refine t_q (q_mv (.int _ _) rfl) ?_
    refine t_build_ints [_] Try.runUnderlying191 Try.sizeOf24 Try.zeroValue24 rfl rfl (by decide) hS (fun g14 w hS => ?_)
    refine t_call Try.call42 (nNat (hS.rowInts (.here _ _) rfl) (by simp)) rfl ?_
    rintro e w ⟨rfl, hT⟩
    refine ⟨_, rfl, ?_⟩
    replace hS := hS.after hT
    refine t_nil ?_
    refine c_seq ?_
    refine c_region ?_
    refine t_q (q_mv (.pointer _) rfl) ?_
    refine t_build_ints [_] Try.runUnderlying192 Try.sizeOf2 Try.zeroValue2 rfl rfl (by decide) hS (fun g17 w hS => ?_)
    refine t_call Try.call44 (nInt (hS.rowInts (.here _ _) rfl) (by simp) (by intro m hm; simp only [List.mem_cons, List.not_mem_nil, or_false] at hm; omega)) rfl ?_
    rintro e w ⟨rfl, hT⟩
    refine ⟨_, rfl, ?_⟩
    replace hS := hS.after hT
    refine t_nil ?_
    refine c_seq ?_
    refine c_region ?_
    refine t_q (q_mv (.pointer _) rfl) ?_
    refine t_call Try.call46 (nFlag) rfl ?_
    rintro e w ⟨rfl, hT⟩
    refine ⟨_, rfl, ?_⟩
    replace hS := hS.after hT
    refine t_nil ?_
    refine c_seq ?_
    refine c_region ?_
    refine t_q (q_mv (.pointer _) rfl) ?_
    refine t_q (q_mv (.string _) rfl) ?_
    refine t_call Try.call48 (nText) rfl ?_
    rintro e w ⟨rfl, hT⟩
    refine ⟨_, rfl, ?_⟩
    replace hS := hS.after hT
    refine t_nil ?_
    refine c_seq ?_
    refine c_region ?_
    refine t_q (q_assign) ?_
    refine t_nil ?_
    refine c_seq ?_
    refine c_region ?_
    refine t_alloc Try.zeroValue106 rfl hS (fun g7 w hS => ?_)
    replace hS := hS.unrdr (V := W) (s := ⟨[], false⟩) rfl rfl (Rd.none_ _ _ _ _) ⟨Nat.zero_le _, by decide⟩
    refine t_nil ?_
    refine c_seq ?_
    refine c_region ?_
    refine t_q (q_mv (.pointer _) rfl) ?_
    refine t_call Try.call67 (nFail) rfl ?_
    rintro e w ⟨rfl, hT⟩
    refine ⟨_, rfl, ?_⟩
    replace hS := hS.after hT
    refine t_nil ?_
    refine c_seq ?_
    refine c_seq ?_
    refine c_region ?_
    refine t_q (q_mv (.pointer _) rfl) ?_
    refine t_call Try.call50 (nBytes) rfl ?_
    rintro e w ⟨rfl, hT⟩
    refine ⟨_, rfl, ?_⟩
    replace hS := hS.after hT
    refine t_q (q_len_slice Try.runUnderlying48 rfl) ?_
    refine t_q (q_cast (v' := .bool false) (q_neq rfl rfl) (by first | rfl | decide | simp)) ?_
    refine t_q (q_mv (.bool _) rfl) ?_
    refine t_yes rfl rfl rfl ?_
    refine t_q (q_mv (.pointer _) rfl) ?_
    refine t_yes rfl rfl rfl ?_
    refine t_q (q_mv (.int _ _) rfl) ?_
    refine t_yes rfl rfl rfl ?_
    refine t_call Try.call59 (nrNat) rfl ?_
    rintro e w ⟨rfl, hT⟩
    refine ⟨_, rfl, ?_⟩
    replace hS := hS.after hT
    refine t_yes rfl rfl rfl ?_
    refine t_q (q_cast (v' := .bool false) (q_neq rfl rfl) (by first | rfl | decide | simp)) ?_
    refine t_q (q_pick_f rfl rfl) ?_
    refine t_q (q_mv (.bool _) rfl) ?_
    refine t_yes rfl rfl rfl ?_
    refine t_q (q_mv (.pointer _) rfl) ?_
    refine t_yes rfl rfl rfl ?_
    refine t_call Try.call61 (nrInt) rfl ?_
    rintro e w ⟨rfl, hT⟩
    refine ⟨_, rfl, ?_⟩
    replace hS := hS.after hT
    refine t_yes rfl rfl rfl ?_
    refine t_q (q_cast (v' := .bool false) (q_neq rfl rfl) (by first | rfl | decide | simp)) ?_
    refine t_q (q_pick_f rfl rfl) ?_
    refine t_q (q_mv (.bool _) rfl) ?_
    refine t_yes rfl rfl rfl ?_
    refine t_q (q_mv (.pointer _) rfl) ?_
    refine t_yes rfl rfl rfl ?_
    refine t_call Try.call63 (nrFlag) rfl ?_
    rintro e w ⟨rfl, hT⟩
    refine ⟨_, rfl, ?_⟩
    replace hS := hS.after hT
    refine t_q (q_cast (v' := .bool false) (q_pick_f rfl rfl) (by first | rfl | decide | simp)) ?_
    refine t_q (q_mv (.bool _) rfl) ?_
    refine t_yes rfl rfl rfl ?_
    refine t_q (q_mv (.pointer _) rfl) ?_
    refine t_yes rfl rfl rfl ?_
    refine t_call Try.call65 (nrText) rfl ?_
    rintro e w ⟨rfl, hT⟩
    refine ⟨_, rfl, ?_⟩
    replace hS := hS.after hT
    refine t_yes rfl rfl rfl ?_
    refine t_q (q_cast (v' := .bool false) (q_neq_string rfl rfl) (by first | rfl | decide | simp)) ?_
    refine t_q (q_pick_f rfl rfl) ?_
    refine t_q (q_mv (.bool _) rfl) ?_
    refine t_yes rfl rfl rfl ?_
    refine t_q (q_mv (.pointer _) rfl) ?_
    refine t_yes rfl rfl rfl ?_
    refine t_call Try.call70 (nrBad) rfl ?_
    rintro e w ⟨rfl, hT⟩
    refine ⟨_, rfl, ?_⟩
    replace hS := hS.after hT
    refine t_q (q_cast (v' := .bool false) (q_pick_f rfl rfl) (by first | rfl | decide | simp)) ?_
    refine t_q (q_mv (.bool _) rfl) ?_
    refine t_yes rfl rfl rfl ?_
    refine t_q (q_mv (.pointer _) rfl) ?_
    refine t_yes rfl rfl rfl ?_
    refine t_call Try.call69 (nrLeft) rfl ?_
    rintro e w ⟨rfl, hT⟩
    refine ⟨_, rfl, ?_⟩
    replace hS := hS.after hT
    refine t_yes rfl rfl rfl ?_
    refine t_q (q_cast (v' := .bool false) (q_neq rfl rfl) (by first | rfl | decide | simp)) ?_
    refine t_q (q_pick_f rfl rfl) ?_
    refine t_q (q_mv (.bool _) rfl) ?_
    refine t_yes rfl rfl rfl ?_
    refine t_q (q_mv (.pointer _) rfl) ?_
    refine t_yes rfl rfl rfl ?_
    refine t_call Try.call71 (nrEnd) rfl ?_
    rintro e w ⟨rfl, hT⟩
    refine ⟨_, rfl, ?_⟩
    replace hS := hS.after hT
    refine t_yes rfl rfl rfl ?_
    refine t_q (q_cast (v' := .bool false) (q_neq rfl rfl) (by first | rfl | decide | simp)) ?_
    refine t_q (q_pick_f rfl rfl) ?_
    refine t_nil ?_
    refine c_cond_f rfl rfl ?_
    refine c_skip ?_
    refine c_seq ?_
    refine c_region ?_
    refine t_call Try.call71 (rEnd hS (by repeat first | exact .here _ _ | assumption | apply Pick.there)) rfl ?_
    rintro e w ⟨rfl, hS⟩
    refine ⟨_, rfl, ?_⟩
    refine t_q (q_cast (v' := .bool true) (q_eql rfl rfl) (by first | rfl | decide | simp)) ?_
    refine t_q (q_mv (.bool _) rfl) ?_
    refine t_yes rfl rfl rfl ?_
    refine t_call Try.call70 (rBad hS (by repeat first | exact .here _ _ | assumption | apply Pick.there)) rfl ?_
    rintro e w ⟨rfl, hS⟩
    refine ⟨_, rfl, ?_⟩
    refine t_yes rfl rfl rfl ?_
    refine t_q (q_cast (v' := .bool true) (q_not rfl) (by first | rfl | decide | simp)) ?_
    refine t_q (q_pick_t rfl rfl) ?_
    refine t_q (q_mv (.bool _) rfl) ?_
    refine t_yes rfl rfl rfl ?_
    refine t_q (q_mv (.int _ _) rfl) ?_
    refine t_yes rfl rfl rfl ?_
    refine t_call Try.call59 (rNat hS (by repeat first | exact .here _ _ | assumption | apply Pick.there) (by omega) (by omega)) rfl ?_
    rintro e w ⟨rfl, hS⟩
    refine ⟨_, rfl, ?_⟩
    refine t_yes rfl rfl rfl ?_
    refine t_q (q_cast (v' := .bool true) (q_eql rfl rfl) (by first | rfl | decide | simp)) ?_
    refine t_q (q_pick_t rfl rfl) ?_
    refine t_q (q_mv (.bool _) rfl) ?_
    refine t_yes rfl rfl rfl ?_
    refine t_call Try.call70 (rBad hS (by repeat first | exact .here _ _ | assumption | apply Pick.there)) rfl ?_
    rintro e w ⟨rfl, hS⟩
    refine ⟨_, rfl, ?_⟩
    refine t_q (q_cast (v' := .bool true) (q_pick_t rfl rfl) (by first | rfl | decide | simp)) ?_
    refine t_q (q_mv (.bool _) rfl) ?_
    refine t_yes rfl rfl rfl ?_
    refine t_call Try.call41 (lives_calls) rfl ?_
    rintro e w ⟨rfl, hT⟩
    refine ⟨_, rfl, ?_⟩
    replace hS := hS.after hT
    refine t_q (q_pick_t rfl rfl) ?_
    refine t_q (q_as (.bool _) rfl) ?_
    refine t_nil ?_
    refine c_ret ?_
    refine r_one rfl rfl ?_
    exact ⟨rfl, hS.nil⟩
end Go.Proofs.Ytcikoealneldkaa
