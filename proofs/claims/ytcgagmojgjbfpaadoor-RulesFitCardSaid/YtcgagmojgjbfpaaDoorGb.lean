/- Products of coin; bands. -/
import Derived.Test.YtcgagmojgjbfpaaDoorGa
import Derived.Test.YtcgagmojgjbfpaaDoorFd
namespace Go.Proofs.YtcgagmojgjbfpaaDoor
open Go Go.RowKit Go.Lib
variable {W : World}
theorem and_mask {x : Int} (h : 0 ≤ x) : ((x.toNat &&& (4294967295 : Int).toNat : Nat) : Int) = x % 4294967296 := by
  have h1 := Nat.and_two_pow_sub_one_eq_mod x.toNat 32
  have h2 : x.toNat &&& (4294967295 : Int).toNat = x.toNat % 4294967296 := h1
  rw [h2]
  omega
theorem mul_rng {a b A B : Int} (ha : 0 ≤ a ∧ a ≤ A) (hb : 0 ≤ b ∧ b ≤ B) : 0 ≤ a * b ∧ a * b ≤ A * B :=
  ⟨Int.mul_nonneg ha.1 hb.1, Int.mul_le_mul ha.2 hb.2 hb.1 (by omega)⟩
/-- may a price be, by a band around a last one -/
def bandE (last p band : Int) : Int := if ¬ ((0 ≤ last ∧ last ≤ 1099511627776) ∧ 1 ≤ p ∧ p ≤ 1099511627776) then 2 else if last = 0 ∨ band = 0 then 0 else if last * band < max (p - last) (last - p) * 1000000 then 42 else 0
theorem band_2 {last p band : Int} (h : ¬ ((0 ≤ last ∧ last ≤ 1099511627776) ∧ 1 ≤ p ∧ p ≤ 1099511627776)) : bandE last p band = 2 := if_pos h
theorem band_0 {last p band : Int} (h : (0 ≤ last ∧ last ≤ 1099511627776) ∧ 1 ≤ p ∧ p ≤ 1099511627776) (h2 : last = 0 ∨ band = 0) : bandE last p band = 0 := by unfold bandE; rw [if_neg (not_not_intro h), if_pos h2]
theorem band_42 {last p band : Int} (h : (0 ≤ last ∧ last ≤ 1099511627776) ∧ 1 ≤ p ∧ p ≤ 1099511627776) (h2 : ¬ (last = 0 ∨ band = 0)) (h3 : last * band < max (p - last) (last - p) * 1000000) : bandE last p band = 42 := by unfold bandE; rw [if_neg (not_not_intro h), if_neg h2, if_pos h3]
theorem band_ok {last p band : Int} (h : (0 ≤ last ∧ last ≤ 1099511627776) ∧ 1 ≤ p ∧ p ≤ 1099511627776) (h2 : ¬ (last = 0 ∨ band = 0)) (h3 : ¬ last * band < max (p - last) (last - p) * 1000000) : bandE last p band = 0 := by unfold bandE; rw [if_neg (not_not_intro h), if_neg h2, if_neg h3]
attribute [local irreducible] blkA rowA nF nB loB upB mulA mulX brw
set_option maxRecDepth 100000 in
theorem mul64_calls {x y : Int} (hx : 0 ≤ x ∧ x ≤ 2199023255552) (hy : 0 ≤ y ∧ y ≤ 1048576) : Calls Tryd.prog 114 #[.int .u64 x, .int .u64 y] W fun e w' => e = .returned (.tuple #[.int .u64 0, .int .u64 (x * y)]) ∧ St W w' [] := by
  have hS := St.init W
  have hp := mul_rng hx hy
  have hp0 := mul_rng (a := x % 4294967296) (b := y) (A := 4294967295) ⟨by omega, by omega⟩ hy
  have hp1 := mul_rng (a := x / 4294967296) (b := y) (A := 512) ⟨by omega, by omega⟩ hy
  refine calls_of_wpE (args := [_, _]) Tryd.func114 rfl rfl rfl ?_
  refine c_seq ?_
  refine c_region ?_
  refine t_q (q_assign) ?_
  refine t_q (q_assign) ?_
  refine t_nil ?_
  refine c_seq ?_
  refine c_region ?_
  refine t_q (q_mv (.int _ _) rfl) ?_
  refine t_q (q_cast (v' := .int .u64 (x % 4294967296)) (q_and_u64 rfl rfl (by omega) (by omega)) (congrArg (Value.int .u64) (and_mask hx.1))) ?_
  refine t_q (q_as (.int _ _) rfl) ?_
  refine t_nil ?_
  refine c_seq ?_
  refine c_region ?_
  refine t_q (q_mv (.int _ _) rfl) ?_
  refine t_q (q_shr_n (D := 4294967296) rfl rfl (by decide) (by decide) (by decide)) ?_
  refine t_q (q_as (.int _ _) rfl) ?_
  refine t_nil ?_
  refine c_seq ?_
  refine c_region ?_
  refine t_q (q_mv (.int _ _) rfl) ?_
  refine t_q (q_cast (v' := .int .u64 (y)) (q_and_u64 rfl rfl (by omega) (by omega)) (congrArg (Value.int .u64) ((and_mask hy.1).trans (by omega)))) ?_
  refine t_q (q_as (.int _ _) rfl) ?_
  refine t_nil ?_
  refine c_seq ?_
  refine c_region ?_
  refine t_q (q_mv (.int _ _) rfl) ?_
  refine t_q (q_cast (v' := .int .u64 (0)) (q_shr_n (D := 4294967296) rfl rfl (by decide) (by decide) (by decide)) (congrArg (Value.int .u64) (by omega))) ?_
  refine t_q (q_as (.int _ _) rfl) ?_
  refine t_nil ?_
  refine c_seq ?_
  refine c_region ?_
  refine t_q (q_mv (.int _ _) rfl) ?_
  refine t_q (q_mv (.int _ _) rfl) ?_
  refine t_q (q_mul_u64 rfl rfl (by omega)) ?_
  refine t_q (q_as (.int _ _) rfl) ?_
  refine t_nil ?_
  refine c_seq ?_
  refine c_region ?_
  refine t_q (q_mv (.int _ _) rfl) ?_
  refine t_q (q_mv (.int _ _) rfl) ?_
  refine t_q (q_mul_u64 rfl rfl (by omega)) ?_
  refine t_q (q_mv (.int _ _) rfl) ?_
  refine t_q (q_shr_n (D := 4294967296) rfl rfl (by decide) (by decide) (by decide)) ?_
  refine t_q (q_add_u64 rfl rfl (by omega)) ?_
  refine t_q (q_as (.int _ _) rfl) ?_
  refine t_nil ?_
  refine c_seq ?_
  refine c_region ?_
  refine t_q (q_mv (.int _ _) rfl) ?_
  refine t_q (q_cast (v' := .int .u64 (x / 4294967296 * y + x % 4294967296 * y / 4294967296)) (q_and_u64 rfl rfl (by omega) (by omega)) (congrArg (Value.int .u64) ((and_mask (by omega)).trans (by omega)))) ?_
  refine t_q (q_as (.int _ _) rfl) ?_
  refine t_nil ?_
  refine c_seq ?_
  refine c_region ?_
  refine t_q (q_mv (.int _ _) rfl) ?_
  refine t_q (q_cast (v' := .int .u64 (0)) (q_shr_n (D := 4294967296) rfl rfl (by decide) (by decide) (by decide)) (congrArg (Value.int .u64) (by omega))) ?_
  refine t_q (q_as (.int _ _) rfl) ?_
  refine t_nil ?_
  refine c_seq ?_
  refine c_region ?_
  refine t_q (q_mv (.int _ _) rfl) ?_
  refine t_q (q_mv (.int _ _) rfl) ?_
  refine t_q (q_mv (.int _ _) rfl) ?_
  refine t_q (q_cast (v' := .int .u64 (0)) (q_mul_u64 rfl rfl (by omega)) (congrArg (Value.int .u64) (by omega))) ?_
  refine t_q (q_add_u64 rfl rfl (by omega)) ?_
  refine t_q (q_as (.int _ _) rfl) ?_
  refine t_nil ?_
  refine c_seq ?_
  refine c_region ?_
  refine t_q (q_mv (.int _ _) rfl) ?_
  refine t_q (q_mv (.int _ _) rfl) ?_
  refine t_q (q_cast (v' := .int .u64 (0)) (q_mul_u64 rfl rfl (by omega)) (congrArg (Value.int .u64) (by omega))) ?_
  refine t_q (q_mv (.int _ _) rfl) ?_
  refine t_q (q_cast (v' := .int .u64 (0)) (q_add_u64 rfl rfl (by omega)) (congrArg (Value.int .u64) (by omega))) ?_
  refine t_q (q_mv (.int _ _) rfl) ?_
  refine t_q (q_cast (v' := .int .u64 (0)) (q_shr_n (D := 4294967296) rfl rfl (by decide) (by decide) (by decide)) (congrArg (Value.int .u64) (by omega))) ?_
  refine t_q (q_cast (v' := .int .u64 (0)) (q_add_u64 rfl rfl (by omega)) (congrArg (Value.int .u64) (by omega))) ?_
  refine t_q (q_as (.int _ _) rfl) ?_
  refine t_nil ?_
  refine c_seq ?_
  refine c_region ?_
  refine t_q (q_mv (.int _ _) rfl) ?_
  refine t_q (q_mv (.int _ _) rfl) ?_
  refine t_q (q_mul_u64 rfl rfl (by omega)) ?_
  refine t_q (q_as (.int _ _) rfl) ?_
  refine t_nil ?_
  refine c_ret ?_
  refine r_two rfl rfl rfl ?_
  exact ⟨rfl, hS.nil⟩
set_option maxRecDepth 100000 in
theorem csize_calls {x : Int} (hx : 0 ≤ x ∧ x ≤ 9223372036854775807) : Calls Tryd.prog 115 #[.int .i64 x] W fun e w' => e = .returned (.int .u64 x) ∧ St W w' [] := by
  have hS := St.init W
  refine calls_of_wpE (args := [_]) Tryd.func115 rfl rfl rfl ?_
  refine c_seq ?_
  refine c_region ?_
  refine t_q (q_assign) ?_
  refine t_nil ?_
  refine c_seq ?_
  refine c_seq ?_
  refine c_region ?_
  refine t_q (q_mv (.int _ _) rfl) ?_
  refine t_q (q_cast (v' := .bool false) (q_lss rfl rfl) (congrArg Value.bool (decide_eq_false (by omega)))) ?_
  refine t_nil ?_
  refine c_cond_f rfl rfl ?_
  refine c_skip ?_
  refine c_seq ?_
  refine c_region ?_
  refine t_q (q_mv (.int _ _) rfl) ?_
  first | refine t_q (q_conv_u64 Tryd.runUnderlying2 Tryd.runUnderlying103 rfl (by omega)) ?_ | refine t_q (q_convm_u64 Tryd.runUnderlying2 Tryd.runUnderlying103 rfl) ?_
  refine t_q (q_as (.int _ _) rfl) ?_
  refine t_nil ?_
  refine c_ret ?_
  refine r_one rfl rfl ?_
  exact ⟨rfl, hS.nil⟩
set_option maxRecDepth 100000 in
theorem ctimes_calls {x y : Int} (hx : 0 ≤ x ∧ x ≤ 2199023255552) (hy : 0 ≤ y ∧ y ≤ 1048576) : Calls Tryd.prog 103 #[.int .i64 x, .int .i64 y] W fun e w' => e = .returned (.agg #[.int .u64 0, .int .u64 (x * y), .bool false]) ∧ St W w' [] := by
  have hS := St.init W
  refine calls_of_wpE (args := [_, _]) Tryd.func103 rfl rfl rfl ?_
  refine c_seq ?_
  refine c_region ?_
  refine t_alloc Tryd.zeroValue160 rfl hS (fun g4 w hS => ?_)
  refine t_nil ?_
  refine c_seq ?_
  refine c_region ?_
  refine t_q (q_mv (.int _ _) rfl) ?_
  refine t_call Tryd.call115 (csize_calls (x := x) ⟨hx.1, by omega⟩) rfl ?_
  rintro e w ⟨rfl, hT⟩
  refine ⟨_, rfl, ?_⟩
  replace hS := hS.after hT
  refine t_q (q_mv (.int _ _) rfl) ?_
  refine t_call Tryd.call115 (csize_calls (x := y) ⟨hy.1, by omega⟩) rfl ?_
  rintro e w ⟨rfl, hT⟩
  refine ⟨_, rfl, ?_⟩
  replace hS := hS.after hT
  refine t_call Tryd.call114 (mul64_calls hx hy) rfl ?_
  rintro e w ⟨rfl, hT⟩
  refine ⟨_, rfl, ?_⟩
  replace hS := hS.after hT
  refine t_q (q_mv (.tuple _) rfl) ?_
  refine t_q (q_extract rfl rfl) ?_
  refine t_q (q_extract rfl rfl) ?_
  refine t_q (q_as (.int _ _) rfl) ?_
  refine t_q (q_as (.int _ _) rfl) ?_
  refine t_nil ?_
  refine c_seq ?_
  refine c_region ?_
  refine t_q (q_mv (.int _ _) rfl) ?_
  refine t_q (q_mv (.int _ _) rfl) ?_
  refine t_q (q_mv (.int _ _) rfl) ?_
  refine t_q (q_cast (v' := .bool false) (q_lss rfl rfl) (congrArg Value.bool (decide_eq_false (by omega)))) ?_
  refine t_q (q_mv (.int _ _) rfl) ?_
  refine t_q (q_cast (v' := .bool false) (q_lss rfl rfl) (congrArg Value.bool (decide_eq_false (by omega)))) ?_
  refine t_q (q_cast (v' := .bool false) (q_neq_bool Tryd.runUnderlying4 rfl rfl) (by rfl)) ?_
  refine t_q (q_mv (.bool _) rfl) ?_
  refine t_no rfl rfl (by decide) ?_
  refine t_no rfl rfl (by decide) ?_
  refine t_no rfl rfl (by decide) ?_
  refine t_no rfl rfl (by decide) ?_
  refine t_q (q_pick_f rfl rfl) ?_
  refine t_q (q_build (qs := [(0, 1), (1, 1), (2, 1)]) [(.int _ _), (.int _ _), (.bool _)] Tryd.zeroValue160 Tryd.runUnderlying160 ⟨rfl, Tryd.sizeOf103, rfl, Tryd.sizeOf103, rfl, Tryd.sizeOf4, trivial⟩ rfl rfl) ?_
  refine t_store (v := (.agg _)) Tryd.sizeOf160 hS (by repeat first | exact .here _ _ | assumption | apply Pick.there) rfl rfl rfl rfl rfl rfl (fun w hS => ?_)
  replace hS := hS.recast (show _ = blkA g4 160 [.int .u64 0, .int .u64 (x * y), .bool false] from rfl)
  refine t_nil ?_
  refine c_ret ?_
  refine r_one rfl (res1_cellN Tryd.isAgg160 Tryd.sizeOf160 rfl (hS.blk (by repeat first | exact .here _ _ | assumption | apply Pick.there)) rfl) ?_
  exact ⟨rfl, hS.nil⟩
set_option maxRecDepth 100000 in
theorem smaller_calls {p q : Int} : Calls Tryd.prog 104 #[.agg #[.int .u64 0, .int .u64 (p), .bool false], .agg #[.int .u64 0, .int .u64 (q), .bool false]] W fun e w' => e = .returned (.bool (decide (p < q))) ∧ St W w' [] := by
  have hS := St.init W
  refine calls_of_wpE (args := [_, _]) Tryd.func104 rfl rfl rfl ?_
  refine c_seq ?_
  refine c_region ?_
  refine t_box (v := (.agg _)) rfl rfl hS (fun g2 w hS => ?_)
  replace hS := hS.recast (show _ = blkA g2 160 [.int .u64 0, .int .u64 (p), .bool false] from rfl)
  refine t_box (v := (.agg _)) rfl rfl hS (fun g3 w hS => ?_)
  replace hS := hS.recast (show _ = blkA g3 160 [.int .u64 0, .int .u64 (q), .bool false] from rfl)
  refine t_q (q_assign) ?_
  refine t_nil ?_
  refine c_seq ?_
  refine c_region ?_
  refine t_q (q_fieldAddr 0 Tryd.runUnderlying160 rfl Tryd.sizeOf103 (by decide) rfl rfl) ?_
  refine t_q (q_load1 Tryd.isAgg103 rfl (hS.cell (by repeat first | exact .here _ _ | assumption | apply Pick.there) rfl)) ?_
  refine t_q (q_fieldAddr 0 Tryd.runUnderlying160 rfl Tryd.sizeOf103 (by decide) rfl rfl) ?_
  refine t_q (q_load1 Tryd.isAgg103 rfl (hS.cell (by repeat first | exact .here _ _ | assumption | apply Pick.there) rfl)) ?_
  refine t_q (q_cast (v' := .bool false) (q_lss rfl rfl) (by rfl)) ?_
  refine t_q (q_mv (.bool _) rfl) ?_
  refine t_yes rfl rfl rfl ?_
  refine t_q (q_fieldAddr 0 Tryd.runUnderlying160 rfl Tryd.sizeOf103 (by decide) rfl rfl) ?_
  refine t_yes rfl rfl rfl ?_
  refine t_q (q_load1 Tryd.isAgg103 rfl (hS.cell (by repeat first | exact .here _ _ | assumption | apply Pick.there) rfl)) ?_
  refine t_yes rfl rfl rfl ?_
  refine t_q (q_fieldAddr 0 Tryd.runUnderlying160 rfl Tryd.sizeOf103 (by decide) rfl rfl) ?_
  refine t_yes rfl rfl rfl ?_
  refine t_q (q_load1 Tryd.isAgg103 rfl (hS.cell (by repeat first | exact .here _ _ | assumption | apply Pick.there) rfl)) ?_
  refine t_yes rfl rfl rfl ?_
  refine t_q (q_cast (v' := .bool true) (q_eql rfl rfl) (by rfl)) ?_
  refine t_yes rfl rfl rfl ?_
  refine t_q (q_mv (.bool _) rfl) ?_
  refine t_yes rfl rfl rfl ?_
  refine t_q (q_fieldAddr 1 Tryd.runUnderlying160 rfl Tryd.sizeOf103 (by decide) rfl rfl) ?_
  refine t_yes rfl rfl rfl ?_
  refine t_q (q_load1 Tryd.isAgg103 rfl (hS.cell (by repeat first | exact .here _ _ | assumption | apply Pick.there) rfl)) ?_
  refine t_yes rfl rfl rfl ?_
  refine t_q (q_fieldAddr 1 Tryd.runUnderlying160 rfl Tryd.sizeOf103 (by decide) rfl rfl) ?_
  refine t_yes rfl rfl rfl ?_
  refine t_q (q_load1 Tryd.isAgg103 rfl (hS.cell (by repeat first | exact .here _ _ | assumption | apply Pick.there) rfl)) ?_
  refine t_yes rfl rfl rfl ?_
  refine t_q (q_lss rfl rfl) ?_
  refine t_yes rfl rfl rfl ?_
  refine t_q (q_pick_t rfl rfl) ?_
  refine t_q (q_pick_f rfl rfl) ?_
  refine t_q (q_as (.bool _) rfl) ?_
  refine t_nil ?_
  refine c_ret ?_
  refine r_one rfl rfl ?_
  exact ⟨rfl, hS.nil⟩
set_option maxRecDepth 100000 in
theorem cless_calls {a b c d : Int} (ha : 0 ≤ a ∧ a ≤ 2199023255552) (hb : 0 ≤ b ∧ b ≤ 1048576) (hc : 0 ≤ c ∧ c ≤ 2199023255552) (hd : 0 ≤ d ∧ d ≤ 1048576) : Calls Tryd.prog 89 #[.int .i64 a, .int .i64 b, .int .i64 c, .int .i64 d] W fun e w' => e = .returned (.bool (decide (a * b < c * d))) ∧ St W w' [] := by
  have hS := St.init W
  refine calls_of_wpE (args := [_, _, _, _]) Tryd.func89 rfl rfl rfl ?_
  refine c_seq ?_
  refine c_region ?_
  refine t_q (q_assign) ?_
  refine t_nil ?_
  refine c_seq ?_
  refine c_region ?_
  refine t_q (q_mv (.int _ _) rfl) ?_
  refine t_q (q_mv (.int _ _) rfl) ?_
  refine t_call Tryd.call103 (ctimes_calls ha hb) rfl ?_
  rintro e w ⟨rfl, hT⟩
  refine ⟨_, rfl, ?_⟩
  replace hS := hS.after hT
  refine t_q (q_mv (.int _ _) rfl) ?_
  refine t_q (q_mv (.int _ _) rfl) ?_
  refine t_call Tryd.call103 (ctimes_calls hc hd) rfl ?_
  rintro e w ⟨rfl, hT⟩
  refine ⟨_, rfl, ?_⟩
  replace hS := hS.after hT
  refine t_alloc Tryd.zeroValue160 rfl hS (fun g9 w hS => ?_)
  refine t_alloc Tryd.zeroValue160 rfl hS (fun g10 w hS => ?_)
  refine t_store (v := (.agg _)) Tryd.sizeOf160 hS (by repeat first | exact .here _ _ | assumption | apply Pick.there) rfl rfl rfl rfl rfl rfl (fun w hS => ?_)
  replace hS := hS.recast (show _ = blkA g9 160 [.int .u64 0, .int .u64 (a * b), .bool false] from rfl)
  refine t_store (v := (.agg _)) Tryd.sizeOf160 hS (by repeat first | exact .here _ _ | assumption | apply Pick.there) rfl rfl rfl rfl rfl rfl (fun w hS => ?_)
  replace hS := hS.recast (show _ = blkA g10 160 [.int .u64 0, .int .u64 (c * d), .bool false] from rfl)
  refine t_nil ?_
  refine c_seq ?_
  refine c_block ?_
  refine c_seq ?_
  refine c_region ?_
  refine t_q (q_fieldAddr 2 Tryd.runUnderlying160 rfl Tryd.sizeOf4 (by decide) rfl rfl) ?_
  refine t_q (q_load1 Tryd.isAgg4 rfl (hS.cell (by repeat first | exact .here _ _ | assumption | apply Pick.there) rfl)) ?_
  refine t_q (q_fieldAddr 2 Tryd.runUnderlying160 rfl Tryd.sizeOf4 (by decide) rfl rfl) ?_
  refine t_q (q_load1 Tryd.isAgg4 rfl (hS.cell (by repeat first | exact .here _ _ | assumption | apply Pick.there) rfl)) ?_
  refine t_q (q_cast (v' := .bool false) (q_neq_bool Tryd.runUnderlying4 rfl rfl) (by rfl)) ?_
  refine t_q (q_as (.bool _) rfl) ?_
  refine t_nil ?_
  refine c_cond_f rfl rfl ?_
  refine c_seq ?_
  refine c_region ?_
  refine t_q (q_fieldAddr 2 Tryd.runUnderlying160 rfl Tryd.sizeOf4 (by decide) rfl rfl) ?_
  refine t_q (q_load1 Tryd.isAgg4 rfl (hS.cell (by repeat first | exact .here _ _ | assumption | apply Pick.there) rfl)) ?_
  refine t_q (q_as (.bool _) rfl) ?_
  refine t_nil ?_
  refine c_cond_f rfl rfl ?_
  refine c_skip ?_
  refine c_seq ?_
  refine c_region ?_
  refine t_q (q_load_blk Tryd.isAgg160 Tryd.sizeOf160 rfl (hS.blk (by repeat first | exact .here _ _ | assumption | apply Pick.there)) rfl) ?_
  refine t_q (q_makeFunc_b rfl rfl) ?_
  refine t_q (q_as (.func _ _ _) rfl) ?_
  refine t_nil ?_
  refine c_seq ?_
  refine c_region ?_
  refine t_q (q_mv (.func _ _ _) rfl) ?_
  refine t_q (q_load_blk Tryd.isAgg160 Tryd.sizeOf160 rfl (hS.blk (by repeat first | exact .here _ _ | assumption | apply Pick.there)) rfl) ?_
  refine t_callv_b Tryd.call104 rfl (smaller_calls (p := a * b) (q := c * d)) rfl ?_
  rintro e w ⟨rfl, hT⟩
  refine ⟨_, rfl, ?_⟩
  replace hS := hS.after hT
  refine t_q (q_as (.bool _) rfl) ?_
  refine t_nil ?_
  refine c_ret ?_
  refine r_one rfl rfl ?_
  exact ⟨rfl, hS.nil⟩
set_option maxRecDepth 100000 in
theorem lmay2_calls {a b : Int} (hb : 0 ≤ b ∧ b ≤ 1000000) : Calls Tryd.prog 87 #[.int .i64 a, .int .i64 b] W fun e w' => e = .returned (.bool (decide (0 ≤ a ∧ a ≤ 1099511627776))) ∧ St W w' [] := by
  have hS := St.init W
  refine calls_of_wpE (args := [_, _]) Tryd.func87 rfl rfl rfl ?_
  refine c_seq ?_
  refine c_region ?_
  refine t_q (q_assign) ?_
  refine t_nil ?_
  refine c_seq ?_
  refine c_region ?_
  refine t_q (q_mv (.int _ _) rfl) ?_
  refine t_q (q_mv (.int _ _) rfl) ?_
  refine t_q (q_min rfl rfl) ?_
  refine t_q (q_geq rfl rfl) ?_
  refine t_q (q_mv (.bool _) rfl) ?_
  refine t_case 9 rfl ?_ ?_
  · intro hg2
    have hg2d := of_decide_eq_true hg2
    refine t_yes rfl rfl hg2 ?_
    refine t_q (q_mv (.int _ _) rfl) ?_
    refine t_yes rfl rfl hg2 ?_
    refine t_q (q_leq rfl rfl) ?_
    refine t_q (q_pick_t rfl hg2) ?_
    refine t_q (q_mv (.bool _) rfl) ?_
    refine t_case 13 rfl ?_ ?_
    · intro hg4
      have hg4d := of_decide_eq_true hg4
      refine t_yes rfl rfl hg4 ?_
      refine t_q (q_mv (.int _ _) rfl) ?_
      refine t_yes rfl rfl hg4 ?_
      refine t_q (q_leq rfl rfl) ?_
      refine t_q (q_pick_t rfl hg4) ?_
      refine t_q (q_as (.bool _) rfl) ?_
      refine t_nil ?_
      refine c_ret ?_
      refine r_one rfl rfl ?_
      have hN := hS.nil
      clear hS
      refine ⟨congrArg (fun b => Ending.returned (.bool b)) ?_, hN⟩
      first
        | (rw [decide_eq_decide]; omega)
        | (symm; apply decide_eq_false; omega)
        | (symm; apply decide_eq_true; omega)
    · intro hg4
      have hg4d := of_decide_eq_false hg4
      refine t_no rfl rfl (by rw [hg4]; decide) ?_
      refine t_no rfl rfl (by rw [hg4]; decide) ?_
      refine t_q (q_pick_f rfl hg4) ?_
      refine t_q (q_as (.bool _) rfl) ?_
      refine t_nil ?_
      refine c_ret ?_
      refine r_one rfl rfl ?_
      have hN := hS.nil
      clear hS
      refine ⟨congrArg (fun b => Ending.returned (.bool b)) ?_, hN⟩
      first
        | (rw [decide_eq_decide]; omega)
        | (symm; apply decide_eq_false; omega)
        | (symm; apply decide_eq_true; omega)
  · intro hg2
    have hg2d := of_decide_eq_false hg2
    refine t_no rfl rfl (by rw [hg2]; decide) ?_
    refine t_no rfl rfl (by rw [hg2]; decide) ?_
    refine t_q (q_pick_f rfl hg2) ?_
    refine t_q (q_mv (.bool _) rfl) ?_
    refine t_no rfl rfl (by decide) ?_
    refine t_no rfl rfl (by decide) ?_
    refine t_q (q_pick_f rfl rfl) ?_
    refine t_q (q_as (.bool _) rfl) ?_
    refine t_nil ?_
    refine c_ret ?_
    refine r_one rfl rfl ?_
    have hN := hS.nil
    clear hS
    refine ⟨congrArg (fun b => Ending.returned (.bool b)) ?_, hN⟩
    first
      | (rw [decide_eq_decide]; omega)
      | (symm; apply decide_eq_false; omega)
      | (symm; apply decide_eq_true; omega)
set_option maxRecDepth 100000 in
theorem band1_calls {last band way : Int} {w : World} {R : List Asn} {g3 g5 : Nat} (hl : 0 ≤ last ∧ last ≤ 1099511627776) (hb : 0 ≤ band ∧ band ≤ 1000000) (hw : 0 ≤ way ∧ way ≤ 2199023255552) (hS : St W w (blkA g3 2 [.int .i64 last] :: blkA g5 2 [.int .i64 band] :: R)) : Calls Tryd.prog 88 #[.int .i64 way, .pointer (some ⟨g3, 0, none⟩), .pointer (some ⟨g5, 0, none⟩)] w fun e w' => e = .returned (.bool (decide (last * band < way * 1000000))) ∧ St W w' (blkA g3 2 [.int .i64 last] :: blkA g5 2 [.int .i64 band] :: R) := by
  refine calls_of_wpE (args := [_, _, _]) Tryd.func88 rfl rfl rfl ?_
  refine c_seq ?_
  refine c_region ?_
  refine t_q (q_assign) ?_
  refine t_nil ?_
  refine c_seq ?_
  refine c_region ?_
  refine t_q (q_load1 Tryd.isAgg2 rfl (hS.cell (by repeat first | exact .here _ _ | assumption | apply Pick.there) rfl)) ?_
  refine t_q (q_load1 Tryd.isAgg2 rfl (hS.cell (by repeat first | exact .here _ _ | assumption | apply Pick.there) rfl)) ?_
  refine t_q (q_mv (.int _ _) rfl) ?_
  refine t_call Tryd.call89 (cless_calls (a := last) (b := band) (c := way) (d := 1000000) ⟨hl.1, by omega⟩ ⟨hb.1, by omega⟩ hw ⟨by decide, by decide⟩) rfl ?_
  rintro e w ⟨rfl, hT⟩
  refine ⟨_, rfl, ?_⟩
  replace hS := hS.after hT
  refine t_q (q_as (.bool _) rfl) ?_
  refine t_nil ?_
  refine c_ret ?_
  refine r_one rfl rfl ?_
  exact ⟨rfl, hS⟩
set_option maxHeartbeats 1000000 in
set_option maxRecDepth 100000 in
theorem band_calls {last p band : Int} (hp : -9223372036854775808 ≤ p ∧ p ≤ 9223372036854775807) (hl : -9223372036854775808 ≤ last ∧ last ≤ 9223372036854775807) (hb : 0 ≤ band ∧ band ≤ 1000000) : Calls Tryd.prog 60 #[.int .i64 last, .int .i64 p, .int .i64 band] W fun e w' => e = .returned (.int .i64 (bandE last p band)) ∧ St W w' [] := by
  have hS := St.init W
  refine calls_of_wpE (args := [_, _, _]) Tryd.func60 rfl rfl rfl ?_
  refine c_seq ?_
  refine c_region ?_
  refine t_box (v := (.int _ _)) rfl rfl hS (fun g3 w hS => ?_)
  replace hS := hS.recast (show _ = blkA g3 2 [.int .i64 last] from rfl)
  refine t_box (v := (.int _ _)) rfl rfl hS (fun g5 w hS => ?_)
  replace hS := hS.recast (show _ = blkA g5 2 [.int .i64 band] from rfl)
  refine t_q (q_assign) ?_
  refine t_nil ?_
  refine c_seq ?_
  refine c_block ?_
  refine c_seq ?_
  refine c_region ?_
  refine t_q (q_load1 Tryd.isAgg2 rfl (hS.cell (by repeat first | exact .here _ _ | assumption | apply Pick.there) rfl)) ?_
  refine t_q (q_load1 Tryd.isAgg2 rfl (hS.cell (by repeat first | exact .here _ _ | assumption | apply Pick.there) rfl)) ?_
  refine t_call Tryd.call87 (lmay2_calls (a := last) hb) rfl ?_
  rintro e w ⟨rfl, hT⟩
  refine ⟨_, rfl, ?_⟩
  replace hS := hS.after hT
  refine t_q (q_not rfl) ?_
  refine t_q (q_mv (.bool _) rfl) ?_
  refine t_case 13 rfl ?_ ?_
  · intro hg2
    have hlm := of_decide_eq_false (bnt hg2)
    refine t_no rfl rfl (by rw [(congrArg not (not_back hg2))]; decide) ?_
    refine t_no rfl rfl (by rw [(congrArg not (not_back hg2))]; decide) ?_
    refine t_q (q_pick_t rfl (congrArg not (not_back hg2))) ?_
    refine t_q (q_mv (.bool _) rfl) ?_
    refine t_no rfl rfl (by decide) ?_
    refine t_no rfl rfl (by decide) ?_
    refine t_q (q_pick_t rfl rfl) ?_
    refine t_q (q_as (.bool _) rfl) ?_
    refine t_nil ?_
    refine c_cond_t rfl rfl ?_
    refine c_seq ?_
    refine c_region ?_
    refine t_q (q_assign) ?_
    refine t_nil ?_
    refine c_ret ?_
    refine r_one rfl rfl ?_
    refine ⟨congrArg (fun n => Ending.returned (.int .i64 n)) ?_, hS.nil⟩
    first
      | exact (band_2 (by omega)).symm
      | exact (band_0 ⟨hlm, by omega⟩ (by omega)).symm
      | exact (band_42 ⟨hlm, by omega⟩ (by omega) hfar).symm
      | exact (band_ok ⟨hlm, by omega⟩ (by omega) hfar).symm
  · intro hg2
    have hlm : (0 ≤ last ∧ last ≤ 1099511627776) := of_decide_eq_true (bnf hg2)
    refine t_yes rfl rfl (congrArg not (not_back hg2)) ?_
    refine t_q (q_mv (.int _ _) rfl) ?_
    refine t_yes rfl rfl (congrArg not (not_back hg2)) ?_
    refine t_q (q_lss rfl rfl) ?_
    refine t_q (q_pick_f rfl (congrArg not (not_back hg2))) ?_
    refine t_q (q_mv (.bool _) rfl) ?_
    refine t_case 17 rfl ?_ ?_
    · intro hg4
      have hg4d := of_decide_eq_true hg4
      refine t_no rfl rfl (by rw [hg4]; decide) ?_
      refine t_no rfl rfl (by rw [hg4]; decide) ?_
      refine t_q (q_pick_t rfl hg4) ?_
      refine t_q (q_as (.bool _) rfl) ?_
      refine t_nil ?_
      refine c_cond_t rfl rfl ?_
      refine c_seq ?_
      refine c_region ?_
      refine t_q (q_assign) ?_
      refine t_nil ?_
      refine c_ret ?_
      refine r_one rfl rfl ?_
      refine ⟨congrArg (fun n => Ending.returned (.int .i64 n)) ?_, hS.nil⟩
      first
        | exact (band_2 (by omega)).symm
        | exact (band_0 ⟨hlm, by omega⟩ (by omega)).symm
        | exact (band_42 ⟨hlm, by omega⟩ (by omega) hfar).symm
        | exact (band_ok ⟨hlm, by omega⟩ (by omega) hfar).symm
    · intro hg4
      have hg4d := of_decide_eq_false hg4
      refine t_yes rfl rfl hg4 ?_
      refine t_q (q_mv (.int _ _) rfl) ?_
      refine t_yes rfl rfl hg4 ?_
      refine t_q (q_gtr rfl rfl) ?_
      refine t_q (q_pick_f rfl hg4) ?_
      refine t_q (q_as (.bool _) rfl) ?_
      refine t_nil ?_
      refine c_cond rfl ?_ ?_
      · intro hc6
        have hc6d := of_decide_eq_true hc6
        refine c_seq ?_
        refine c_region ?_
        refine t_q (q_assign) ?_
        refine t_nil ?_
        refine c_ret ?_
        refine r_one rfl rfl ?_
        refine ⟨congrArg (fun n => Ending.returned (.int .i64 n)) ?_, hS.nil⟩
        first
          | exact (band_2 (by omega)).symm
          | exact (band_0 ⟨hlm, by omega⟩ (by omega)).symm
          | exact (band_42 ⟨hlm, by omega⟩ (by omega) hfar).symm
          | exact (band_ok ⟨hlm, by omega⟩ (by omega) hfar).symm
      · intro hc6
        have hc6d := of_decide_eq_false hc6
        refine c_seq ?_
        refine c_region ?_
        refine t_q (q_load1 Tryd.isAgg2 rfl (hS.cell (by repeat first | exact .here _ _ | assumption | apply Pick.there) rfl)) ?_
        refine t_q (q_eql rfl rfl) ?_
        refine t_q (q_mv (.bool _) rfl) ?_
        refine t_case 24 rfl ?_ ?_
        · intro hg8
          have hg8d := of_decide_eq_true hg8
          refine t_no rfl rfl (by rw [hg8]; decide) ?_
          refine t_no rfl rfl (by rw [hg8]; decide) ?_
          refine t_q (q_pick_t rfl hg8) ?_
          refine t_q (q_as (.bool _) rfl) ?_
          refine t_nil ?_
          refine c_cond_t rfl rfl ?_
          refine c_seq ?_
          refine c_region ?_
          refine t_q (q_assign) ?_
          refine t_nil ?_
          refine c_ret ?_
          refine r_one rfl rfl ?_
          refine ⟨congrArg (fun n => Ending.returned (.int .i64 n)) ?_, hS.nil⟩
          first
            | exact (band_2 (by omega)).symm
            | exact (band_0 ⟨hlm, by omega⟩ (by omega)).symm
            | exact (band_42 ⟨hlm, by omega⟩ (by omega) hfar).symm
            | exact (band_ok ⟨hlm, by omega⟩ (by omega) hfar).symm
        · intro hg8
          have hg8d := of_decide_eq_false hg8
          refine t_yes rfl rfl hg8 ?_
          refine t_q (q_load1 Tryd.isAgg2 rfl (hS.cell (by repeat first | exact .here _ _ | assumption | apply Pick.there) rfl)) ?_
          refine t_yes rfl rfl hg8 ?_
          refine t_q (q_eql rfl rfl) ?_
          refine t_q (q_pick_f rfl hg8) ?_
          refine t_q (q_as (.bool _) rfl) ?_
          refine t_nil ?_
          refine c_cond rfl ?_ ?_
          · intro hc10
            have hc10d := of_decide_eq_true hc10
            refine c_seq ?_
            refine c_region ?_
            refine t_q (q_assign) ?_
            refine t_nil ?_
            refine c_ret ?_
            refine r_one rfl rfl ?_
            refine ⟨congrArg (fun n => Ending.returned (.int .i64 n)) ?_, hS.nil⟩
            first
              | exact (band_2 (by omega)).symm
              | exact (band_0 ⟨hlm, by omega⟩ (by omega)).symm
              | exact (band_42 ⟨hlm, by omega⟩ (by omega) hfar).symm
              | exact (band_ok ⟨hlm, by omega⟩ (by omega) hfar).symm
          · intro hc10
            have hc10d := of_decide_eq_false hc10
            refine c_skip ?_
            refine c_seq ?_
            refine c_region ?_
            refine t_q (q_makeFunc rfl) ?_
            refine t_q (q_as (.func _ _ _) rfl) ?_
            refine t_nil ?_
            refine c_seq ?_
            refine c_seq ?_
            refine c_region ?_
            refine t_q (q_mv (.func _ _ _) rfl) ?_
            refine t_q (q_mv (.int _ _) rfl) ?_
            refine t_q (q_load1 Tryd.isAgg2 rfl (hS.cell (by repeat first | exact .here _ _ | assumption | apply Pick.there) rfl)) ?_
            refine t_q (q_sub_i64 rfl rfl (by omega)) ?_
            refine t_q (q_load1 Tryd.isAgg2 rfl (hS.cell (by repeat first | exact .here _ _ | assumption | apply Pick.there) rfl)) ?_
            refine t_q (q_mv (.int _ _) rfl) ?_
            refine t_q (q_sub_i64 rfl rfl (by omega)) ?_
            refine t_q (q_max rfl rfl) ?_
            refine t_callv_b Tryd.call88 rfl (band1_calls (last := last) (band := band) (way := (max (p - last) (last - p))) hlm hb (by omega) ((hS.pick (A := blkA g5 2 [.int .i64 band]) (by repeat first | exact .here _ _ | assumption | apply Pick.there)).pick (A := blkA g3 2 [.int .i64 last]) (by repeat first | exact .here _ _ | assumption | apply Pick.there))) rfl ?_
            rintro e w ⟨rfl, hS⟩
            refine ⟨_, rfl, ?_⟩
            refine t_nil ?_
            refine c_cond rfl ?_ ?_
            · intro hc12
              have hfar := of_decide_eq_true hc12
              refine c_seq ?_
              refine c_region ?_
              refine t_q (q_assign) ?_
              refine t_nil ?_
              refine c_ret ?_
              refine r_one rfl rfl ?_
              refine ⟨congrArg (fun n => Ending.returned (.int .i64 n)) ?_, hS.nil⟩
              first
                | exact (band_2 (by omega)).symm
                | exact (band_0 ⟨hlm, by omega⟩ (by omega)).symm
                | exact (band_42 ⟨hlm, by omega⟩ (by omega) hfar).symm
                | exact (band_ok ⟨hlm, by omega⟩ (by omega) hfar).symm
            · intro hc12
              have hfar := of_decide_eq_false hc12
              refine c_skip ?_
              refine c_seq ?_
              refine c_region ?_
              refine t_q (q_assign) ?_
              refine t_nil ?_
              refine c_ret ?_
              refine r_one rfl rfl ?_
              refine ⟨congrArg (fun n => Ending.returned (.int .i64 n)) ?_, hS.nil⟩
              first
                | exact (band_2 (by omega)).symm
                | exact (band_0 ⟨hlm, by omega⟩ (by omega)).symm
                | exact (band_42 ⟨hlm, by omega⟩ (by omega) hfar).symm
                | exact (band_ok ⟨hlm, by omega⟩ (by omega) hfar).symm
set_option maxRecDepth 100000 in
theorem qwrong_calls {a b : Int} (hb : 0 ≤ b ∧ b ≤ 1000000) : Calls Tryd.prog 83 #[.int .i64 a, .int .i64 b] W fun e w' => e = .returned (.bool (!decide (0 ≤ a ∧ a ≤ 1099511627776))) ∧ St W w' [] := by
  have hS := St.init W
  refine calls_of_wpE (args := [_, _]) Tryd.func83 rfl rfl rfl ?_
  refine c_seq ?_
  refine c_region ?_
  refine t_q (q_assign) ?_
  refine t_nil ?_
  refine c_seq ?_
  refine c_region ?_
  refine t_q (q_mv (.int _ _) rfl) ?_
  refine t_q (q_lss rfl rfl) ?_
  refine t_q (q_mv (.bool _) rfl) ?_
  refine t_case 7 rfl ?_ ?_
  · intro hg2
    have hg2d := of_decide_eq_true hg2
    refine t_no rfl rfl (by rw [hg2]; decide) ?_
    refine t_no rfl rfl (by rw [hg2]; decide) ?_
    refine t_q (q_pick_t rfl hg2) ?_
    refine t_q (q_mv (.bool _) rfl) ?_
    refine t_no rfl rfl (by decide) ?_
    refine t_no rfl rfl (by decide) ?_
    refine t_q (q_pick_t rfl rfl) ?_
    refine t_q (q_mv (.bool _) rfl) ?_
    refine t_no rfl rfl (by decide) ?_
    refine t_no rfl rfl (by decide) ?_
    refine t_q (q_pick_t rfl rfl) ?_
    refine t_q (q_as (.bool _) rfl) ?_
    refine t_nil ?_
    refine c_ret ?_
    refine r_one rfl rfl ?_
    have hN := hS.nil
    clear hS
    refine ⟨congrArg (fun b => Ending.returned (.bool b)) ?_, hN⟩
    cases hq : decide (0 ≤ a ∧ a ≤ 1099511627776) with
      | true =>
        have hq2 := of_decide_eq_true hq
        first
          | (exfalso; omega)
          | (apply decide_eq_false; omega)
          | rfl
      | false =>
        have hq2 := of_decide_eq_false hq
        first
          | (exfalso; omega)
          | (apply decide_eq_true; omega)
          | rfl
  · intro hg2
    have hg2d := of_decide_eq_false hg2
    refine t_yes rfl rfl hg2 ?_
    refine t_q (q_mv (.int _ _) rfl) ?_
    refine t_yes rfl rfl hg2 ?_
    refine t_q (q_lss rfl rfl) ?_
    refine t_q (q_pick_f rfl hg2) ?_
    refine t_q (q_mv (.bool _) rfl) ?_
    refine t_case 11 rfl ?_ ?_
    · intro hg4
      have hg4d := of_decide_eq_true hg4
      refine t_no rfl rfl (by rw [hg4]; decide) ?_
      refine t_no rfl rfl (by rw [hg4]; decide) ?_
      refine t_q (q_pick_t rfl hg4) ?_
      refine t_q (q_mv (.bool _) rfl) ?_
      refine t_no rfl rfl (by decide) ?_
      refine t_no rfl rfl (by decide) ?_
      refine t_q (q_pick_t rfl rfl) ?_
      refine t_q (q_as (.bool _) rfl) ?_
      refine t_nil ?_
      refine c_ret ?_
      refine r_one rfl rfl ?_
      have hN := hS.nil
      clear hS
      refine ⟨congrArg (fun b => Ending.returned (.bool b)) ?_, hN⟩
      cases hq : decide (0 ≤ a ∧ a ≤ 1099511627776) with
        | true =>
          have hq2 := of_decide_eq_true hq
          first
            | (exfalso; omega)
            | (apply decide_eq_false; omega)
            | rfl
        | false =>
          have hq2 := of_decide_eq_false hq
          first
            | (exfalso; omega)
            | (apply decide_eq_true; omega)
            | rfl
    · intro hg4
      have hg4d := of_decide_eq_false hg4
      refine t_yes rfl rfl hg4 ?_
      refine t_q (q_mv (.int _ _) rfl) ?_
      refine t_yes rfl rfl hg4 ?_
      refine t_q (q_gtr rfl rfl) ?_
      refine t_q (q_pick_f rfl hg4) ?_
      refine t_q (q_mv (.bool _) rfl) ?_
      refine t_case 15 rfl ?_ ?_
      · intro hg6
        have hg6d := of_decide_eq_true hg6
        refine t_no rfl rfl (by rw [hg6]; decide) ?_
        refine t_no rfl rfl (by rw [hg6]; decide) ?_
        refine t_q (q_pick_t rfl hg6) ?_
        refine t_q (q_as (.bool _) rfl) ?_
        refine t_nil ?_
        refine c_ret ?_
        refine r_one rfl rfl ?_
        have hN := hS.nil
        clear hS
        refine ⟨congrArg (fun b => Ending.returned (.bool b)) ?_, hN⟩
        cases hq : decide (0 ≤ a ∧ a ≤ 1099511627776) with
          | true =>
            have hq2 := of_decide_eq_true hq
            first
              | (exfalso; omega)
              | (apply decide_eq_false; omega)
              | rfl
          | false =>
            have hq2 := of_decide_eq_false hq
            first
              | (exfalso; omega)
              | (apply decide_eq_true; omega)
              | rfl
      · intro hg6
        have hg6d := of_decide_eq_false hg6
        refine t_yes rfl rfl hg6 ?_
        refine t_q (q_mv (.int _ _) rfl) ?_
        refine t_yes rfl rfl hg6 ?_
        refine t_q (q_gtr rfl rfl) ?_
        refine t_q (q_pick_f rfl hg6) ?_
        refine t_q (q_as (.bool _) rfl) ?_
        refine t_nil ?_
        refine c_ret ?_
        refine r_one rfl rfl ?_
        have hN := hS.nil
        clear hS
        refine ⟨congrArg (fun b => Ending.returned (.bool b)) ?_, hN⟩
        cases hq : decide (0 ≤ a ∧ a ≤ 1099511627776) with
          | true =>
            have hq2 := of_decide_eq_true hq
            first
              | (exfalso; omega)
              | (apply decide_eq_false; omega)
              | rfl
          | false =>
            have hq2 := of_decide_eq_false hq
            first
              | (exfalso; omega)
              | (apply decide_eq_true; omega)
              | rfl
set_option maxRecDepth 100000 in
theorem qlot_calls {lot q : Int} (hl : 1 ≤ lot ∧ lot ≤ 1099511627776) (hq : -9223372036854775808 ≤ q ∧ q ≤ 9223372036854775807) : Calls Tryd.prog 56 #[.int .i64 lot, .int .i64 q] W fun e w' => e = .returned (.int .i64 (lotE lot q)) ∧ St W w' [] := by
  have hS := St.init W
  refine calls_of_wpE (args := [_, _]) Tryd.func56 rfl rfl rfl ?_
  refine c_seq ?_
  refine c_region ?_
  refine t_q (q_assign) ?_
  refine t_nil ?_
  refine c_seq ?_
  refine c_seq ?_
  refine c_region ?_
  refine t_q (q_mv (.int _ _) rfl) ?_
  refine t_q (q_lss rfl rfl) ?_
  refine t_q (q_mv (.bool _) rfl) ?_
  refine t_case 7 rfl ?_ ?_
  · intro hg2
    have hg2d := of_decide_eq_true hg2
    refine t_no rfl rfl (by rw [hg2]; decide) ?_
    refine t_no rfl rfl (by rw [hg2]; decide) ?_
    refine t_q (q_pick_t rfl hg2) ?_
    refine t_nil ?_
    refine c_cond_t rfl rfl ?_
    refine c_seq ?_
    refine c_region ?_
    refine t_q (q_assign) ?_
    refine t_nil ?_
    refine c_ret ?_
    refine r_one rfl rfl ?_
    refine ⟨congrArg (fun n => Ending.returned (.int .i64 n)) ?_, hS.nil⟩
    unfold lotE
    first
      | (exfalso; omega)
      | (rw [if_pos (by omega)])
      | (rw [if_neg (by omega)])
  · intro hg2
    have hg2d := of_decide_eq_false hg2
    refine t_yes rfl rfl hg2 ?_
    refine t_q (q_mv (.int _ _) rfl) ?_
    refine t_yes rfl rfl hg2 ?_
    refine t_q (q_gtr rfl rfl) ?_
    refine t_q (q_pick_f rfl hg2) ?_
    refine t_nil ?_
    refine c_cond rfl ?_ ?_
    · intro hc4
      have hc4d := of_decide_eq_true hc4
      refine c_seq ?_
      refine c_region ?_
      refine t_q (q_assign) ?_
      refine t_nil ?_
      refine c_ret ?_
      refine r_one rfl rfl ?_
      refine ⟨congrArg (fun n => Ending.returned (.int .i64 n)) ?_, hS.nil⟩
      unfold lotE
      first
        | (exfalso; omega)
        | (rw [if_pos (by omega)])
        | (rw [if_neg (by omega)])
    · intro hc4
      have hc4d := of_decide_eq_false hc4
      refine c_skip ?_
      refine c_seq ?_
      refine c_seq ?_
      refine c_region ?_
      refine t_q (q_mv (.int _ _) rfl) ?_
      refine t_q (q_lss rfl rfl) ?_
      refine t_q (q_mv (.bool _) rfl) ?_
      refine t_case 13 rfl ?_ ?_
      · intro hg6
        have hg6d := of_decide_eq_true hg6
        refine t_no rfl rfl (by rw [hg6]; decide) ?_
        refine t_no rfl rfl (by rw [hg6]; decide) ?_
        refine t_q (q_pick_t rfl hg6) ?_
        refine t_q (q_mv (.bool _) rfl) ?_
        refine t_no rfl rfl (by decide) ?_
        refine t_no rfl rfl (by decide) ?_
        refine t_no rfl rfl (by decide) ?_
        refine t_no rfl rfl (by decide) ?_
        refine t_q (q_pick_t rfl rfl) ?_
        refine t_nil ?_
        refine c_cond_t rfl rfl ?_
        refine c_seq ?_
        refine c_region ?_
        refine t_q (q_assign) ?_
        refine t_nil ?_
        refine c_ret ?_
        refine r_one rfl rfl ?_
        refine ⟨congrArg (fun n => Ending.returned (.int .i64 n)) ?_, hS.nil⟩
        unfold lotE
        first
          | (exfalso; omega)
          | (rw [if_pos (by omega)])
          | (rw [if_neg (by omega)])
      · intro hg6
        have hg6d := of_decide_eq_false hg6
        refine t_yes rfl rfl hg6 ?_
        refine t_q (q_mv (.int _ _) rfl) ?_
        refine t_yes rfl rfl hg6 ?_
        refine t_q (q_gtr rfl rfl) ?_
        refine t_q (q_pick_f rfl hg6) ?_
        refine t_q (q_mv (.bool _) rfl) ?_
        refine t_case 17 rfl ?_ ?_
        · intro hg8
          have hg8d := of_decide_eq_true hg8
          refine t_no rfl rfl (by rw [hg8]; decide) ?_
          refine t_no rfl rfl (by rw [hg8]; decide) ?_
          refine t_no rfl rfl (by rw [hg8]; decide) ?_
          refine t_no rfl rfl (by rw [hg8]; decide) ?_
          refine t_q (q_pick_t rfl hg8) ?_
          refine t_nil ?_
          refine c_cond_t rfl rfl ?_
          refine c_seq ?_
          refine c_region ?_
          refine t_q (q_assign) ?_
          refine t_nil ?_
          refine c_ret ?_
          refine r_one rfl rfl ?_
          refine ⟨congrArg (fun n => Ending.returned (.int .i64 n)) ?_, hS.nil⟩
          unfold lotE
          first
            | (exfalso; omega)
            | (rw [if_pos (by omega)])
            | (rw [if_neg (by omega)])
        · intro hg8
          have hg8d := of_decide_eq_false hg8
          refine t_yes rfl rfl hg8 ?_
          refine t_q (q_mv (.int _ _) rfl) ?_
          refine t_yes rfl rfl hg8 ?_
          refine t_q (q_mv (.int _ _) rfl) ?_
          refine t_yes rfl rfl hg8 ?_
          refine t_q (q_rem_n rfl rfl (by omega) (by omega)) ?_
          refine t_yes rfl rfl hg8 ?_
          refine t_q (q_neq rfl rfl) ?_
          refine t_q (q_pick_f rfl hg8) ?_
          refine t_nil ?_
          refine c_cond rfl ?_ ?_
          · intro hc10
            have hc10d := of_decide_eq_true hc10
            refine c_seq ?_
            refine c_region ?_
            refine t_q (q_assign) ?_
            refine t_nil ?_
            refine c_ret ?_
            refine r_one rfl rfl ?_
            refine ⟨congrArg (fun n => Ending.returned (.int .i64 n)) ?_, hS.nil⟩
            unfold lotE
            first
              | (exfalso; omega)
              | (rw [if_pos (by omega)])
              | (rw [if_neg (by omega)])
          · intro hc10
            have hc10d := of_decide_eq_false hc10
            refine c_skip ?_
            refine c_seq ?_
            refine c_region ?_
            refine t_q (q_assign) ?_
            refine t_nil ?_
            refine c_ret ?_
            refine r_one rfl rfl ?_
            refine ⟨congrArg (fun n => Ending.returned (.int .i64 n)) ?_, hS.nil⟩
            unfold lotE
            first
              | (exfalso; omega)
              | (rw [if_pos (by omega)])
              | (rw [if_neg (by omega)])
set_option maxHeartbeats 1000000 in
set_option maxRecDepth 100000 in
theorem qband_calls {last p band : Int} (hp : -9223372036854775808 ≤ p ∧ p ≤ 9223372036854775807) (hl : -9223372036854775808 ≤ last ∧ last ≤ 9223372036854775807) (hb : 0 ≤ band ∧ band ≤ 1000000) : Calls Tryd.prog 57 #[.int .i64 last, .int .i64 p, .int .i64 band] W fun e w' => e = .returned (.int .i64 (bandE last p band)) ∧ St W w' [] := by
  have hS := St.init W
  refine calls_of_wpE (args := [_, _, _]) Tryd.func57 rfl rfl rfl ?_
  refine c_seq ?_
  refine c_region ?_
  refine t_q (q_assign) ?_
  refine t_nil ?_
  refine c_seq ?_
  refine c_seq ?_
  refine c_region ?_
  refine t_q (q_mv (.int _ _) rfl) ?_
  refine t_q (q_mv (.int _ _) rfl) ?_
  refine t_call Tryd.call83 (qwrong_calls (a := last) hb) rfl ?_
  rintro e w ⟨rfl, hT⟩
  refine ⟨_, rfl, ?_⟩
  replace hS := hS.after hT
  refine t_q (q_mv (.bool _) rfl) ?_
  refine t_case 11 rfl ?_ ?_
  · intro hg2
    have hlm := of_decide_eq_false (bnt hg2)
    refine t_no rfl rfl (by rw [hg2]; decide) ?_
    refine t_no rfl rfl (by rw [hg2]; decide) ?_
    refine t_q (q_pick_t rfl hg2) ?_
    refine t_q (q_mv (.bool _) rfl) ?_
    refine t_no rfl rfl (by decide) ?_
    refine t_no rfl rfl (by decide) ?_
    refine t_q (q_pick_t rfl rfl) ?_
    refine t_nil ?_
    refine c_cond_t rfl rfl ?_
    refine c_seq ?_
    refine c_region ?_
    refine t_q (q_assign) ?_
    refine t_nil ?_
    refine c_ret ?_
    refine r_one rfl rfl ?_
    refine ⟨congrArg (fun n => Ending.returned (.int .i64 n)) ?_, hS.nil⟩
    first
      | exact (band_2 (by omega)).symm
      | exact (band_0 ⟨hlm, by omega⟩ (by omega)).symm
      | exact (band_42 ⟨hlm, by omega⟩ (by omega) hfar).symm
      | exact (band_ok ⟨hlm, by omega⟩ (by omega) hfar).symm
  · intro hg2
    have hlm : (0 ≤ last ∧ last ≤ 1099511627776) := of_decide_eq_true (bnf hg2)
    refine t_yes rfl rfl hg2 ?_
    refine t_q (q_mv (.int _ _) rfl) ?_
    refine t_yes rfl rfl hg2 ?_
    refine t_q (q_lss rfl rfl) ?_
    refine t_q (q_pick_f rfl hg2) ?_
    refine t_q (q_mv (.bool _) rfl) ?_
    refine t_case 15 rfl ?_ ?_
    · intro hg4
      have hg4d := of_decide_eq_true hg4
      refine t_no rfl rfl (by rw [hg4]; decide) ?_
      refine t_no rfl rfl (by rw [hg4]; decide) ?_
      refine t_q (q_pick_t rfl hg4) ?_
      refine t_nil ?_
      refine c_cond_t rfl rfl ?_
      refine c_seq ?_
      refine c_region ?_
      refine t_q (q_assign) ?_
      refine t_nil ?_
      refine c_ret ?_
      refine r_one rfl rfl ?_
      refine ⟨congrArg (fun n => Ending.returned (.int .i64 n)) ?_, hS.nil⟩
      first
        | exact (band_2 (by omega)).symm
        | exact (band_0 ⟨hlm, by omega⟩ (by omega)).symm
        | exact (band_42 ⟨hlm, by omega⟩ (by omega) hfar).symm
        | exact (band_ok ⟨hlm, by omega⟩ (by omega) hfar).symm
    · intro hg4
      have hg4d := of_decide_eq_false hg4
      refine t_yes rfl rfl hg4 ?_
      refine t_q (q_mv (.int _ _) rfl) ?_
      refine t_yes rfl rfl hg4 ?_
      refine t_q (q_gtr rfl rfl) ?_
      refine t_q (q_pick_f rfl hg4) ?_
      refine t_nil ?_
      refine c_cond rfl ?_ ?_
      · intro hc6
        have hc6d := of_decide_eq_true hc6
        refine c_seq ?_
        refine c_region ?_
        refine t_q (q_assign) ?_
        refine t_nil ?_
        refine c_ret ?_
        refine r_one rfl rfl ?_
        refine ⟨congrArg (fun n => Ending.returned (.int .i64 n)) ?_, hS.nil⟩
        first
          | exact (band_2 (by omega)).symm
          | exact (band_0 ⟨hlm, by omega⟩ (by omega)).symm
          | exact (band_42 ⟨hlm, by omega⟩ (by omega) hfar).symm
          | exact (band_ok ⟨hlm, by omega⟩ (by omega) hfar).symm
      · intro hc6
        have hc6d := of_decide_eq_false hc6
        refine c_skip ?_
        refine c_seq ?_
        refine c_seq ?_
        refine c_region ?_
        refine t_q (q_mv (.int _ _) rfl) ?_
        refine t_q (q_eql rfl rfl) ?_
        refine t_q (q_mv (.bool _) rfl) ?_
        refine t_case 21 rfl ?_ ?_
        · intro hg8
          have hg8d := of_decide_eq_true hg8
          refine t_no rfl rfl (by rw [hg8]; decide) ?_
          refine t_no rfl rfl (by rw [hg8]; decide) ?_
          refine t_q (q_pick_t rfl hg8) ?_
          refine t_nil ?_
          refine c_cond_t rfl rfl ?_
          refine c_seq ?_
          refine c_region ?_
          refine t_q (q_assign) ?_
          refine t_nil ?_
          refine c_ret ?_
          refine r_one rfl rfl ?_
          refine ⟨congrArg (fun n => Ending.returned (.int .i64 n)) ?_, hS.nil⟩
          first
            | exact (band_2 (by omega)).symm
            | exact (band_0 ⟨hlm, by omega⟩ (by omega)).symm
            | exact (band_42 ⟨hlm, by omega⟩ (by omega) hfar).symm
            | exact (band_ok ⟨hlm, by omega⟩ (by omega) hfar).symm
        · intro hg8
          have hg8d := of_decide_eq_false hg8
          refine t_yes rfl rfl hg8 ?_
          refine t_q (q_mv (.int _ _) rfl) ?_
          refine t_yes rfl rfl hg8 ?_
          refine t_q (q_eql rfl rfl) ?_
          refine t_q (q_pick_f rfl hg8) ?_
          refine t_nil ?_
          refine c_cond rfl ?_ ?_
          · intro hc10
            have hc10d := of_decide_eq_true hc10
            refine c_seq ?_
            refine c_region ?_
            refine t_q (q_assign) ?_
            refine t_nil ?_
            refine c_ret ?_
            refine r_one rfl rfl ?_
            refine ⟨congrArg (fun n => Ending.returned (.int .i64 n)) ?_, hS.nil⟩
            first
              | exact (band_2 (by omega)).symm
              | exact (band_0 ⟨hlm, by omega⟩ (by omega)).symm
              | exact (band_42 ⟨hlm, by omega⟩ (by omega) hfar).symm
              | exact (band_ok ⟨hlm, by omega⟩ (by omega) hfar).symm
          · intro hc10
            have hc10d := of_decide_eq_false hc10
            refine c_skip ?_
            refine c_seq ?_
            refine c_region ?_
            refine t_q (q_mv (.int _ _) rfl) ?_
            refine t_q (q_mv (.int _ _) rfl) ?_
            refine t_q (q_sub_i64 rfl rfl (by omega)) ?_
            refine t_q (q_as (.int _ _) rfl) ?_
            refine t_nil ?_
            refine c_seq ?_
            refine c_seq ?_
            refine c_region ?_
            refine t_q (q_mv (.int _ _) rfl) ?_
            refine t_q (q_lss rfl rfl) ?_
            refine t_nil ?_
            refine c_cond rfl ?_ ?_
            · intro hc12
              have hc12d := of_decide_eq_true hc12
              refine c_region ?_
              refine t_q (q_mv (.int _ _) rfl) ?_
              refine t_q (q_neg_i64 rfl (by omega)) ?_
              refine t_q (q_as (.int _ _) rfl) ?_
              refine t_nil ?_
              refine c_seq ?_
              refine c_seq ?_
              refine c_region ?_
              refine t_q (q_mv (.int _ _) rfl) ?_
              refine t_q (q_mv (.int _ _) rfl) ?_
              refine t_q (q_cast (v' := .int .i64 (max (p - last) (last - p))) (q_mv (.int _ _) rfl) (congrArg (Value.int .i64) (by omega))) ?_
              refine t_call Tryd.call84 (qless_calls (a := last) (b := band) (c := (max (p - last) (last - p))) (d := 1000000) ⟨hlm.1, by omega⟩ ⟨hb.1, by omega⟩ ⟨by omega, by omega⟩ ⟨by decide, by decide⟩) rfl ?_
              rintro e w ⟨rfl, hT⟩
              refine ⟨_, rfl, ?_⟩
              replace hS := hS.after hT
              refine t_nil ?_
              refine c_cond rfl ?_ ?_
              · intro hc14
                have hfar := of_decide_eq_true hc14
                refine c_seq ?_
                refine c_region ?_
                refine t_q (q_assign) ?_
                refine t_nil ?_
                refine c_ret ?_
                refine r_one rfl rfl ?_
                refine ⟨congrArg (fun n => Ending.returned (.int .i64 n)) ?_, hS.nil⟩
                first
                  | exact (band_2 (by omega)).symm
                  | exact (band_0 ⟨hlm, by omega⟩ (by omega)).symm
                  | exact (band_42 ⟨hlm, by omega⟩ (by omega) hfar).symm
                  | exact (band_ok ⟨hlm, by omega⟩ (by omega) hfar).symm
              · intro hc14
                have hfar := of_decide_eq_false hc14
                refine c_skip ?_
                refine c_seq ?_
                refine c_region ?_
                refine t_q (q_assign) ?_
                refine t_nil ?_
                refine c_ret ?_
                refine r_one rfl rfl ?_
                refine ⟨congrArg (fun n => Ending.returned (.int .i64 n)) ?_, hS.nil⟩
                first
                  | exact (band_2 (by omega)).symm
                  | exact (band_0 ⟨hlm, by omega⟩ (by omega)).symm
                  | exact (band_42 ⟨hlm, by omega⟩ (by omega) hfar).symm
                  | exact (band_ok ⟨hlm, by omega⟩ (by omega) hfar).symm
            · intro hc12
              have hc12d := of_decide_eq_false hc12
              refine c_skip ?_
              refine c_seq ?_
              refine c_seq ?_
              refine c_region ?_
              refine t_q (q_mv (.int _ _) rfl) ?_
              refine t_q (q_mv (.int _ _) rfl) ?_
              refine t_q (q_cast (v' := .int .i64 (max (p - last) (last - p))) (q_mv (.int _ _) rfl) (congrArg (Value.int .i64) (by omega))) ?_
              refine t_call Tryd.call84 (qless_calls (a := last) (b := band) (c := (max (p - last) (last - p))) (d := 1000000) ⟨hlm.1, by omega⟩ ⟨hb.1, by omega⟩ ⟨by omega, by omega⟩ ⟨by decide, by decide⟩) rfl ?_
              rintro e w ⟨rfl, hT⟩
              refine ⟨_, rfl, ?_⟩
              replace hS := hS.after hT
              refine t_nil ?_
              refine c_cond rfl ?_ ?_
              · intro hc16
                have hfar := of_decide_eq_true hc16
                refine c_seq ?_
                refine c_region ?_
                refine t_q (q_assign) ?_
                refine t_nil ?_
                refine c_ret ?_
                refine r_one rfl rfl ?_
                refine ⟨congrArg (fun n => Ending.returned (.int .i64 n)) ?_, hS.nil⟩
                first
                  | exact (band_2 (by omega)).symm
                  | exact (band_0 ⟨hlm, by omega⟩ (by omega)).symm
                  | exact (band_42 ⟨hlm, by omega⟩ (by omega) hfar).symm
                  | exact (band_ok ⟨hlm, by omega⟩ (by omega) hfar).symm
              · intro hc16
                have hfar := of_decide_eq_false hc16
                refine c_skip ?_
                refine c_seq ?_
                refine c_region ?_
                refine t_q (q_assign) ?_
                refine t_nil ?_
                refine c_ret ?_
                refine r_one rfl rfl ?_
                refine ⟨congrArg (fun n => Ending.returned (.int .i64 n)) ?_, hS.nil⟩
                first
                  | exact (band_2 (by omega)).symm
                  | exact (band_0 ⟨hlm, by omega⟩ (by omega)).symm
                  | exact (band_42 ⟨hlm, by omega⟩ (by omega) hfar).symm
                  | exact (band_ok ⟨hlm, by omega⟩ (by omega) hfar).symm
end Go.Proofs.YtcgagmojgjbfpaaDoor
