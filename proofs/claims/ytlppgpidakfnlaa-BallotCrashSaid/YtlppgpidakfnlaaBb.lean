/- Records: which is above, and reading one. -/
import Derived.Test.YtlppgpidakfnlaaBa
import Derived.Test.YtlppgpidakfnlaaCo
import Derived.Test.YtlppgpidakfnlaaSr
namespace Go.Proofs.Ytlppgpidakfnlaa
open Go Go.RowKit Go.Lib
variable {W : World}
attribute [local irreducible] blkA rowA rdrA
set_option maxRecDepth 100000 in
theorem babv_calls {r x : Rc} : Calls Try.prog 99 #[.agg #[.int .u64 ((r).1 : Int), .int .u64 ((r).2 : Int)], .agg #[.int .u64 ((x).1 : Int), .int .u64 ((x).2 : Int)]] W fun e w' => e = .returned (.bool (decide (abv r x))) ∧ St W w' [] := by
  have hS := St.init W
  refine calls_of_wpE (args := [_, _]) Try.func99 rfl rfl rfl ?_
  refine c_seq ?_
  refine c_region ?_
  refine t_box (v := (.agg _)) rfl rfl hS (fun g2 w hS => ?_)
  replace hS := hS.recast (show _ = blkA g2 105 [.int .u64 ((r).1 : Int), .int .u64 ((r).2 : Int)] from rfl)
  refine t_box (v := (.agg _)) rfl rfl hS (fun g3 w hS => ?_)
  replace hS := hS.recast (show _ = blkA g3 105 [.int .u64 ((x).1 : Int), .int .u64 ((x).2 : Int)] from rfl)
  refine t_q (q_assign) ?_
  refine t_nil ?_
  refine c_seq ?_
  refine c_region ?_
  refine t_q (q_fieldAddr 0 Try.runUnderlying105 rfl Try.sizeOf43 (by decide) rfl rfl) ?_
  refine t_q (q_load1 Try.isAgg43 rfl (hS.cell (by repeat first | exact .here _ _ | assumption | apply Pick.there) rfl)) ?_
  refine t_q (q_fieldAddr 0 Try.runUnderlying105 rfl Try.sizeOf43 (by decide) rfl rfl) ?_
  refine t_q (q_load1 Try.isAgg43 rfl (hS.cell (by repeat first | exact .here _ _ | assumption | apply Pick.there) rfl)) ?_
  refine t_q (q_gtr rfl rfl) ?_
  refine t_q (q_mv (.bool _) rfl) ?_
  refine t_case 10 rfl ?_ ?_
  · intro hg2
    have hg2d := of_decide_eq_true hg2
    refine t_no rfl rfl (by rw [hg2]; decide) ?_
    refine t_no rfl rfl (by rw [hg2]; decide) ?_
    refine t_no rfl rfl (by rw [hg2]; decide) ?_
    refine t_no rfl rfl (by rw [hg2]; decide) ?_
    refine t_no rfl rfl (by rw [hg2]; decide) ?_
    refine t_no rfl rfl (by rw [hg2]; decide) ?_
    refine t_nu rfl rfl ?_
    refine t_nu rfl rfl ?_
    refine t_nu rfl rfl ?_
    refine t_no rfl rfl (by rw [hg2]; decide) ?_
    refine t_no rfl rfl (by rw [hg2]; decide) ?_
    refine t_nu rfl rfl ?_
    refine t_nu rfl rfl ?_
    refine t_nu rfl rfl ?_
    refine t_no rfl rfl (by rw [hg2]; decide) ?_
    refine t_q (q_pick_t rfl hg2) ?_
    refine t_q (q_as (.bool _) rfl) ?_
    refine t_nil ?_
    refine c_ret ?_
    refine r_one rfl rfl ?_
    refine ⟨congrArg (fun b => Ending.returned (.bool b)) ?_, hS.nil⟩
    rw [Bool.eq_iff_iff, decide_eq_true_iff (p := abv r x)]
    show _ ↔ (x.1 < r.1 ∨ (r.1 = x.1 ∧ x.2 = 0 ∧ r.2 ≠ 0))
    first
      | (simp only [true_iff, false_iff, decide_eq_true_eq, Bool.false_eq_true, Bool.not_eq_true', decide_eq_false_iff_not]; omega)
      | (simp; omega)
  · intro hg2
    have hg2d := of_decide_eq_false hg2
    refine t_yes rfl rfl hg2 ?_
    refine t_q (q_fieldAddr 0 Try.runUnderlying105 rfl Try.sizeOf43 (by decide) rfl rfl) ?_
    refine t_yes rfl rfl hg2 ?_
    refine t_q (q_load1 Try.isAgg43 rfl (hS.cell (by repeat first | exact .here _ _ | assumption | apply Pick.there) rfl)) ?_
    refine t_yes rfl rfl hg2 ?_
    refine t_q (q_fieldAddr 0 Try.runUnderlying105 rfl Try.sizeOf43 (by decide) rfl rfl) ?_
    refine t_yes rfl rfl hg2 ?_
    refine t_q (q_load1 Try.isAgg43 rfl (hS.cell (by repeat first | exact .here _ _ | assumption | apply Pick.there) rfl)) ?_
    refine t_yes rfl rfl hg2 ?_
    refine t_q (q_eql rfl rfl) ?_
    refine t_yes rfl rfl hg2 ?_
    refine t_q (q_mv (.bool _) rfl) ?_
    refine t_case 16 rfl ?_ ?_
    · intro hg4
      have hg4d := of_decide_eq_true hg4
      refine t_yes rfl rfl hg4 ?_
      refine t_q (q_fieldAddr 1 Try.runUnderlying105 rfl Try.sizeOf43 (by decide) rfl rfl) ?_
      refine t_yes rfl rfl hg4 ?_
      refine t_q (q_load1 Try.isAgg43 rfl (hS.cell (by repeat first | exact .here _ _ | assumption | apply Pick.there) rfl)) ?_
      refine t_yes rfl rfl hg4 ?_
      refine t_q (q_eql rfl rfl) ?_
      refine t_yes rfl rfl hg2 ?_
      refine t_q (q_pick_t rfl hg4) ?_
      refine t_yes rfl rfl hg2 ?_
      refine t_q (q_mv (.bool _) rfl) ?_
      refine t_case 21 rfl ?_ ?_
      · intro hg6
        have hg6d := of_decide_eq_true hg6
        refine t_yes rfl rfl hg6 ?_
        refine t_q (q_fieldAddr 1 Try.runUnderlying105 rfl Try.sizeOf43 (by decide) rfl rfl) ?_
        refine t_yes rfl rfl hg6 ?_
        refine t_q (q_load1 Try.isAgg43 rfl (hS.cell (by repeat first | exact .here _ _ | assumption | apply Pick.there) rfl)) ?_
        refine t_yes rfl rfl hg6 ?_
        refine t_q (q_neq rfl rfl) ?_
        refine t_yes rfl rfl hg2 ?_
        refine t_q (q_pick_t rfl hg6) ?_
        refine t_q (q_pick_f rfl hg2) ?_
        refine t_q (q_as (.bool _) rfl) ?_
        refine t_nil ?_
        refine c_ret ?_
        refine r_one rfl rfl ?_
        refine ⟨congrArg (fun b => Ending.returned (.bool b)) ?_, hS.nil⟩
        rw [Bool.eq_iff_iff, decide_eq_true_iff (p := abv r x)]
        show _ ↔ (x.1 < r.1 ∨ (r.1 = x.1 ∧ x.2 = 0 ∧ r.2 ≠ 0))
        first
          | (simp only [true_iff, false_iff, decide_eq_true_eq, Bool.false_eq_true, Bool.not_eq_true', decide_eq_false_iff_not]; omega)
          | (simp; omega)
      · intro hg6
        have hg6d := of_decide_eq_false hg6
        refine t_no rfl rfl (by rw [hg6]; decide) ?_
        refine t_no rfl rfl (by rw [hg6]; decide) ?_
        refine t_no rfl rfl (by rw [hg6]; decide) ?_
        refine t_yes rfl rfl hg2 ?_
        refine t_q (q_pick_f rfl hg6) ?_
        refine t_q (q_pick_f rfl hg2) ?_
        refine t_q (q_as (.bool _) rfl) ?_
        refine t_nil ?_
        refine c_ret ?_
        refine r_one rfl rfl ?_
        refine ⟨congrArg (fun b => Ending.returned (.bool b)) ?_, hS.nil⟩
        rw [Bool.eq_iff_iff, decide_eq_true_iff (p := abv r x)]
        show _ ↔ (x.1 < r.1 ∨ (r.1 = x.1 ∧ x.2 = 0 ∧ r.2 ≠ 0))
        first
          | (simp only [true_iff, false_iff, decide_eq_true_eq, Bool.false_eq_true, Bool.not_eq_true', decide_eq_false_iff_not]; omega)
          | (simp; omega)
    · intro hg4
      have hg4d := of_decide_eq_false hg4
      refine t_no rfl rfl (by rw [hg4]; decide) ?_
      refine t_no rfl rfl (by rw [hg4]; decide) ?_
      refine t_no rfl rfl (by rw [hg4]; decide) ?_
      refine t_yes rfl rfl hg2 ?_
      refine t_q (q_pick_f rfl hg4) ?_
      refine t_yes rfl rfl hg2 ?_
      refine t_q (q_mv (.bool _) rfl) ?_
      refine t_no rfl rfl (by decide) ?_
      refine t_no rfl rfl (by decide) ?_
      refine t_no rfl rfl (by decide) ?_
      refine t_yes rfl rfl hg2 ?_
      refine t_q (q_pick_f rfl rfl) ?_
      refine t_q (q_pick_f rfl hg2) ?_
      refine t_q (q_as (.bool _) rfl) ?_
      refine t_nil ?_
      refine c_ret ?_
      refine r_one rfl rfl ?_
      refine ⟨congrArg (fun b => Ending.returned (.bool b)) ?_, hS.nil⟩
      rw [Bool.eq_iff_iff, decide_eq_true_iff (p := abv r x)]
      show _ ↔ (x.1 < r.1 ∨ (r.1 = x.1 ∧ x.2 = 0 ∧ r.2 ≠ 0))
      first
        | (simp only [true_iff, false_iff, decide_eq_true_eq, Bool.false_eq_true, Bool.not_eq_true', decide_eq_false_iff_not]; omega)
        | (simp; omega)
set_option maxRecDepth 100000 in
theorem qabv_calls {r x : Rc} : Calls Try.prog 50 #[.agg #[.int .u64 ((r).1 : Int), .int .u64 ((r).2 : Int)], .agg #[.int .u64 ((x).1 : Int), .int .u64 ((x).2 : Int)]] W fun e w' => e = .returned (.bool (decide (abv r x))) ∧ St W w' [] := by
  have hS := St.init W
  refine calls_of_wpE (args := [_, _]) Try.func50 rfl rfl rfl ?_
  refine c_seq ?_
  refine c_region ?_
  refine t_box (v := (.agg _)) rfl rfl hS (fun g2 w hS => ?_)
  replace hS := hS.recast (show _ = blkA g2 89 [.int .u64 ((r).1 : Int), .int .u64 ((r).2 : Int)] from rfl)
  refine t_box (v := (.agg _)) rfl rfl hS (fun g3 w hS => ?_)
  replace hS := hS.recast (show _ = blkA g3 89 [.int .u64 ((x).1 : Int), .int .u64 ((x).2 : Int)] from rfl)
  refine t_q (q_assign) ?_
  refine t_nil ?_
  refine c_seq ?_
  refine c_region ?_
  refine t_q (q_fieldAddr 0 Try.runUnderlying89 rfl Try.sizeOf43 (by decide) rfl rfl) ?_
  refine t_q (q_load1 Try.isAgg43 rfl (hS.cell (by repeat first | exact .here _ _ | assumption | apply Pick.there) rfl)) ?_
  refine t_q (q_fieldAddr 0 Try.runUnderlying89 rfl Try.sizeOf43 (by decide) rfl rfl) ?_
  refine t_q (q_load1 Try.isAgg43 rfl (hS.cell (by repeat first | exact .here _ _ | assumption | apply Pick.there) rfl)) ?_
  refine t_q (q_gtr rfl rfl) ?_
  refine t_q (q_mv (.bool _) rfl) ?_
  refine t_case 10 rfl ?_ ?_
  · intro hg2
    have hg2d := of_decide_eq_true hg2
    refine t_no rfl rfl (by rw [hg2]; decide) ?_
    refine t_no rfl rfl (by rw [hg2]; decide) ?_
    refine t_no rfl rfl (by rw [hg2]; decide) ?_
    refine t_no rfl rfl (by rw [hg2]; decide) ?_
    refine t_no rfl rfl (by rw [hg2]; decide) ?_
    refine t_no rfl rfl (by rw [hg2]; decide) ?_
    refine t_nu rfl rfl ?_
    refine t_nu rfl rfl ?_
    refine t_nu rfl rfl ?_
    refine t_no rfl rfl (by rw [hg2]; decide) ?_
    refine t_no rfl rfl (by rw [hg2]; decide) ?_
    refine t_nu rfl rfl ?_
    refine t_nu rfl rfl ?_
    refine t_nu rfl rfl ?_
    refine t_no rfl rfl (by rw [hg2]; decide) ?_
    refine t_q (q_pick_t rfl hg2) ?_
    refine t_q (q_as (.bool _) rfl) ?_
    refine t_nil ?_
    refine c_ret ?_
    refine r_one rfl rfl ?_
    refine ⟨congrArg (fun b => Ending.returned (.bool b)) ?_, hS.nil⟩
    rw [Bool.eq_iff_iff, decide_eq_true_iff (p := abv r x)]
    show _ ↔ (x.1 < r.1 ∨ (r.1 = x.1 ∧ x.2 = 0 ∧ r.2 ≠ 0))
    first
      | (simp only [true_iff, false_iff, decide_eq_true_eq, Bool.false_eq_true, Bool.not_eq_true', decide_eq_false_iff_not]; omega)
      | (simp; omega)
  · intro hg2
    have hg2d := of_decide_eq_false hg2
    refine t_yes rfl rfl hg2 ?_
    refine t_q (q_fieldAddr 0 Try.runUnderlying89 rfl Try.sizeOf43 (by decide) rfl rfl) ?_
    refine t_yes rfl rfl hg2 ?_
    refine t_q (q_load1 Try.isAgg43 rfl (hS.cell (by repeat first | exact .here _ _ | assumption | apply Pick.there) rfl)) ?_
    refine t_yes rfl rfl hg2 ?_
    refine t_q (q_fieldAddr 0 Try.runUnderlying89 rfl Try.sizeOf43 (by decide) rfl rfl) ?_
    refine t_yes rfl rfl hg2 ?_
    refine t_q (q_load1 Try.isAgg43 rfl (hS.cell (by repeat first | exact .here _ _ | assumption | apply Pick.there) rfl)) ?_
    refine t_yes rfl rfl hg2 ?_
    refine t_q (q_eql rfl rfl) ?_
    refine t_yes rfl rfl hg2 ?_
    refine t_q (q_mv (.bool _) rfl) ?_
    refine t_case 16 rfl ?_ ?_
    · intro hg4
      have hg4d := of_decide_eq_true hg4
      refine t_yes rfl rfl hg4 ?_
      refine t_q (q_fieldAddr 1 Try.runUnderlying89 rfl Try.sizeOf43 (by decide) rfl rfl) ?_
      refine t_yes rfl rfl hg4 ?_
      refine t_q (q_load1 Try.isAgg43 rfl (hS.cell (by repeat first | exact .here _ _ | assumption | apply Pick.there) rfl)) ?_
      refine t_yes rfl rfl hg4 ?_
      refine t_q (q_eql rfl rfl) ?_
      refine t_yes rfl rfl hg2 ?_
      refine t_q (q_pick_t rfl hg4) ?_
      refine t_yes rfl rfl hg2 ?_
      refine t_q (q_mv (.bool _) rfl) ?_
      refine t_case 21 rfl ?_ ?_
      · intro hg6
        have hg6d := of_decide_eq_true hg6
        refine t_yes rfl rfl hg6 ?_
        refine t_q (q_fieldAddr 1 Try.runUnderlying89 rfl Try.sizeOf43 (by decide) rfl rfl) ?_
        refine t_yes rfl rfl hg6 ?_
        refine t_q (q_load1 Try.isAgg43 rfl (hS.cell (by repeat first | exact .here _ _ | assumption | apply Pick.there) rfl)) ?_
        refine t_yes rfl rfl hg6 ?_
        refine t_q (q_neq rfl rfl) ?_
        refine t_yes rfl rfl hg2 ?_
        refine t_q (q_pick_t rfl hg6) ?_
        refine t_q (q_pick_f rfl hg2) ?_
        refine t_q (q_as (.bool _) rfl) ?_
        refine t_nil ?_
        refine c_ret ?_
        refine r_one rfl rfl ?_
        refine ⟨congrArg (fun b => Ending.returned (.bool b)) ?_, hS.nil⟩
        rw [Bool.eq_iff_iff, decide_eq_true_iff (p := abv r x)]
        show _ ↔ (x.1 < r.1 ∨ (r.1 = x.1 ∧ x.2 = 0 ∧ r.2 ≠ 0))
        first
          | (simp only [true_iff, false_iff, decide_eq_true_eq, Bool.false_eq_true, Bool.not_eq_true', decide_eq_false_iff_not]; omega)
          | (simp; omega)
      · intro hg6
        have hg6d := of_decide_eq_false hg6
        refine t_no rfl rfl (by rw [hg6]; decide) ?_
        refine t_no rfl rfl (by rw [hg6]; decide) ?_
        refine t_no rfl rfl (by rw [hg6]; decide) ?_
        refine t_yes rfl rfl hg2 ?_
        refine t_q (q_pick_f rfl hg6) ?_
        refine t_q (q_pick_f rfl hg2) ?_
        refine t_q (q_as (.bool _) rfl) ?_
        refine t_nil ?_
        refine c_ret ?_
        refine r_one rfl rfl ?_
        refine ⟨congrArg (fun b => Ending.returned (.bool b)) ?_, hS.nil⟩
        rw [Bool.eq_iff_iff, decide_eq_true_iff (p := abv r x)]
        show _ ↔ (x.1 < r.1 ∨ (r.1 = x.1 ∧ x.2 = 0 ∧ r.2 ≠ 0))
        first
          | (simp only [true_iff, false_iff, decide_eq_true_eq, Bool.false_eq_true, Bool.not_eq_true', decide_eq_false_iff_not]; omega)
          | (simp; omega)
    · intro hg4
      have hg4d := of_decide_eq_false hg4
      refine t_no rfl rfl (by rw [hg4]; decide) ?_
      refine t_no rfl rfl (by rw [hg4]; decide) ?_
      refine t_no rfl rfl (by rw [hg4]; decide) ?_
      refine t_yes rfl rfl hg2 ?_
      refine t_q (q_pick_f rfl hg4) ?_
      refine t_yes rfl rfl hg2 ?_
      refine t_q (q_mv (.bool _) rfl) ?_
      refine t_no rfl rfl (by decide) ?_
      refine t_no rfl rfl (by decide) ?_
      refine t_no rfl rfl (by decide) ?_
      refine t_yes rfl rfl hg2 ?_
      refine t_q (q_pick_f rfl rfl) ?_
      refine t_q (q_pick_f rfl hg2) ?_
      refine t_q (q_as (.bool _) rfl) ?_
      refine t_nil ?_
      refine c_ret ?_
      refine r_one rfl rfl ?_
      refine ⟨congrArg (fun b => Ending.returned (.bool b)) ?_, hS.nil⟩
      rw [Bool.eq_iff_iff, decide_eq_true_iff (p := abv r x)]
      show _ ↔ (x.1 < r.1 ∨ (r.1 = x.1 ∧ x.2 = 0 ∧ r.2 ≠ 0))
      first
        | (simp only [true_iff, false_iff, decide_eq_true_eq, Bool.false_eq_true, Bool.not_eq_true', decide_eq_false_iff_not]; omega)
        | (simp; omega)
set_option maxRecDepth 100000 in
theorem bread_calls {A : Option Addr} {c : Nat} {b : List UInt8} {k : UInt8} (hR : RdB W A b) (hc : b.length ≤ c ∧ b.length ≤ 9223372036854775807) : Calls Try.prog 153 #[bv k, .slice A b.length c] W fun e w' => e = .returned (.tuple #[.agg #[.int .u64 ((brc b).1 : Int), .int .u64 ((brc b).2 : Int)], .bool (isR k b)]) ∧ St W w' [] := by
  have hS := St.init W
  have hk256 := k.toNat_lt
  refine calls_of_wpE (args := [_, _]) Try.func153 rfl rfl rfl ?_
  refine c_seq ?_
  refine c_region ?_
  refine t_alloc Try.zeroValue105 rfl hS (fun g4 w hS => ?_)
  refine t_q (q_assign) ?_
  refine t_nil ?_
  refine c_seq ?_
  refine c_region ?_
  refine t_q (q_mv (.slice _ _ _) rfl) ?_
  refine t_call Try.call81 (Open_calls hS hR hc) rfl ?_
  rintro e w ⟨g9, rfl, hS⟩
  refine ⟨_, rfl, ?_⟩
  replace hS := hS.recast (show _ = rdrA W 197 g9 (br0 b) from rfl)
  refine t_q (q_as (.pointer _) rfl) ?_
  refine t_nil ?_
  refine c_seq ?_
  refine c_region ?_
  refine t_q (q_mv (.pointer _) rfl) ?_
  refine t_call Try.call82 (rNat hS (by repeat first | exact .here _ _ | assumption | apply Pick.there) (by omega) (by omega)) rfl ?_
  rintro e w ⟨rfl, hS⟩
  refine ⟨_, rfl, ?_⟩
  replace hS := hS.recast (show _ = rdrA W 197 g9 (br1 b) from rfl)
  refine t_q (q_mv (.pointer _) rfl) ?_
  refine t_call Try.call82 (rNat hS (by repeat first | exact .here _ _ | assumption | apply Pick.there) (by omega) (by omega)) rfl ?_
  rintro e w ⟨rfl, hS⟩
  refine ⟨_, rfl, ?_⟩
  replace hS := hS.recast (show _ = rdrA W 197 g9 (br2 b) from rfl)
  refine t_q (q_build (qs := [(0, 1), (1, 1)]) [(.int _ _), (.int _ _)] Try.zeroValue105 Try.runUnderlying105 ⟨rfl, Try.sizeOf43, rfl, Try.sizeOf43, trivial⟩ rfl rfl) ?_
  refine t_alloc Try.zeroValue105 rfl hS (fun g7 w hS => ?_)
  refine t_store (v := (.agg _)) Try.sizeOf105 hS (by repeat first | exact .here _ _ | assumption | apply Pick.there) rfl rfl rfl rfl rfl rfl (fun w hS => ?_)
  replace hS := hS.recast (show blkA g7 105 _ = blkA g7 105 [.int .u64 ((brc b).1 : Int), .int .u64 ((brc b).2 : Int)] from rfl)
  refine t_nil ?_
  refine c_seq ?_
  refine c_draw ?_
  refine d_keep (blkA g7 105 [.int .u64 ((brc b).1 : Int), .int .u64 ((brc b).2 : Int)]) 10 [0, 1, 2, 3, 4, 5, 6, 7, 8, 9] [0, 1, 2, 3, 4, 5, 8, 6, 7, 9] hS rfl (by kernel_rfl) (by kernel_rfl) (by kernel_rfl) (by kernel_rfl) (fun hap hsel w hS => ?_)
  refine p_q hap hsel 0 rfl rfl ⟨_, hS.pick (by repeat first | exact .here _ _ | assumption | apply Pick.there)⟩ (fun w hI => q_load_blk Try.isAgg105 Try.sizeOf105 rfl (hI.choose_spec.blk (by repeat first | exact .here _ _ | assumption | apply Pick.there)) rfl) ?_
  refine p_q hap hsel 1 rfl rfl ⟨_, hS.pick (by repeat first | exact .here _ _ | assumption | apply Pick.there)⟩ (fun w hI => q_mv (.int _ _) rfl) ?_
  refine p_q hap hsel 2 rfl rfl ⟨_, hS.pick (by repeat first | exact .here _ _ | assumption | apply Pick.there)⟩ (fun w hI => q_eql rfl rfl) ?_
  refine p_q hap hsel 3 rfl rfl ⟨_, hS.pick (by repeat first | exact .here _ _ | assumption | apply Pick.there)⟩ (fun w hI => q_mv (.bool _) rfl) ?_
  refine p_case 18 rfl ?_ ?_
  · intro hg5
    have hg5d := of_decide_eq_true hg5
    refine p_yes hap hsel 4 rfl rfl ⟨_, hS.pick (by repeat first | exact .here _ _ | assumption | apply Pick.there)⟩ rfl rfl hg5 (fun w hI => q_mv (.pointer _) rfl) ?_
    refine p_one 5 rfl (by kernel_rfl) ?_
    refine t_yes rfl rfl hg5 ?_
    refine t_call Try.call83 (rEnd hS (by repeat first | exact .here _ _ | assumption | apply Pick.there)) rfl ?_
    rintro e w ⟨rfl, hS⟩
    refine ⟨_, rfl, ?_⟩
    refine t_nil ?_
    refine ⟨.inr ⟨_, hS.pick (by repeat first | exact .here _ _ | assumption | apply Pick.there)⟩, ?_⟩
    refine p_yes hap hsel 6 rfl rfl ⟨_, hS.pick (by repeat first | exact .here _ _ | assumption | apply Pick.there)⟩ rfl rfl hg5 (fun w hI => q_eql rfl rfl) ?_
    refine p_q hap hsel 7 rfl rfl ⟨_, hS.pick (by repeat first | exact .here _ _ | assumption | apply Pick.there)⟩ (fun w hI => q_pick_t rfl hg5) ?_
    refine p_one 8 rfl (by kernel_rfl) ?_
    refine t_store (v := (.agg _)) Try.sizeOf105 hS (by repeat first | exact .here _ _ | assumption | apply Pick.there) rfl rfl rfl rfl rfl rfl (fun w hS => ?_)
    refine t_nil ?_
    refine ⟨.inr ⟨_, hS.pick (by repeat first | exact .here _ _ | assumption | apply Pick.there)⟩, ?_⟩
    refine p_q hap hsel 9 rfl rfl ⟨_, hS.pick (by repeat first | exact .here _ _ | assumption | apply Pick.there)⟩ (fun w hI => q_as (.bool _) rfl) ?_
    refine p_end (by kernel_rfl) ?_
    refine c_ret ?_
    refine r_two rfl (res1_cellN Try.isAgg105 Try.sizeOf105 rfl (hS.blk (by repeat first | exact .here _ _ | assumption | apply Pick.there)) rfl) rfl ?_
    first
      | (rw [isR_not (.inl (by omega))]; exact ⟨rfl, hS.nil⟩)
      | (rw [show isR k b = decide ((br2 b).endOk = 0) from decide_eq_decide.2 ⟨fun h => h.2, fun h => ⟨by omega, h⟩⟩]; exact ⟨rfl, hS.nil⟩)
  · intro hg5
    have hg5d := of_decide_eq_false hg5
    refine p_no hap hsel 4 rfl rfl ⟨_, hS.pick (by repeat first | exact .here _ _ | assumption | apply Pick.there)⟩ rfl rfl (by rw [hg5]; decide) ?_
    refine p_no hap hsel 5 rfl rfl ⟨_, hS.pick (by repeat first | exact .here _ _ | assumption | apply Pick.there)⟩ rfl rfl (by rw [hg5]; decide) ?_
    refine p_no hap hsel 6 rfl rfl ⟨_, hS.pick (by repeat first | exact .here _ _ | assumption | apply Pick.there)⟩ rfl rfl (by rw [hg5]; decide) ?_
    refine p_q hap hsel 7 rfl rfl ⟨_, hS.pick (by repeat first | exact .here _ _ | assumption | apply Pick.there)⟩ (fun w hI => q_pick_f rfl hg5) ?_
    refine p_one 8 rfl (by kernel_rfl) ?_
    refine t_store (v := (.agg _)) Try.sizeOf105 hS (by repeat first | exact .here _ _ | assumption | apply Pick.there) rfl rfl rfl rfl rfl rfl (fun w hS => ?_)
    refine t_nil ?_
    refine ⟨.inr ⟨_, hS.pick (by repeat first | exact .here _ _ | assumption | apply Pick.there)⟩, ?_⟩
    refine p_q hap hsel 9 rfl rfl ⟨_, hS.pick (by repeat first | exact .here _ _ | assumption | apply Pick.there)⟩ (fun w hI => q_as (.bool _) rfl) ?_
    refine p_end (by kernel_rfl) ?_
    refine c_ret ?_
    refine r_two rfl (res1_cellN Try.isAgg105 Try.sizeOf105 rfl (hS.blk (by repeat first | exact .here _ _ | assumption | apply Pick.there)) rfl) rfl ?_
    first
      | (rw [isR_not (.inl (by omega))]; exact ⟨rfl, hS.nil⟩)
      | (rw [show isR k b = decide ((br2 b).endOk = 0) from decide_eq_decide.2 ⟨fun h => h.2, fun h => ⟨by omega, h⟩⟩]; exact ⟨rfl, hS.nil⟩)
end Go.Proofs.Ytlppgpidakfnlaa
