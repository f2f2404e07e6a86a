/- The reference's reader: numbers. -/
import Derived.Test.YtmgobaojioaioaaDoorCr
namespace Go.Proofs.YtmgobaojioaioaaDoor
open Go Go.RowKit Go.Lib
variable {W : World}
set_option maxRecDepth 100000 in
theorem qNat {w : World} {L R : List Asn} {g : Nat} {s : Rs} {most : Int} (hS : St W w L) (pk : Pick L (rdrA W 58 g s) R) (h0 : 0 ≤ most) (h1 : most < 18446744073709551616) :
  Calls Tryd.prog 60 #[.pointer (some ⟨g, 0, none⟩), .int .u64 most] w fun e w' => e = .returned (.int .u64 (((s.nat most.toNat).1 : Nat) : Int)) ∧ St W w' (rdrA W 58 g (s.nat most.toNat).2 :: R) := by
  replace hS := hS.pick pk
  clear pk
  obtain ⟨A, c, hR, hc, hS⟩ := hS.rdr
  refine calls_of_wpE (args := [_, _]) Tryd.func60 rfl rfl rfl ?_
  refine c_seq ?_
  refine c_region ?_
  refine t_q (q_assign) ?_
  refine t_nil ?_
  refine c_seq ?_
  refine c_region ?_
  refine t_q (q_assign) ?_
  refine t_nil ?_
  refine c_seq ?_
  refine c_region ?_
  refine t_q (q_assign) ?_
  refine t_nil ?_
  refine c_seq ?_
  refine c_seq ?_
  refine c_region ?_
  refine t_q (q_assign) ?_
  refine t_nil ?_
  refine c_block ?_
  refine c_loop [4, 5, 6, 7, 8, 9, 10, 11, 12, 13, 14, 15, 16, 17, 18, 19, 20, 21, 22, 23, 24, 25, 26, 27, 28, 29, 30, 31, 32, 33, 34, 35, 36, 37, 38, 39, 40, 41, 42, 43, 44, 45, 46, 47, 48, 49, 50, 51, 52, 53, 54, 55, 56, 57, 58, 59, 60, 61, 62, 63, 64, 65, 66, 67, 68, 69, 70, 71, 72, 73] (fun k σ w => ∃ (j acc U : Nat), σ 7 = .int .i64 (j : Int) ∧ σ 5 = .int .u64 (acc : Int) ∧ σ 6 = .int .u64 (U : Int) ∧ j ≤ s.left.length ∧ s.left.length - j ≤ k ∧ j ≤ 10 ∧ (j ≤ 9 → acc < 128 ^ j) ∧ (j ≤ 9 → U = 128 ^ j) ∧ acc < 18446744073709551616 ∧ decFrom most.toNat j acc (s.left.drop j) = decFrom most.toNat 0 0 s.left ∧ St W w (blkA g 58 [.slice A s.left.length c, .bool s.bad] :: R)) (s.left.length) rfl (⟨0, 0, 1, rfl, rfl, rfl, by omega, by omega, by omega, fun _ => by decide, fun _ => by decide, by decide, rfl, hS⟩) ?_
  skip
  rintro k σ w ⟨j, acc, U, h7, h5, h6, hj, hk, hj10, hacc, hU, hacc2, hdec, hS⟩
  refine c_know 7 h7 ?_
  refine c_know 5 h5 ?_
  refine c_know 6 h6 ?_
  clear h7 h5 h6
  refine c_seq ?_
  refine c_seq ?_
  refine c_region ?_
  refine t_q (q_mv (.int _ _) rfl) ?_
  refine t_q (q_mv (.pointer _) rfl) ?_
  refine t_q (q_nilCheck rfl) ?_
  refine t_q (q_fieldAddr 0 Tryd.runUnderlying58 rfl Tryd.sizeOf43 (by decide) rfl rfl) ?_
  refine t_q (q_load1 Tryd.isAgg43 rfl (hS.cell (by repeat first | exact .here _ _ | assumption | apply Pick.there) rfl)) ?_
  refine t_q (q_len_slice Tryd.runUnderlying43 rfl) ?_
  refine t_q (q_lss rfl rfl) ?_
  refine t_q (q_mv (.bool _) rfl) ?_
  refine t_case 17 rfl ?_ ?_
  · intro hg2
    have hg2d := of_decide_eq_true hg2
    refine t_yes rfl rfl hg2 ?_
    refine t_q (q_mv (.int _ _) rfl) ?_
    refine t_yes rfl rfl hg2 ?_
    refine t_q (q_lss rfl rfl) ?_
    refine t_q (q_pick_t rfl hg2) ?_
    refine t_nil ?_
    refine c_cond rfl ?_ ?_
    · intro hc4
      have hc4d := of_decide_eq_true hc4
      have hj9 : j ≤ 9 := by omega
      have hb256 : (s.left.getD j 0).toNat < 256 := (s.left.getD j 0).toNat_lt
      have hG : (s.left.getD j 0).toNat % 128 < 128 := Nat.mod_lt _ (by decide)
      refine c_skip ?_
      refine c_seq ?_
      refine c_block ?_
      refine c_seq ?_
      refine c_region ?_
      refine t_q (q_mv (.pointer _) rfl) ?_
      refine t_q (q_nilCheck rfl) ?_
      refine t_q (q_fieldAddr 0 Tryd.runUnderlying58 rfl Tryd.sizeOf43 (by decide) rfl rfl) ?_
      refine t_q (q_load1 Tryd.isAgg43 rfl (hS.cell (by repeat first | exact .here _ _ | assumption | apply Pick.there) rfl)) ?_
      refine t_q (q_mv (.int _ _) rfl) ?_
      first | refine t_index_nat Tryd.runUnderlying43 Tryd.sizeOf5 (hR.st hS) rfl rfl (by omega) (fun ad5 hl5 hx5 => ?_) | refine t_index Tryd.runUnderlying43 Tryd.sizeOf5 (hR.st hS) rfl rfl (by omega) (fun ad5 hl5 hx5 => ?_)
      refine t_q (q_cast (v' := .int .u8 ((s.left.getD j 0).toNat : Int)) (q_load1 Tryd.isAgg5 rfl (hx5 0 _ rfl)) (rfl)) ?_
      refine t_q (q_as (.int _ _) rfl) ?_
      refine t_nil ?_
      refine c_seq ?_
      refine c_region ?_
      refine t_q (q_mv (.int _ _) rfl) ?_
      refine t_q (q_cast (v' := .int .u8 (((s.left.getD j 0).toNat % 128 : Nat) : Int)) (q_rem_n rfl rfl (by omega) (by omega)) (by congr 1)) ?_
      first | refine t_q (q_conv_u64 Tryd.runUnderlying5 Tryd.runUnderlying89 rfl (by omega)) ?_ | refine t_q (q_convm_u64 Tryd.runUnderlying5 Tryd.runUnderlying89 rfl) ?_
      refine t_q (q_as (.int _ _) rfl) ?_
      refine t_nil ?_
      refine c_seq ?_
      refine c_seq ?_
      refine c_region ?_
      refine t_q (q_mv (.int _ _) rfl) ?_
      refine t_q (q_eql rfl rfl) ?_
      refine t_q (q_mv (.bool _) rfl) ?_
      refine t_case 35 rfl ?_ ?_
      · intro hg7
        have hg7d := of_decide_eq_true hg7
        refine t_yes rfl rfl hg7 ?_
        refine t_q (q_mv (.int _ _) rfl) ?_
        refine t_yes rfl rfl hg7 ?_
        refine t_q (q_gtr rfl rfl) ?_
        refine t_q (q_pick_t rfl hg7) ?_
        refine t_nil ?_
        refine c_cond rfl ?_ ?_
        · intro hc9
          have hc9d := of_decide_eq_true hc9
          have hnone : decFrom most.toNat 0 0 s.left = none := by rw [← hdec]; exact dec_far (by omega) (by omega)
          refine c_seq ?_
          refine c_region ?_
          refine t_q (q_mv (.pointer _) rfl) ?_
          refine t_call Tryd.call78 (qfail (hS.unrdr rfl rfl hR hc) (.here _ _)) rfl ?_
          rintro e w ⟨rfl, hS⟩
          refine ⟨_, rfl, ?_⟩
          refine t_q (q_as (.int _ _) rfl) ?_
          refine t_nil ?_
          refine c_ret ?_
          refine r_one rfl rfl ?_
          first
            | (obtain ⟨e1, e2⟩ := fin_none hnone hS; exact ⟨congrArg (fun n => Ending.returned (.int .u64 n)) e1, e2⟩)
            | (obtain ⟨e1, e2⟩ := fin_some (k := c) hsome hR hc (by omega) rfl rfl rfl rfl hS; exact ⟨congrArg (fun n => Ending.returned (.int .u64 n)) e1, e2⟩)
        · intro hc9
          have hc9d := of_decide_eq_false hc9
          have hG9 : j = 9 → (s.left.getD j 0).toNat % 128 ≤ 1 := by omega
          refine c_skip ?_
          refine c_seq ?_
          obtain rfl : U = 128 ^ j := hU hj9
          have hgb := grp_bound hj9 hG hG9
          have haj := hacc hj9
          refine c_region ?_
          refine t_q (q_mv (.int _ _) rfl) ?_
          refine t_q (q_mv (.int _ _) rfl) ?_
          refine t_q (q_mv (.int _ _) rfl) ?_
          refine t_q (q_mul_u64 rfl rfl (by rw [← Int.natCast_mul]; omega)) ?_
          refine t_q (q_cast (v' := .int .u64 ((acc + (s.left.getD j 0).toNat % 128 * 128 ^ j : Nat) : Int)) (q_add_u64 rfl rfl (by rw [← Int.natCast_mul]; omega)) (by simp)) ?_
          refine t_q (q_as (.int _ _) rfl) ?_
          refine t_nil ?_
          refine c_seq ?_
          refine c_region ?_
          refine t_q (q_mv (.int _ _) rfl) ?_
          refine t_q (q_cast (v' := .int .u64 ((128 ^ j * 128 % 18446744073709551616 : Nat) : Int)) (q_mulm_u64 rfl rfl) (by simp)) ?_
          refine t_q (q_as (.int _ _) rfl) ?_
          refine t_nil ?_
          refine c_seq ?_
          refine c_region ?_
          refine t_q (q_mv (.int _ _) rfl) ?_
          refine t_q (q_lss rfl rfl) ?_
          refine t_nil ?_
          refine c_cond rfl ?_ ?_
          · intro hc12
            have hc12d := of_decide_eq_true hc12
            have hsm : (s.left.getD j 0).toNat < 128 := by omega
            refine c_seq ?_
            refine c_seq ?_
            refine c_region ?_
            refine t_q (q_mv (.int _ _) rfl) ?_
            refine t_q (q_gtr rfl rfl) ?_
            refine t_q (q_mv (.bool _) rfl) ?_
            refine t_case 52 rfl ?_ ?_
            · intro hg14
              have hg14d := of_decide_eq_true hg14
              refine t_yes rfl rfl hg14 ?_
              refine t_q (q_mv (.int _ _) rfl) ?_
              refine t_yes rfl rfl hg14 ?_
              refine t_q (q_eql rfl rfl) ?_
              refine t_q (q_pick_t rfl hg14) ?_
              refine t_q (q_mv (.bool _) rfl) ?_
              refine t_case 56 rfl ?_ ?_
              · intro hg16
                have hg16d := of_decide_eq_true hg16
                refine t_no rfl rfl (by rw [hg16]; decide) ?_
                refine t_no rfl rfl (by rw [hg16]; decide) ?_
                refine t_no rfl rfl (by rw [hg16]; decide) ?_
                refine t_q (q_pick_t rfl hg16) ?_
                refine t_nil ?_
                refine c_cond_t rfl rfl ?_
                have hnone : decFrom most.toNat 0 0 s.left = none := by rw [← hdec]; exact dec_bad (by omega) hj9 hG9 hsm (by omega)
                refine c_seq ?_
                refine c_region ?_
                refine t_q (q_mv (.pointer _) rfl) ?_
                refine t_call Tryd.call78 (qfail (hS.unrdr rfl rfl hR hc) (.here _ _)) rfl ?_
                rintro e w ⟨rfl, hS⟩
                refine ⟨_, rfl, ?_⟩
                refine t_q (q_as (.int _ _) rfl) ?_
                refine t_nil ?_
                refine c_ret ?_
                refine r_one rfl rfl ?_
                first
                  | (obtain ⟨e1, e2⟩ := fin_none hnone hS; exact ⟨congrArg (fun n => Ending.returned (.int .u64 n)) e1, e2⟩)
                  | (obtain ⟨e1, e2⟩ := fin_some (k := c) hsome hR hc (by omega) rfl rfl rfl rfl hS; exact ⟨congrArg (fun n => Ending.returned (.int .u64 n)) e1, e2⟩)
              · intro hg16
                have hg16d := of_decide_eq_false hg16
                refine t_yes rfl rfl hg16 ?_
                refine t_q (q_mv (.int _ _) rfl) ?_
                refine t_yes rfl rfl hg16 ?_
                refine t_q (q_mv (.int _ _) rfl) ?_
                refine t_yes rfl rfl hg16 ?_
                refine t_q (q_gtr rfl rfl) ?_
                refine t_q (q_pick_f rfl hg16) ?_
                refine t_nil ?_
                refine c_cond rfl ?_ ?_
                · intro hc19
                  have hc19d := of_decide_eq_true hc19
                  have hnone : decFrom most.toNat 0 0 s.left = none := by rw [← hdec]; exact dec_bad (by omega) hj9 hG9 hsm (by omega)
                  refine c_seq ?_
                  refine c_region ?_
                  refine t_q (q_mv (.pointer _) rfl) ?_
                  refine t_call Tryd.call78 (qfail (hS.unrdr rfl rfl hR hc) (.here _ _)) rfl ?_
                  rintro e w ⟨rfl, hS⟩
                  refine ⟨_, rfl, ?_⟩
                  refine t_q (q_as (.int _ _) rfl) ?_
                  refine t_nil ?_
                  refine c_ret ?_
                  refine r_one rfl rfl ?_
                  first
                    | (obtain ⟨e1, e2⟩ := fin_none hnone hS; exact ⟨congrArg (fun n => Ending.returned (.int .u64 n)) e1, e2⟩)
                    | (obtain ⟨e1, e2⟩ := fin_some (k := c) hsome hR hc (by omega) rfl rfl rfl rfl hS; exact ⟨congrArg (fun n => Ending.returned (.int .u64 n)) e1, e2⟩)
                · intro hc19
                  have hc19d := of_decide_eq_false hc19
                  have hsome : decFrom most.toNat 0 0 s.left = some (acc + (s.left.getD j 0).toNat % 128 * 128 ^ j, s.left.drop (j + 1)) := by rw [← hdec]; exact dec_done (by omega) hj9 hG9 hsm (by omega)
                  refine c_skip ?_
                  refine c_seq ?_
                  refine c_region ?_
                  refine t_q (q_mv (.pointer _) rfl) ?_
                  refine t_q (q_mv (.pointer _) rfl) ?_
                  refine t_q (q_nilCheck rfl) ?_
                  refine t_q (q_fieldAddr 0 Tryd.runUnderlying58 rfl Tryd.sizeOf43 (by decide) rfl rfl) ?_
                  refine t_q (q_load1 Tryd.isAgg43 rfl (hS.cell (by repeat first | exact .here _ _ | assumption | apply Pick.there) rfl)) ?_
                  refine t_q (q_mv (.int _ _) rfl) ?_
                  refine t_q (q_add_i64 rfl rfl (by omega)) ?_
                  refine t_q (q_slice Tryd.runUnderlying43 Tryd.sizeOf5 rfl rfl ⟨_, _, rfl, by omega, by omega, rfl⟩) ?_
                  refine t_q (q_nilCheck rfl) ?_
                  refine t_q (q_fieldAddr 0 Tryd.runUnderlying58 rfl Tryd.sizeOf43 (by decide) rfl rfl) ?_
                  refine t_store (v := (.slice _ _ _)) Tryd.sizeOf43 hS (by repeat first | exact .here _ _ | assumption | apply Pick.there) rfl rfl rfl rfl rfl rfl (fun w hS => ?_)
                  refine t_nil ?_
                  refine c_seq ?_
                  refine c_region ?_
                  refine t_q (q_mv (.int _ _) rfl) ?_
                  refine t_q (q_as (.int _ _) rfl) ?_
                  refine t_nil ?_
                  refine c_ret ?_
                  refine r_one rfl rfl ?_
                  first
                    | (obtain ⟨e1, e2⟩ := fin_none hnone hS; exact ⟨congrArg (fun n => Ending.returned (.int .u64 n)) e1, e2⟩)
                    | (obtain ⟨e1, e2⟩ := fin_some (k := c) hsome hR hc (by omega) rfl rfl rfl rfl hS; exact ⟨congrArg (fun n => Ending.returned (.int .u64 n)) e1, e2⟩)
            · intro hg14
              have hg14d := of_decide_eq_false hg14
              refine t_no rfl rfl (by rw [hg14]; decide) ?_
              refine t_no rfl rfl (by rw [hg14]; decide) ?_
              refine t_q (q_pick_f rfl hg14) ?_
              refine t_q (q_mv (.bool _) rfl) ?_
              refine t_yes rfl rfl rfl ?_
              refine t_q (q_mv (.int _ _) rfl) ?_
              refine t_yes rfl rfl rfl ?_
              refine t_q (q_mv (.int _ _) rfl) ?_
              refine t_yes rfl rfl rfl ?_
              refine t_q (q_gtr rfl rfl) ?_
              refine t_q (q_pick_f rfl rfl) ?_
              refine t_nil ?_
              refine c_cond rfl ?_ ?_
              · intro hc22
                have hc22d := of_decide_eq_true hc22
                have hnone : decFrom most.toNat 0 0 s.left = none := by rw [← hdec]; exact dec_bad (by omega) hj9 hG9 hsm (by omega)
                refine c_seq ?_
                refine c_region ?_
                refine t_q (q_mv (.pointer _) rfl) ?_
                refine t_call Tryd.call78 (qfail (hS.unrdr rfl rfl hR hc) (.here _ _)) rfl ?_
                rintro e w ⟨rfl, hS⟩
                refine ⟨_, rfl, ?_⟩
                refine t_q (q_as (.int _ _) rfl) ?_
                refine t_nil ?_
                refine c_ret ?_
                refine r_one rfl rfl ?_
                first
                  | (obtain ⟨e1, e2⟩ := fin_none hnone hS; exact ⟨congrArg (fun n => Ending.returned (.int .u64 n)) e1, e2⟩)
                  | (obtain ⟨e1, e2⟩ := fin_some (k := c) hsome hR hc (by omega) rfl rfl rfl rfl hS; exact ⟨congrArg (fun n => Ending.returned (.int .u64 n)) e1, e2⟩)
              · intro hc22
                have hc22d := of_decide_eq_false hc22
                have hsome : decFrom most.toNat 0 0 s.left = some (acc + (s.left.getD j 0).toNat % 128 * 128 ^ j, s.left.drop (j + 1)) := by rw [← hdec]; exact dec_done (by omega) hj9 hG9 hsm (by omega)
                refine c_skip ?_
                refine c_seq ?_
                refine c_region ?_
                refine t_q (q_mv (.pointer _) rfl) ?_
                refine t_q (q_mv (.pointer _) rfl) ?_
                refine t_q (q_nilCheck rfl) ?_
                refine t_q (q_fieldAddr 0 Tryd.runUnderlying58 rfl Tryd.sizeOf43 (by decide) rfl rfl) ?_
                refine t_q (q_load1 Tryd.isAgg43 rfl (hS.cell (by repeat first | exact .here _ _ | assumption | apply Pick.there) rfl)) ?_
                refine t_q (q_mv (.int _ _) rfl) ?_
                refine t_q (q_add_i64 rfl rfl (by omega)) ?_
                refine t_q (q_slice Tryd.runUnderlying43 Tryd.sizeOf5 rfl rfl ⟨_, _, rfl, by omega, by omega, rfl⟩) ?_
                refine t_q (q_nilCheck rfl) ?_
                refine t_q (q_fieldAddr 0 Tryd.runUnderlying58 rfl Tryd.sizeOf43 (by decide) rfl rfl) ?_
                refine t_store (v := (.slice _ _ _)) Tryd.sizeOf43 hS (by repeat first | exact .here _ _ | assumption | apply Pick.there) rfl rfl rfl rfl rfl rfl (fun w hS => ?_)
                refine t_nil ?_
                refine c_seq ?_
                refine c_region ?_
                refine t_q (q_mv (.int _ _) rfl) ?_
                refine t_q (q_as (.int _ _) rfl) ?_
                refine t_nil ?_
                refine c_ret ?_
                refine r_one rfl rfl ?_
                first
                  | (obtain ⟨e1, e2⟩ := fin_none hnone hS; exact ⟨congrArg (fun n => Ending.returned (.int .u64 n)) e1, e2⟩)
                  | (obtain ⟨e1, e2⟩ := fin_some (k := c) hsome hR hc (by omega) rfl rfl rfl rfl hS; exact ⟨congrArg (fun n => Ending.returned (.int .u64 n)) e1, e2⟩)
          · intro hc12
            have hc12d := of_decide_eq_false hc12
            refine c_skip ?_
            refine c_region ?_
            refine t_q (q_mv (.int _ _) rfl) ?_
            refine t_q (q_add_i64 rfl rfl (by omega)) ?_
            refine t_q (q_as (.int _ _) rfl) ?_
            refine t_nil ?_
            have hdm := dec_more (most := most.toNat) (acc := acc) (show j < s.left.length by omega) hj9 hG9 (by omega)
            have hn := acc_next (j := j) hG (hacc hj9)
            have hgb := grp_bound hj9 hG hG9
            have haj := hacc hj9
            refine ⟨k - 1, by omega, j + 1, _, _, rfl, rfl, rfl, by omega, by omega, by omega, fun _ => hn, fun hj1 => ?_, by omega, by rw [← hdm]; exact hdec, hS⟩
            have hle : 128 ^ (j + 1) ≤ 128 ^ 9 := Nat.pow_le_pow_right (by decide) hj1
            rw [pow_succ128] at hle ⊢
            exact Nat.mod_eq_of_lt (Nat.lt_of_le_of_lt hle (by decide))
      · intro hg7
        have hg7d := of_decide_eq_false hg7
        refine t_no rfl rfl (by rw [hg7]; decide) ?_
        refine t_no rfl rfl (by rw [hg7]; decide) ?_
        refine t_q (q_pick_f rfl hg7) ?_
        refine t_nil ?_
        refine c_cond_f rfl rfl ?_
        have hG9 : j = 9 → (s.left.getD j 0).toNat % 128 ≤ 1 := by omega
        refine c_skip ?_
        refine c_seq ?_
        obtain rfl : U = 128 ^ j := hU hj9
        have hgb := grp_bound hj9 hG hG9
        have haj := hacc hj9
        refine c_region ?_
        refine t_q (q_mv (.int _ _) rfl) ?_
        refine t_q (q_mv (.int _ _) rfl) ?_
        refine t_q (q_mv (.int _ _) rfl) ?_
        refine t_q (q_mul_u64 rfl rfl (by rw [← Int.natCast_mul]; omega)) ?_
        refine t_q (q_cast (v' := .int .u64 ((acc + (s.left.getD j 0).toNat % 128 * 128 ^ j : Nat) : Int)) (q_add_u64 rfl rfl (by rw [← Int.natCast_mul]; omega)) (by simp)) ?_
        refine t_q (q_as (.int _ _) rfl) ?_
        refine t_nil ?_
        refine c_seq ?_
        refine c_region ?_
        refine t_q (q_mv (.int _ _) rfl) ?_
        refine t_q (q_cast (v' := .int .u64 ((128 ^ j * 128 % 18446744073709551616 : Nat) : Int)) (q_mulm_u64 rfl rfl) (by simp)) ?_
        refine t_q (q_as (.int _ _) rfl) ?_
        refine t_nil ?_
        refine c_seq ?_
        refine c_region ?_
        refine t_q (q_mv (.int _ _) rfl) ?_
        refine t_q (q_lss rfl rfl) ?_
        refine t_nil ?_
        refine c_cond rfl ?_ ?_
        · intro hc25
          have hc25d := of_decide_eq_true hc25
          have hsm : (s.left.getD j 0).toNat < 128 := by omega
          refine c_seq ?_
          refine c_seq ?_
          refine c_region ?_
          refine t_q (q_mv (.int _ _) rfl) ?_
          refine t_q (q_gtr rfl rfl) ?_
          refine t_q (q_mv (.bool _) rfl) ?_
          refine t_case 52 rfl ?_ ?_
          · intro hg27
            have hg27d := of_decide_eq_true hg27
            refine t_yes rfl rfl hg27 ?_
            refine t_q (q_mv (.int _ _) rfl) ?_
            refine t_yes rfl rfl hg27 ?_
            refine t_q (q_eql rfl rfl) ?_
            refine t_q (q_pick_t rfl hg27) ?_
            refine t_q (q_mv (.bool _) rfl) ?_
            refine t_case 56 rfl ?_ ?_
            · intro hg29
              have hg29d := of_decide_eq_true hg29
              refine t_no rfl rfl (by rw [hg29]; decide) ?_
              refine t_no rfl rfl (by rw [hg29]; decide) ?_
              refine t_no rfl rfl (by rw [hg29]; decide) ?_
              refine t_q (q_pick_t rfl hg29) ?_
              refine t_nil ?_
              refine c_cond_t rfl rfl ?_
              have hnone : decFrom most.toNat 0 0 s.left = none := by rw [← hdec]; exact dec_bad (by omega) hj9 hG9 hsm (by omega)
              refine c_seq ?_
              refine c_region ?_
              refine t_q (q_mv (.pointer _) rfl) ?_
              refine t_call Tryd.call78 (qfail (hS.unrdr rfl rfl hR hc) (.here _ _)) rfl ?_
              rintro e w ⟨rfl, hS⟩
              refine ⟨_, rfl, ?_⟩
              refine t_q (q_as (.int _ _) rfl) ?_
              refine t_nil ?_
              refine c_ret ?_
              refine r_one rfl rfl ?_
              first
                | (obtain ⟨e1, e2⟩ := fin_none hnone hS; exact ⟨congrArg (fun n => Ending.returned (.int .u64 n)) e1, e2⟩)
                | (obtain ⟨e1, e2⟩ := fin_some (k := c) hsome hR hc (by omega) rfl rfl rfl rfl hS; exact ⟨congrArg (fun n => Ending.returned (.int .u64 n)) e1, e2⟩)
            · intro hg29
              have hg29d := of_decide_eq_false hg29
              refine t_yes rfl rfl hg29 ?_
              refine t_q (q_mv (.int _ _) rfl) ?_
              refine t_yes rfl rfl hg29 ?_
              refine t_q (q_mv (.int _ _) rfl) ?_
              refine t_yes rfl rfl hg29 ?_
              refine t_q (q_gtr rfl rfl) ?_
              refine t_q (q_pick_f rfl hg29) ?_
              refine t_nil ?_
              refine c_cond rfl ?_ ?_
              · intro hc32
                have hc32d := of_decide_eq_true hc32
                have hnone : decFrom most.toNat 0 0 s.left = none := by rw [← hdec]; exact dec_bad (by omega) hj9 hG9 hsm (by omega)
                refine c_seq ?_
                refine c_region ?_
                refine t_q (q_mv (.pointer _) rfl) ?_
                refine t_call Tryd.call78 (qfail (hS.unrdr rfl rfl hR hc) (.here _ _)) rfl ?_
                rintro e w ⟨rfl, hS⟩
                refine ⟨_, rfl, ?_⟩
                refine t_q (q_as (.int _ _) rfl) ?_
                refine t_nil ?_
                refine c_ret ?_
                refine r_one rfl rfl ?_
                first
                  | (obtain ⟨e1, e2⟩ := fin_none hnone hS; exact ⟨congrArg (fun n => Ending.returned (.int .u64 n)) e1, e2⟩)
                  | (obtain ⟨e1, e2⟩ := fin_some (k := c) hsome hR hc (by omega) rfl rfl rfl rfl hS; exact ⟨congrArg (fun n => Ending.returned (.int .u64 n)) e1, e2⟩)
              · intro hc32
                have hc32d := of_decide_eq_false hc32
                have hsome : decFrom most.toNat 0 0 s.left = some (acc + (s.left.getD j 0).toNat % 128 * 128 ^ j, s.left.drop (j + 1)) := by rw [← hdec]; exact dec_done (by omega) hj9 hG9 hsm (by omega)
                refine c_skip ?_
                refine c_seq ?_
                refine c_region ?_
                refine t_q (q_mv (.pointer _) rfl) ?_
                refine t_q (q_mv (.pointer _) rfl) ?_
                refine t_q (q_nilCheck rfl) ?_
                refine t_q (q_fieldAddr 0 Tryd.runUnderlying58 rfl Tryd.sizeOf43 (by decide) rfl rfl) ?_
                refine t_q (q_load1 Tryd.isAgg43 rfl (hS.cell (by repeat first | exact .here _ _ | assumption | apply Pick.there) rfl)) ?_
                refine t_q (q_mv (.int _ _) rfl) ?_
                refine t_q (q_add_i64 rfl rfl (by omega)) ?_
                refine t_q (q_slice Tryd.runUnderlying43 Tryd.sizeOf5 rfl rfl ⟨_, _, rfl, by omega, by omega, rfl⟩) ?_
                refine t_q (q_nilCheck rfl) ?_
                refine t_q (q_fieldAddr 0 Tryd.runUnderlying58 rfl Tryd.sizeOf43 (by decide) rfl rfl) ?_
                refine t_store (v := (.slice _ _ _)) Tryd.sizeOf43 hS (by repeat first | exact .here _ _ | assumption | apply Pick.there) rfl rfl rfl rfl rfl rfl (fun w hS => ?_)
                refine t_nil ?_
                refine c_seq ?_
                refine c_region ?_
                refine t_q (q_mv (.int _ _) rfl) ?_
                refine t_q (q_as (.int _ _) rfl) ?_
                refine t_nil ?_
                refine c_ret ?_
                refine r_one rfl rfl ?_
                first
                  | (obtain ⟨e1, e2⟩ := fin_none hnone hS; exact ⟨congrArg (fun n => Ending.returned (.int .u64 n)) e1, e2⟩)
                  | (obtain ⟨e1, e2⟩ := fin_some (k := c) hsome hR hc (by omega) rfl rfl rfl rfl hS; exact ⟨congrArg (fun n => Ending.returned (.int .u64 n)) e1, e2⟩)
          · intro hg27
            have hg27d := of_decide_eq_false hg27
            refine t_no rfl rfl (by rw [hg27]; decide) ?_
            refine t_no rfl rfl (by rw [hg27]; decide) ?_
            refine t_q (q_pick_f rfl hg27) ?_
            refine t_q (q_mv (.bool _) rfl) ?_
            refine t_yes rfl rfl rfl ?_
            refine t_q (q_mv (.int _ _) rfl) ?_
            refine t_yes rfl rfl rfl ?_
            refine t_q (q_mv (.int _ _) rfl) ?_
            refine t_yes rfl rfl rfl ?_
            refine t_q (q_gtr rfl rfl) ?_
            refine t_q (q_pick_f rfl rfl) ?_
            refine t_nil ?_
            refine c_cond rfl ?_ ?_
            · intro hc35
              have hc35d := of_decide_eq_true hc35
              have hnone : decFrom most.toNat 0 0 s.left = none := by rw [← hdec]; exact dec_bad (by omega) hj9 hG9 hsm (by omega)
              refine c_seq ?_
              refine c_region ?_
              refine t_q (q_mv (.pointer _) rfl) ?_
              refine t_call Tryd.call78 (qfail (hS.unrdr rfl rfl hR hc) (.here _ _)) rfl ?_
              rintro e w ⟨rfl, hS⟩
              refine ⟨_, rfl, ?_⟩
              refine t_q (q_as (.int _ _) rfl) ?_
              refine t_nil ?_
              refine c_ret ?_
              refine r_one rfl rfl ?_
              first
                | (obtain ⟨e1, e2⟩ := fin_none hnone hS; exact ⟨congrArg (fun n => Ending.returned (.int .u64 n)) e1, e2⟩)
                | (obtain ⟨e1, e2⟩ := fin_some (k := c) hsome hR hc (by omega) rfl rfl rfl rfl hS; exact ⟨congrArg (fun n => Ending.returned (.int .u64 n)) e1, e2⟩)
            · intro hc35
              have hc35d := of_decide_eq_false hc35
              have hsome : decFrom most.toNat 0 0 s.left = some (acc + (s.left.getD j 0).toNat % 128 * 128 ^ j, s.left.drop (j + 1)) := by rw [← hdec]; exact dec_done (by omega) hj9 hG9 hsm (by omega)
              refine c_skip ?_
              refine c_seq ?_
              refine c_region ?_
              refine t_q (q_mv (.pointer _) rfl) ?_
              refine t_q (q_mv (.pointer _) rfl) ?_
              refine t_q (q_nilCheck rfl) ?_
              refine t_q (q_fieldAddr 0 Tryd.runUnderlying58 rfl Tryd.sizeOf43 (by decide) rfl rfl) ?_
              refine t_q (q_load1 Tryd.isAgg43 rfl (hS.cell (by repeat first | exact .here _ _ | assumption | apply Pick.there) rfl)) ?_
              refine t_q (q_mv (.int _ _) rfl) ?_
              refine t_q (q_add_i64 rfl rfl (by omega)) ?_
              refine t_q (q_slice Tryd.runUnderlying43 Tryd.sizeOf5 rfl rfl ⟨_, _, rfl, by omega, by omega, rfl⟩) ?_
              refine t_q (q_nilCheck rfl) ?_
              refine t_q (q_fieldAddr 0 Tryd.runUnderlying58 rfl Tryd.sizeOf43 (by decide) rfl rfl) ?_
              refine t_store (v := (.slice _ _ _)) Tryd.sizeOf43 hS (by repeat first | exact .here _ _ | assumption | apply Pick.there) rfl rfl rfl rfl rfl rfl (fun w hS => ?_)
              refine t_nil ?_
              refine c_seq ?_
              refine c_region ?_
              refine t_q (q_mv (.int _ _) rfl) ?_
              refine t_q (q_as (.int _ _) rfl) ?_
              refine t_nil ?_
              refine c_ret ?_
              refine r_one rfl rfl ?_
              first
                | (obtain ⟨e1, e2⟩ := fin_none hnone hS; exact ⟨congrArg (fun n => Ending.returned (.int .u64 n)) e1, e2⟩)
                | (obtain ⟨e1, e2⟩ := fin_some (k := c) hsome hR hc (by omega) rfl rfl rfl rfl hS; exact ⟨congrArg (fun n => Ending.returned (.int .u64 n)) e1, e2⟩)
        · intro hc25
          have hc25d := of_decide_eq_false hc25
          refine c_skip ?_
          refine c_region ?_
          refine t_q (q_mv (.int _ _) rfl) ?_
          refine t_q (q_add_i64 rfl rfl (by omega)) ?_
          refine t_q (q_as (.int _ _) rfl) ?_
          refine t_nil ?_
          have hdm := dec_more (most := most.toNat) (acc := acc) (show j < s.left.length by omega) hj9 hG9 (by omega)
          have hn := acc_next (j := j) hG (hacc hj9)
          have hgb := grp_bound hj9 hG hG9
          have haj := hacc hj9
          refine ⟨k - 1, by omega, j + 1, _, _, rfl, rfl, rfl, by omega, by omega, by omega, fun _ => hn, fun hj1 => ?_, by omega, by rw [← hdm]; exact hdec, hS⟩
          have hle : 128 ^ (j + 1) ≤ 128 ^ 9 := Nat.pow_le_pow_right (by decide) hj1
          rw [pow_succ128] at hle ⊢
          exact Nat.mod_eq_of_lt (Nat.lt_of_le_of_lt hle (by decide))
    · intro hc4
      have hc4d := of_decide_eq_false hc4
      have hnone : decFrom most.toNat 0 0 s.left = none := by
        rw [← hdec]
        first | exact dec_end (by omega) | exact dec_far (by omega) (by omega)
      refine c_exit ?_
      refine ite_t rfl ?_
      refine c_seq ?_
      refine c_region ?_
      refine t_q (q_mv (.pointer _) rfl) ?_
      refine t_call Tryd.call78 (qfail (hS.unrdr rfl rfl hR hc) (.here _ _)) rfl ?_
      rintro e w ⟨rfl, hS⟩
      refine ⟨_, rfl, ?_⟩
      refine t_q (q_as (.int _ _) rfl) ?_
      refine t_nil ?_
      refine c_ret ?_
      refine r_one rfl rfl ?_
      first
        | (obtain ⟨e1, e2⟩ := fin_none hnone hS; exact ⟨congrArg (fun n => Ending.returned (.int .u64 n)) e1, e2⟩)
        | (obtain ⟨e1, e2⟩ := fin_some (k := c) hsome hR hc (by omega) rfl rfl rfl rfl hS; exact ⟨congrArg (fun n => Ending.returned (.int .u64 n)) e1, e2⟩)
  · intro hg2
    have hg2d := of_decide_eq_false hg2
    refine t_no rfl rfl (by rw [hg2]; decide) ?_
    refine t_no rfl rfl (by rw [hg2]; decide) ?_
    refine t_q (q_pick_f rfl hg2) ?_
    refine t_nil ?_
    refine c_cond_f rfl rfl ?_
    have hnone : decFrom most.toNat 0 0 s.left = none := by
      rw [← hdec]
      first | exact dec_end (by omega) | exact dec_far (by omega) (by omega)
    refine c_exit ?_
    refine ite_t rfl ?_
    refine c_seq ?_
    refine c_region ?_
    refine t_q (q_mv (.pointer _) rfl) ?_
    refine t_call Tryd.call78 (qfail (hS.unrdr rfl rfl hR hc) (.here _ _)) rfl ?_
    rintro e w ⟨rfl, hS⟩
    refine ⟨_, rfl, ?_⟩
    refine t_q (q_as (.int _ _) rfl) ?_
    refine t_nil ?_
    refine c_ret ?_
    refine r_one rfl rfl ?_
    first
      | (obtain ⟨e1, e2⟩ := fin_none hnone hS; exact ⟨congrArg (fun n => Ending.returned (.int .u64 n)) e1, e2⟩)
      | (obtain ⟨e1, e2⟩ := fin_some (k := c) hsome hR hc (by omega) rfl rfl rfl rfl hS; exact ⟨congrArg (fun n => Ending.returned (.int .u64 n)) e1, e2⟩)
end Go.Proofs.YtmgobaojioaioaaDoor
