/- Archives: opening. -/
import Derived.Test.YtlppgpidakfnlaaAh
namespace Go.Proofs.Ytlppgpidakfnlaa
open Go Go.RowKit Go.Lib
variable {W : World}
theorem size_n {w : World} {L R : List Asn} {g : Nat} {d : Dk} (hS : St W w L) (pk : Pick L (dskA g d) R) {i : Nat} (hG : DGood d) (hi : i < 32) : Calls Try.prog 40 #[.pointer (some ⟨g, 0, none⟩), .int .i64 (i : Int)] w fun e w' => e = .returned (.int .i64 ((d.F i).1.length : Int)) ∧ St W w' (dskA g d :: R) := by
  have h := size_in (i := (i : Int)) hS pk hG ⟨by omega, by omega⟩
  simp only [Int.toNat_natCast] at h
  exact h
attribute [local irreducible] blkA rowA rdrA rdO dskA
set_option maxRecDepth 100000 in
theorem open_nil {n : Int} : Calls Try.prog 33 #[.pointer none, .int .i64 n] W fun e w' => e = .returned (.tuple #[.pointer none, .int .i64 1]) ∧ St W w' [] := by
  have hS := St.init W
  refine calls_of_wpE (args := [_, _]) Try.func33 rfl rfl rfl ?_
  refine c_seq ?_
  refine c_region ?_
  refine t_q (q_assign) ?_
  refine t_q (q_assign) ?_
  refine t_nil ?_
  refine c_seq ?_
  refine c_block ?_
  refine c_seq ?_
  refine c_region ?_
  refine t_q (q_mv (.pointer _) rfl) ?_
  refine t_q (q_eql_ptr_nil Try.runUnderlying58 rfl rfl) ?_
  refine t_q (q_as (.bool _) rfl) ?_
  refine t_nil ?_
  refine c_cond_t rfl rfl ?_
  refine c_seq ?_
  refine c_region ?_
  refine t_q (q_assign) ?_
  refine t_q (q_assign) ?_
  refine t_nil ?_
  refine c_ret ?_
  refine r_two rfl rfl rfl ?_
  exact ⟨rfl, hS⟩
set_option maxRecDepth 100000 in
theorem open_gone {w : World} {L R : List Asn} {gd : Nat} {d : Dk} {n : Int} (hS : St W w L) (pk : Pick L (dskA gd d) R) (hg : d.gone = true) : Calls Try.prog 33 #[.pointer (some ⟨gd, 0, none⟩), .int .i64 n] w fun e w' => e = .returned (.tuple #[.pointer none, .int .i64 70]) ∧ St W w' (dskA gd d :: R) := by
  replace hS := hS.pick pk
  clear pk
  refine calls_of_wpE (args := [_, _]) Try.func33 rfl rfl rfl ?_
  refine c_seq ?_
  refine c_region ?_
  refine t_q (q_assign) ?_
  refine t_q (q_assign) ?_
  refine t_nil ?_
  refine c_seq ?_
  refine c_block ?_
  refine c_seq ?_
  refine c_region ?_
  refine t_q (q_mv (.pointer _) rfl) ?_
  refine t_q (q_eql_ptr_nil Try.runUnderlying58 rfl rfl) ?_
  refine t_q (q_as (.bool _) rfl) ?_
  refine t_nil ?_
  refine c_cond_f rfl rfl ?_
  refine c_seq ?_
  refine c_region ?_
  refine t_q (q_mv (.pointer _) rfl) ?_
  refine t_call Try.call44 (down_calls hS (by repeat first | exact .here _ _ | assumption | apply Pick.there)) rfl ?_
  rintro e w ⟨rfl, hS⟩
  refine ⟨_, rfl, ?_⟩
  rw [hg]
  refine t_q (q_as (.bool _) rfl) ?_
  refine t_nil ?_
  refine c_cond_t rfl rfl ?_
  refine c_seq ?_
  refine c_region ?_
  refine t_q (q_assign) ?_
  refine t_q (q_assign) ?_
  refine t_nil ?_
  refine c_ret ?_
  refine r_two rfl rfl rfl ?_
  exact ⟨rfl, hS⟩
set_option maxRecDepth 100000 in
theorem open_arg {w : World} {L R : List Asn} {gd : Nat} {d : Dk} {n : Int} (hS : St W w L) (pk : Pick L (dskA gd d) R) (hg : d.gone = false) (hn : n < 0 ∨ 30 < n) : Calls Try.prog 33 #[.pointer (some ⟨gd, 0, none⟩), .int .i64 n] w fun e w' => e = .returned (.tuple #[.pointer none, .int .i64 2]) ∧ St W w' (dskA gd d :: R) := by
  replace hS := hS.pick pk
  clear pk
  refine calls_of_wpE (args := [_, _]) Try.func33 rfl rfl rfl ?_
  refine c_seq ?_
  refine c_region ?_
  refine t_q (q_assign) ?_
  refine t_q (q_assign) ?_
  refine t_nil ?_
  refine c_seq ?_
  refine c_block ?_
  refine c_seq ?_
  refine c_region ?_
  refine t_q (q_mv (.pointer _) rfl) ?_
  refine t_q (q_eql_ptr_nil Try.runUnderlying58 rfl rfl) ?_
  refine t_q (q_as (.bool _) rfl) ?_
  refine t_nil ?_
  refine c_cond_f rfl rfl ?_
  refine c_seq ?_
  refine c_region ?_
  refine t_q (q_mv (.pointer _) rfl) ?_
  refine t_call Try.call44 (down_calls hS (by repeat first | exact .here _ _ | assumption | apply Pick.there)) rfl ?_
  rintro e w ⟨rfl, hS⟩
  refine ⟨_, rfl, ?_⟩
  rw [hg]
  refine t_q (q_as (.bool _) rfl) ?_
  refine t_nil ?_
  refine c_cond_f rfl rfl ?_
  refine c_seq ?_
  refine c_region ?_
  refine t_q (q_mv (.int _ _) rfl) ?_
  refine t_q (q_lss rfl rfl) ?_
  refine t_q (q_mv (.bool _) rfl) ?_
  refine t_case 22 rfl ?_ ?_
  · intro hg3
    have hg3d := of_decide_eq_true hg3
    refine t_no rfl rfl (by rw [hg3]; decide) ?_
    refine t_no rfl rfl (by rw [hg3]; decide) ?_
    refine t_q (q_pick_t rfl hg3) ?_
    refine t_q (q_as (.bool _) rfl) ?_
    refine t_nil ?_
    refine c_cond_t rfl rfl ?_
    refine c_seq ?_
    refine c_region ?_
    refine t_q (q_assign) ?_
    refine t_q (q_assign) ?_
    refine t_nil ?_
    refine c_ret ?_
    refine r_two rfl rfl rfl ?_
    exact ⟨rfl, hS⟩
  · intro hg3
    have hg3d := of_decide_eq_false hg3
    refine t_yes rfl rfl hg3 ?_
    refine t_q (q_mv (.int _ _) rfl) ?_
    refine t_yes rfl rfl hg3 ?_
    refine t_q (q_gtr rfl rfl) ?_
    refine t_q (q_pick_f rfl hg3) ?_
    refine t_q (q_as (.bool _) rfl) ?_
    refine t_nil ?_
    refine c_cond rfl ?_ ?_
    · intro hc5
      have hc5d := of_decide_eq_true hc5
      refine c_seq ?_
      refine c_region ?_
      refine t_q (q_assign) ?_
      refine t_q (q_assign) ?_
      refine t_nil ?_
      refine c_ret ?_
      refine r_two rfl rfl rfl ?_
      exact ⟨rfl, hS⟩
    · intro hc5
      have hc5d := of_decide_eq_false hc5
      exfalso; omega
set_option maxHeartbeats 2000000 in
set_option maxRecDepth 100000 in
theorem open_calls {w : World} {R : List Asn} {gd : Nat} {d : Dk} {n : Nat} (hS : St W w (dskA gd d :: R)) (hn : n ≤ 30) (hG : DGood d) (hg : d.gone = false) (hfu : d.fuse < 0) (hc : d.calls ≤ 999990000) :
  Calls Try.prog 33 #[.pointer (some ⟨gd, 0, none⟩), .int .i64 (n : Int)] w fun e w' => ∃ g, e = .returned (.tuple #[.pointer (some ⟨g, 0, none⟩), .int .i64 0]) ∧ St W w' (arA g gd ⟨(n : Int), (opC d n 2).1, (opC d n 2).2, false⟩ :: dskA gd (opD d n (opC d n 2).1 2) :: R) := by
  refine calls_of_wpE (args := [_, _]) Try.func33 rfl rfl rfl ?_
  refine c_seq ?_
  refine c_region ?_
  refine t_q (q_assign) ?_
  refine t_q (q_assign) ?_
  refine t_nil ?_
  refine c_seq ?_
  refine c_block ?_
  refine c_seq ?_
  refine c_region ?_
  refine t_q (q_mv (.pointer _) rfl) ?_
  refine t_q (q_eql_ptr_nil Try.runUnderlying58 rfl rfl) ?_
  refine t_q (q_as (.bool _) rfl) ?_
  refine t_nil ?_
  refine c_cond_f rfl rfl ?_
  refine c_seq ?_
  refine c_region ?_
  refine t_q (q_mv (.pointer _) rfl) ?_
  refine t_call Try.call44 (down_calls hS (by repeat first | exact .here _ _ | assumption | apply Pick.there)) rfl ?_
  rintro e w ⟨rfl, hS⟩
  refine ⟨_, rfl, ?_⟩
  rw [hg]
  refine t_q (q_as (.bool _) rfl) ?_
  refine t_nil ?_
  refine c_cond_f rfl rfl ?_
  refine c_seq ?_
  refine c_region ?_
  refine t_q (q_mv (.int _ _) rfl) ?_
  refine t_q (q_lss rfl rfl) ?_
  refine t_q (q_mv (.bool _) rfl) ?_
  refine t_case 22 rfl ?_ ?_
  · intro hg3
    have hg3d := of_decide_eq_true hg3
    refine t_no rfl rfl (by rw [hg3]; decide) ?_
    refine t_no rfl rfl (by rw [hg3]; decide) ?_
    refine t_q (q_pick_t rfl hg3) ?_
    refine t_q (q_as (.bool _) rfl) ?_
    refine t_nil ?_
    refine c_cond_t rfl rfl ?_
    exfalso; omega
  · intro hg3
    have hg3d := of_decide_eq_false hg3
    refine t_yes rfl rfl hg3 ?_
    refine t_q (q_mv (.int _ _) rfl) ?_
    refine t_yes rfl rfl hg3 ?_
    refine t_q (q_gtr rfl rfl) ?_
    refine t_q (q_pick_f rfl hg3) ?_
    refine t_q (q_as (.bool _) rfl) ?_
    refine t_nil ?_
    refine c_cond rfl ?_ ?_
    · intro hc5
      have hc5d := of_decide_eq_true hc5
      exfalso; omega
    · intro hc5
      have hc5d := of_decide_eq_false hc5
      refine c_skip ?_
      refine c_seq ?_
      refine c_region ?_
      refine t_q (q_mv (.pointer _) rfl) ?_
      refine t_q (q_mv (.int _ _) rfl) ?_
      refine t_q (q_mv (.int _ _) rfl) ?_
      refine t_q (q_add_i64 rfl rfl (by omega)) ?_
      refine t_q (q_build_arr [(0, 1), (1, 1)] [(.int _ _), (.int _ _)] Try.zeroValue73 Try.runUnderlying73 Try.sizeOf3 rfl rfl rfl) ?_
      refine t_q (q_build (qs := [(0, 1), (1, 2), (3, 1), (4, 3), (7, 1)]) [(.pointer _), (.int _ _), (.int _ _), (.int _ _), (.int _ _), (.int _ _), (.slice _ _ _), (.bool _)] Try.zeroValue75 Try.runUnderlying75 ⟨rfl, Try.sizeOf58, rfl, Try.sizeOf73, rfl, Try.sizeOf3, rfl, Try.sizeOf45, rfl, Try.sizeOf4, trivial⟩ rfl rfl) ?_
      refine t_box (v := (.agg _)) rfl rfl hS (fun g32 w hS => ?_)
      refine t_q (q_as (.pointer _) rfl) ?_
      refine t_nil ?_
      refine c_seq ?_
      refine c_seq ?_
      refine c_region ?_
      refine t_q (q_mv (.pointer _) rfl) ?_
      refine t_q (q_nilCheck rfl) ?_
      refine t_q (q_fieldAddr 1 Try.runUnderlying75 rfl Try.sizeOf73 (by decide) rfl rfl) ?_
      refine t_q (q_cast (v' := .agg #[.int .i64 (n : Int), .int .i64 ((n : Int) + 1)]) (q_load_sub Try.isAgg73 Try.sizeOf73 rfl (hS.blk (by repeat first | exact .here _ _ | assumption | apply Pick.there)) (by show 0 + 1 + 2 ≤ 8; decide)) (rfl)) ?_
      refine t_q (q_move) ?_
      refine t_nil ?_
      refine c_block ?_
      refine c_loop [7, 8, 9, 10, 37, 38, 39, 40, 41, 42, 43, 44, 45, 46, 47, 48, 49, 50, 51, 52, 53, 54, 55, 56, 57, 58, 59, 60, 61, 62, 63, 64, 65, 66, 67, 68, 69, 70, 71, 72, 73, 74] (fun k σ w => ∃ j : Nat, σ 37 = .int .i64 (j : Int) ∧ j ≤ 2 ∧ 2 - j ≤ k ∧ St W w (arA g32 gd ⟨(n : Int), (opC d n j).1, (opC d n j).2, false⟩ :: dskA gd d :: R)) (2) rfl (⟨0, rfl, by omega, by omega, St.unar ⟨(n : Int), -1, sn0, false⟩ (A := none) (c := 0) ((hS.nilrow 5 1).pick (.there (.here _ _)))⟩) ?_
      skip
      rintro k σ w ⟨j, h37, hj, hk, hS⟩
      refine c_know 37 h37 ?_
      clear h37
      obtain ⟨As, cs, hS⟩ := hS.ar
      replace hS : St W w (blkA g32 75 [.pointer (some ⟨gd, 0, none⟩), .int .i64 (n : Int), .int .i64 ((n : Int) + 1), .int .i64 (opC d n j).1, .int .u64 ((opC d n j).2.i : Int), .int .u64 ((opC d n j).2.t : Int), .slice As (opC d n j).2.b.length cs, .bool false] :: rowA 5 1 As (opC d n j).2.b.length cs (((opC d n j).2.b).map bv) :: dskA gd d :: R) := hS
      refine c_seq ?_
      refine c_region ?_
      refine t_q (q_lss rfl rfl) ?_
      refine t_nil ?_
      refine c_seq ?_
      refine c_cond rfl ?_ ?_
      · intro hc7
        have hc7d := of_decide_eq_true hc7
        refine c_skip ?_
        refine c_seq ?_
        refine c_block ?_
        refine c_seq ?_
        refine c_region ?_
        refine t_q (q_mv (.int _ _) rfl) ?_
        refine t_q (q_index_arr Try.runUnderlying73 Try.sizeOf3 Try.isAgg3 rfl rfl (by omega) (files_at rfl (by omega))) ?_
        refine t_q (q_as (.int _ _) rfl) ?_
        refine t_q (q_as (.int _ _) rfl) ?_
        refine t_nil ?_
        refine c_seq ?_
        refine c_region ?_
        refine t_q (q_mv (.pointer _) rfl) ?_
        refine t_q (q_mv (.int _ _) rfl) ?_
        refine t_call Try.call52 (read_n (i := n + j) hS (by repeat first | exact .here _ _ | assumption | apply Pick.there) hG (by omega)) rfl ?_
        rintro e w ⟨A44, c44, rfl, hS⟩
        refine ⟨_, rfl, ?_⟩
        refine t_call Try.call29 (atell_calls (hS.rowRd (A := A44) (c := c44) (bs := (d.F (n + j)).1) (by repeat first | exact .here _ _ | assumption | apply Pick.there) rfl) ⟨hS.row_le (t := 5) (size := 1) (A := A44) (c := c44) (by repeat first | exact .here _ _ | assumption | apply Pick.there), by have := hG.len (n + j); omega⟩) rfl ?_
        rintro e w ⟨A45, c45, rfl, hT⟩
        refine ⟨_, rfl, ?_⟩
        have hS : St W w (_ :: _) := hS.lift hT
        refine t_q (q_mv (.tuple _) rfl) ?_
        refine t_q (q_extract rfl rfl) ?_
        refine t_q (q_extract rfl rfl) ?_
        refine t_alloc Try.zeroValue45 rfl hS (fun g9 w hS => ?_)
        refine t_store (v := (.agg _)) Try.sizeOf45 hS (by repeat first | exact .here _ _ | assumption | apply Pick.there) rfl rfl rfl rfl rfl rfl (fun w hS => ?_)
        replace hS := hS.recast (show blkA g9 45 _ = blkA g9 45 [.int .u64 ((telS (d.F (n + j)).1).i : Int), .int .u64 ((telS (d.F (n + j)).1).t : Int), .slice A45 (telS (d.F (n + j)).1).b.length c45] from rfl)
        refine t_q (q_as (.bool _) rfl) ?_
        refine t_nil ?_
        refine c_seq ?_
        refine c_draw ?_
        refine d_quiet 18 [0, 1, 2, 3, 4, 5, 6, 7, 8, 9, 10, 11, 12, 13, 14, 15, 16, 17] [0, 1, 2, 3, 4, 5, 6, 7, 8, 9, 10, 11, 12, 13, 14, 15, 16, 17] hS rfl (by kernel_rfl) (by kernel_rfl) (by kernel_rfl) (by kernel_rfl) (fun hap hsel w hS => ?_)
        refine p_q hap hsel 0 rfl rfl hS (fun w hS => q_mv (.bool _) rfl) ?_
        refine p_q hap hsel 1 rfl rfl hS (fun w hS => q_mv (.bool _) rfl) ?_
        refine p_case 49 rfl ?_ ?_
        · intro hg12
          refine p_yes hap hsel 2 rfl rfl hS rfl rfl hg12 (fun w hS => q_mv (.pointer _) rfl) ?_
          refine p_yes hap hsel 3 rfl rfl hS rfl rfl hg12 (fun w hS => q_nilCheck rfl) ?_
          refine p_yes hap hsel 4 rfl rfl hS rfl rfl hg12 (fun w hS => q_fieldAddr 3 Try.runUnderlying75 rfl Try.sizeOf3 (by decide) rfl rfl) ?_
          refine p_yes hap hsel 5 rfl rfl hS rfl rfl hg12 (fun w hS => q_load1 Try.isAgg3 rfl (hS.cell (by repeat first | exact .here _ _ | assumption | apply Pick.there) rfl)) ?_
          refine p_yes hap hsel 6 rfl rfl hS rfl rfl hg12 (fun w hS => q_lss rfl rfl) ?_
          refine p_yes hap hsel 7 rfl rfl hS rfl rfl hg12 (fun w hS => q_mv (.bool _) rfl) ?_
          refine p_case 55 rfl ?_ ?_
          · intro hg14
            have hg14d := of_decide_eq_true hg14
            refine p_no hap hsel 8 rfl rfl hS rfl rfl (by rw [hg14]; decide) ?_
            refine p_no hap hsel 9 rfl rfl hS rfl rfl (by rw [hg14]; decide) ?_
            refine p_no hap hsel 10 rfl rfl hS rfl rfl (by rw [hg14]; decide) ?_
            refine p_no hap hsel 11 rfl rfl hS rfl rfl (by rw [hg14]; decide) ?_
            refine p_no hap hsel 12 rfl rfl hS rfl rfl (by rw [hg14]; decide) ?_
            refine p_no hap hsel 13 rfl rfl hS rfl rfl (by rw [hg14]; decide) ?_
            refine p_no hap hsel 14 rfl rfl hS rfl rfl (by rw [hg14]; decide) ?_
            refine p_no hap hsel 15 rfl rfl hS rfl rfl (by rw [hg14]; decide) ?_
            refine p_yes hap hsel 16 rfl rfl hS rfl rfl hg12 (fun w hS => q_pick_t rfl hg14) ?_
            refine p_q hap hsel 17 rfl rfl hS (fun w hS => q_pick_t rfl hg12) ?_
            refine p_end (by kernel_rfl) ?_
            refine c_cond_t rfl rfl ?_
            have hY : (tel (d.F (n + j)).1).isSome = true ∧ ((opC d n j).1 < 0 ∨ (opC d n j).2.i < (telS (d.F (n + j)).1).i) := ⟨by assumption, by first | (left; omega) | (right; omega)⟩
            have hC : (opC d n (j + 1)) = ((j : Int), telS (d.F (n + j)).1) := by rw [opC, if_pos hY]
            refine c_draw ?_
            refine d_keep (blkA g9 45 [.int .u64 ((telS (d.F (n + j)).1).i : Int), .int .u64 ((telS (d.F (n + j)).1).t : Int), .slice A45 (telS (d.F (n + j)).1).b.length c45]) 10 [0, 1, 2, 3, 4, 5, 6, 7, 8, 9] [0, 2, 4, 5, 6, 1, 3, 7, 8, 9] hS rfl (by kernel_rfl) (by kernel_rfl) (by kernel_rfl) (by kernel_rfl) (fun hap hsel w hS => ?_)
            refine p_q hap hsel 0 rfl rfl ⟨_, hS.pick (by repeat first | exact .here _ _ | assumption | apply Pick.there)⟩ (fun w hI => q_mv (.pointer _) rfl) ?_
            refine p_q hap hsel 1 rfl rfl ⟨_, hS.pick (by repeat first | exact .here _ _ | assumption | apply Pick.there)⟩ (fun w hI => q_mv (.pointer _) rfl) ?_
            refine p_q hap hsel 2 rfl rfl ⟨_, hS.pick (by repeat first | exact .here _ _ | assumption | apply Pick.there)⟩ (fun w hI => q_mv (.int _ _) rfl) ?_
            refine p_q hap hsel 3 rfl rfl ⟨_, hS.pick (by repeat first | exact .here _ _ | assumption | apply Pick.there)⟩ (fun w hI => q_load_blk Try.isAgg45 Try.sizeOf45 rfl (hI.choose_spec.blk (by repeat first | exact .here _ _ | assumption | apply Pick.there)) rfl) ?_
            refine p_q hap hsel 4 rfl rfl ⟨_, hS.pick (by repeat first | exact .here _ _ | assumption | apply Pick.there)⟩ (fun w hI => q_nilCheck rfl) ?_
            refine p_q hap hsel 5 rfl rfl ⟨_, hS.pick (by repeat first | exact .here _ _ | assumption | apply Pick.there)⟩ (fun w hI => q_fieldAddr 3 Try.runUnderlying75 rfl Try.sizeOf3 (by decide) rfl rfl) ?_
            refine p_one 6 rfl (by kernel_rfl) ?_
            refine t_store (v := (.int _ _)) Try.sizeOf3 hS (by repeat first | exact .here _ _ | assumption | apply Pick.there) rfl rfl rfl rfl rfl rfl (fun w hS => ?_)
            refine t_nil ?_
            refine ⟨.inr ⟨_, hS.pick (by repeat first | exact .here _ _ | assumption | apply Pick.there)⟩, ?_⟩
            refine p_q hap hsel 7 rfl rfl ⟨_, hS.pick (by repeat first | exact .here _ _ | assumption | apply Pick.there)⟩ (fun w hI => q_nilCheck rfl) ?_
            refine p_q hap hsel 8 rfl rfl ⟨_, hS.pick (by repeat first | exact .here _ _ | assumption | apply Pick.there)⟩ (fun w hI => q_fieldAddr 4 Try.runUnderlying75 rfl Try.sizeOf45 (by decide) rfl rfl) ?_
            refine p_one 9 rfl (by kernel_rfl) ?_
            refine t_store (v := (.agg _)) Try.sizeOf45 hS (by repeat first | exact .here _ _ | assumption | apply Pick.there) rfl rfl rfl rfl rfl rfl (fun w hS => ?_)
            replace hS := hS.recast (show blkA g32 75 _ = blkA g32 75 [.pointer (some ⟨gd, 0, none⟩), .int .i64 (n : Int), .int .i64 ((n : Int) + 1), .int .i64 (j : Int), .int .u64 ((telS (d.F (n + j)).1).i : Int), .int .u64 ((telS (d.F (n + j)).1).t : Int), .slice A45 (telS (d.F (n + j)).1).b.length c45, .bool false] from rfl)
            refine t_nil ?_
            refine ⟨.inl (by kernel_rfl), ?_⟩
            refine p_end (by kernel_rfl) ?_
            refine c_region ?_
            refine t_q (q_add_i64 rfl rfl (by omega)) ?_
            refine t_q (q_mv (.int _ _) rfl) ?_
            refine t_nil ?_
            first
              | (refine ⟨k - 1, by omega, j + 1, rfl, by omega, by omega, ?_⟩
                 rw [hC]
                 first
                   | exact St.unar ⟨(n : Int), (j : Int), telS (d.F (n + j)).1, false⟩ ((((((((hS.pick (A := rowA 5 1 As (opC d n j).2.b.length cs (((opC d n j).2.b).map bv)) (by repeat first | exact .here _ _ | assumption | apply Pick.there)).pick (A := rowA 5 1 A44 (d.F (n + j)).1.length c44 (((d.F (n + j)).1).map bv)) (by repeat first | exact .here _ _ | assumption | apply Pick.there)).pick (A := blkA g9 45 [.int .u64 ((telS (d.F (n + j)).1).i : Int), .int .u64 ((telS (d.F (n + j)).1).t : Int), .slice A45 (telS (d.F (n + j)).1).b.length c45]) (by repeat first | exact .here _ _ | assumption | apply Pick.there)).drop.drop.drop).pick (A := dskA gd d) (by repeat first | exact .here _ _ | assumption | apply Pick.there)).pick (A := rowA 5 1 A45 (telS (d.F (n + j)).1).b.length c45 (((telS (d.F (n + j)).1).b).map bv)) (by repeat first | exact .here _ _ | assumption | apply Pick.there)).pick (A := blkA g32 75 _) (by repeat first | exact .here _ _ | assumption | apply Pick.there)))
                   | exact St.unar ⟨(n : Int), (opC d n j).1, (opC d n j).2, false⟩ ((((((((hS.pick (A := rowA 5 1 A45 (telS (d.F (n + j)).1).b.length c45 (((telS (d.F (n + j)).1).b).map bv)) (by repeat first | exact .here _ _ | assumption | apply Pick.there)).pick (A := rowA 5 1 A44 (d.F (n + j)).1.length c44 (((d.F (n + j)).1).map bv)) (by repeat first | exact .here _ _ | assumption | apply Pick.there)).pick (A := blkA g9 45 [.int .u64 ((telS (d.F (n + j)).1).i : Int), .int .u64 ((telS (d.F (n + j)).1).t : Int), .slice A45 (telS (d.F (n + j)).1).b.length c45]) (by repeat first | exact .here _ _ | assumption | apply Pick.there)).drop.drop.drop).pick (A := dskA gd d) (by repeat first | exact .here _ _ | assumption | apply Pick.there)).pick (A := rowA 5 1 As (opC d n j).2.b.length cs (((opC d n j).2.b).map bv)) (by repeat first | exact .here _ _ | assumption | apply Pick.there)).pick (A := blkA g32 75 _) (by repeat first | exact .here _ _ | assumption | apply Pick.there))))
          · intro hg14
            have hg14d := of_decide_eq_false hg14
            refine p_yes hap hsel 8 rfl rfl hS rfl rfl hg14 (fun w hS => q_fieldAddr 0 Try.runUnderlying45 rfl Try.sizeOf43 (by decide) rfl rfl) ?_
            refine p_yes hap hsel 9 rfl rfl hS rfl rfl hg14 (fun w hS => q_load1 Try.isAgg43 rfl (hS.cell (by repeat first | exact .here _ _ | assumption | apply Pick.there) rfl)) ?_
            refine p_yes hap hsel 10 rfl rfl hS rfl rfl hg14 (fun w hS => q_mv (.pointer _) rfl) ?_
            refine p_yes hap hsel 11 rfl rfl hS rfl rfl hg14 (fun w hS => q_nilCheck rfl) ?_
            refine p_yes hap hsel 12 rfl rfl hS rfl rfl hg14 (fun w hS => q_fieldAddr 4 Try.runUnderlying75 rfl Try.sizeOf45 (by decide) rfl rfl) ?_
            refine p_yes hap hsel 13 rfl rfl hS rfl rfl hg14 (fun w hS => q_fieldAddr 0 Try.runUnderlying45 rfl Try.sizeOf43 (by decide) rfl rfl) ?_
            refine p_yes hap hsel 14 rfl rfl hS rfl rfl hg14 (fun w hS => q_load1 Try.isAgg43 rfl (hS.cell (by repeat first | exact .here _ _ | assumption | apply Pick.there) rfl)) ?_
            refine p_yes hap hsel 15 rfl rfl hS rfl rfl hg14 (fun w hS => q_gtr rfl rfl) ?_
            refine p_yes hap hsel 16 rfl rfl hS rfl rfl hg12 (fun w hS => q_pick_f rfl hg14) ?_
            refine p_q hap hsel 17 rfl rfl hS (fun w hS => q_pick_t rfl hg12) ?_
            refine p_end (by kernel_rfl) ?_
            refine c_cond rfl ?_ ?_
            · intro hc16
              have hc16d := of_decide_eq_true hc16
              have hY : (tel (d.F (n + j)).1).isSome = true ∧ ((opC d n j).1 < 0 ∨ (opC d n j).2.i < (telS (d.F (n + j)).1).i) := ⟨by assumption, by first | (left; omega) | (right; omega)⟩
              have hC : (opC d n (j + 1)) = ((j : Int), telS (d.F (n + j)).1) := by rw [opC, if_pos hY]
              refine c_draw ?_
              refine d_keep (blkA g9 45 [.int .u64 ((telS (d.F (n + j)).1).i : Int), .int .u64 ((telS (d.F (n + j)).1).t : Int), .slice A45 (telS (d.F (n + j)).1).b.length c45]) 10 [0, 1, 2, 3, 4, 5, 6, 7, 8, 9] [0, 2, 4, 5, 6, 1, 3, 7, 8, 9] hS rfl (by kernel_rfl) (by kernel_rfl) (by kernel_rfl) (by kernel_rfl) (fun hap hsel w hS => ?_)
              refine p_q hap hsel 0 rfl rfl ⟨_, hS.pick (by repeat first | exact .here _ _ | assumption | apply Pick.there)⟩ (fun w hI => q_mv (.pointer _) rfl) ?_
              refine p_q hap hsel 1 rfl rfl ⟨_, hS.pick (by repeat first | exact .here _ _ | assumption | apply Pick.there)⟩ (fun w hI => q_mv (.pointer _) rfl) ?_
              refine p_q hap hsel 2 rfl rfl ⟨_, hS.pick (by repeat first | exact .here _ _ | assumption | apply Pick.there)⟩ (fun w hI => q_mv (.int _ _) rfl) ?_
              refine p_q hap hsel 3 rfl rfl ⟨_, hS.pick (by repeat first | exact .here _ _ | assumption | apply Pick.there)⟩ (fun w hI => q_load_blk Try.isAgg45 Try.sizeOf45 rfl (hI.choose_spec.blk (by repeat first | exact .here _ _ | assumption | apply Pick.there)) rfl) ?_
              refine p_q hap hsel 4 rfl rfl ⟨_, hS.pick (by repeat first | exact .here _ _ | assumption | apply Pick.there)⟩ (fun w hI => q_nilCheck rfl) ?_
              refine p_q hap hsel 5 rfl rfl ⟨_, hS.pick (by repeat first | exact .here _ _ | assumption | apply Pick.there)⟩ (fun w hI => q_fieldAddr 3 Try.runUnderlying75 rfl Try.sizeOf3 (by decide) rfl rfl) ?_
              refine p_one 6 rfl (by kernel_rfl) ?_
              refine t_store (v := (.int _ _)) Try.sizeOf3 hS (by repeat first | exact .here _ _ | assumption | apply Pick.there) rfl rfl rfl rfl rfl rfl (fun w hS => ?_)
              refine t_nil ?_
              refine ⟨.inr ⟨_, hS.pick (by repeat first | exact .here _ _ | assumption | apply Pick.there)⟩, ?_⟩
              refine p_q hap hsel 7 rfl rfl ⟨_, hS.pick (by repeat first | exact .here _ _ | assumption | apply Pick.there)⟩ (fun w hI => q_nilCheck rfl) ?_
              refine p_q hap hsel 8 rfl rfl ⟨_, hS.pick (by repeat first | exact .here _ _ | assumption | apply Pick.there)⟩ (fun w hI => q_fieldAddr 4 Try.runUnderlying75 rfl Try.sizeOf45 (by decide) rfl rfl) ?_
              refine p_one 9 rfl (by kernel_rfl) ?_
              refine t_store (v := (.agg _)) Try.sizeOf45 hS (by repeat first | exact .here _ _ | assumption | apply Pick.there) rfl rfl rfl rfl rfl rfl (fun w hS => ?_)
              replace hS := hS.recast (show blkA g32 75 _ = blkA g32 75 [.pointer (some ⟨gd, 0, none⟩), .int .i64 (n : Int), .int .i64 ((n : Int) + 1), .int .i64 (j : Int), .int .u64 ((telS (d.F (n + j)).1).i : Int), .int .u64 ((telS (d.F (n + j)).1).t : Int), .slice A45 (telS (d.F (n + j)).1).b.length c45, .bool false] from rfl)
              refine t_nil ?_
              refine ⟨.inl (by kernel_rfl), ?_⟩
              refine p_end (by kernel_rfl) ?_
              refine c_region ?_
              refine t_q (q_add_i64 rfl rfl (by omega)) ?_
              refine t_q (q_mv (.int _ _) rfl) ?_
              refine t_nil ?_
              first
                | (refine ⟨k - 1, by omega, j + 1, rfl, by omega, by omega, ?_⟩
                   rw [hC]
                   first
                     | exact St.unar ⟨(n : Int), (j : Int), telS (d.F (n + j)).1, false⟩ ((((((((hS.pick (A := rowA 5 1 As (opC d n j).2.b.length cs (((opC d n j).2.b).map bv)) (by repeat first | exact .here _ _ | assumption | apply Pick.there)).pick (A := rowA 5 1 A44 (d.F (n + j)).1.length c44 (((d.F (n + j)).1).map bv)) (by repeat first | exact .here _ _ | assumption | apply Pick.there)).pick (A := blkA g9 45 [.int .u64 ((telS (d.F (n + j)).1).i : Int), .int .u64 ((telS (d.F (n + j)).1).t : Int), .slice A45 (telS (d.F (n + j)).1).b.length c45]) (by repeat first | exact .here _ _ | assumption | apply Pick.there)).drop.drop.drop).pick (A := dskA gd d) (by repeat first | exact .here _ _ | assumption | apply Pick.there)).pick (A := rowA 5 1 A45 (telS (d.F (n + j)).1).b.length c45 (((telS (d.F (n + j)).1).b).map bv)) (by repeat first | exact .here _ _ | assumption | apply Pick.there)).pick (A := blkA g32 75 _) (by repeat first | exact .here _ _ | assumption | apply Pick.there)))
                     | exact St.unar ⟨(n : Int), (opC d n j).1, (opC d n j).2, false⟩ ((((((((hS.pick (A := rowA 5 1 A45 (telS (d.F (n + j)).1).b.length c45 (((telS (d.F (n + j)).1).b).map bv)) (by repeat first | exact .here _ _ | assumption | apply Pick.there)).pick (A := rowA 5 1 A44 (d.F (n + j)).1.length c44 (((d.F (n + j)).1).map bv)) (by repeat first | exact .here _ _ | assumption | apply Pick.there)).pick (A := blkA g9 45 [.int .u64 ((telS (d.F (n + j)).1).i : Int), .int .u64 ((telS (d.F (n + j)).1).t : Int), .slice A45 (telS (d.F (n + j)).1).b.length c45]) (by repeat first | exact .here _ _ | assumption | apply Pick.there)).drop.drop.drop).pick (A := dskA gd d) (by repeat first | exact .here _ _ | assumption | apply Pick.there)).pick (A := rowA 5 1 As (opC d n j).2.b.length cs (((opC d n j).2.b).map bv)) (by repeat first | exact .here _ _ | assumption | apply Pick.there)).pick (A := blkA g32 75 _) (by repeat first | exact .here _ _ | assumption | apply Pick.there))))
            · intro hc16
              have hc16d := of_decide_eq_false hc16
              have hC : (opC d n (j + 1)) = (opC d n j) := by
                rw [opC, if_neg]
                intro hh
                first
                  | (have h1 := hh.2; omega)
                  | (have h1 := hh.1; have h2 : (tel (d.F (n + j)).1).isSome = false := by assumption
                     rw [h2] at h1; cases h1)
              refine c_skip ?_
              refine c_region ?_
              refine t_q (q_add_i64 rfl rfl (by omega)) ?_
              refine t_q (q_mv (.int _ _) rfl) ?_
              refine t_nil ?_
              first
                | (refine ⟨k - 1, by omega, j + 1, rfl, by omega, by omega, ?_⟩
                   rw [hC]
                   first
                     | exact St.unar ⟨(n : Int), (j : Int), telS (d.F (n + j)).1, false⟩ ((((((((hS.pick (A := rowA 5 1 As (opC d n j).2.b.length cs (((opC d n j).2.b).map bv)) (by repeat first | exact .here _ _ | assumption | apply Pick.there)).pick (A := rowA 5 1 A44 (d.F (n + j)).1.length c44 (((d.F (n + j)).1).map bv)) (by repeat first | exact .here _ _ | assumption | apply Pick.there)).pick (A := blkA g9 45 [.int .u64 ((telS (d.F (n + j)).1).i : Int), .int .u64 ((telS (d.F (n + j)).1).t : Int), .slice A45 (telS (d.F (n + j)).1).b.length c45]) (by repeat first | exact .here _ _ | assumption | apply Pick.there)).drop.drop.drop).pick (A := dskA gd d) (by repeat first | exact .here _ _ | assumption | apply Pick.there)).pick (A := rowA 5 1 A45 (telS (d.F (n + j)).1).b.length c45 (((telS (d.F (n + j)).1).b).map bv)) (by repeat first | exact .here _ _ | assumption | apply Pick.there)).pick (A := blkA g32 75 _) (by repeat first | exact .here _ _ | assumption | apply Pick.there)))
                     | exact St.unar ⟨(n : Int), (opC d n j).1, (opC d n j).2, false⟩ ((((((((hS.pick (A := rowA 5 1 A45 (telS (d.F (n + j)).1).b.length c45 (((telS (d.F (n + j)).1).b).map bv)) (by repeat first | exact .here _ _ | assumption | apply Pick.there)).pick (A := rowA 5 1 A44 (d.F (n + j)).1.length c44 (((d.F (n + j)).1).map bv)) (by repeat first | exact .here _ _ | assumption | apply Pick.there)).pick (A := blkA g9 45 [.int .u64 ((telS (d.F (n + j)).1).i : Int), .int .u64 ((telS (d.F (n + j)).1).t : Int), .slice A45 (telS (d.F (n + j)).1).b.length c45]) (by repeat first | exact .here _ _ | assumption | apply Pick.there)).drop.drop.drop).pick (A := dskA gd d) (by repeat first | exact .here _ _ | assumption | apply Pick.there)).pick (A := rowA 5 1 As (opC d n j).2.b.length cs (((opC d n j).2.b).map bv)) (by repeat first | exact .here _ _ | assumption | apply Pick.there)).pick (A := blkA g32 75 _) (by repeat first | exact .here _ _ | assumption | apply Pick.there))))
        · intro hg12
          refine p_no hap hsel 2 rfl rfl hS rfl rfl (by rw [hg12]; decide) ?_
          refine p_no hap hsel 3 rfl rfl hS rfl rfl (by rw [hg12]; decide) ?_
          refine p_no hap hsel 4 rfl rfl hS rfl rfl (by rw [hg12]; decide) ?_
          refine p_no hap hsel 5 rfl rfl hS rfl rfl (by rw [hg12]; decide) ?_
          refine p_no hap hsel 6 rfl rfl hS rfl rfl (by rw [hg12]; decide) ?_
          refine p_no hap hsel 7 rfl rfl hS rfl rfl (by rw [hg12]; decide) ?_
          refine p_nu hap hsel 8 rfl rfl hS rfl rfl ?_
          refine p_nu hap hsel 9 rfl rfl hS rfl rfl ?_
          refine p_nu hap hsel 10 rfl rfl hS rfl rfl ?_
          refine p_nu hap hsel 11 rfl rfl hS rfl rfl ?_
          refine p_nu hap hsel 12 rfl rfl hS rfl rfl ?_
          refine p_nu hap hsel 13 rfl rfl hS rfl rfl ?_
          refine p_nu hap hsel 14 rfl rfl hS rfl rfl ?_
          refine p_nu hap hsel 15 rfl rfl hS rfl rfl ?_
          refine p_no hap hsel 16 rfl rfl hS rfl rfl (by rw [hg12]; decide) ?_
          refine p_q hap hsel 17 rfl rfl hS (fun w hS => q_pick_f rfl hg12) ?_
          refine p_end (by kernel_rfl) ?_
          refine c_cond_f rfl rfl ?_
          have hC : (opC d n (j + 1)) = (opC d n j) := by
            rw [opC, if_neg]
            intro hh
            first
              | (have h1 := hh.2; omega)
              | (have h1 := hh.1; have h2 : (tel (d.F (n + j)).1).isSome = false := by assumption
                 rw [h2] at h1; cases h1)
          refine c_skip ?_
          refine c_region ?_
          refine t_q (q_add_i64 rfl rfl (by omega)) ?_
          refine t_q (q_mv (.int _ _) rfl) ?_
          refine t_nil ?_
          first
            | (refine ⟨k - 1, by omega, j + 1, rfl, by omega, by omega, ?_⟩
               rw [hC]
               first
                 | exact St.unar ⟨(n : Int), (j : Int), telS (d.F (n + j)).1, false⟩ ((((((((hS.pick (A := rowA 5 1 As (opC d n j).2.b.length cs (((opC d n j).2.b).map bv)) (by repeat first | exact .here _ _ | assumption | apply Pick.there)).pick (A := rowA 5 1 A44 (d.F (n + j)).1.length c44 (((d.F (n + j)).1).map bv)) (by repeat first | exact .here _ _ | assumption | apply Pick.there)).pick (A := blkA g9 45 [.int .u64 ((telS (d.F (n + j)).1).i : Int), .int .u64 ((telS (d.F (n + j)).1).t : Int), .slice A45 (telS (d.F (n + j)).1).b.length c45]) (by repeat first | exact .here _ _ | assumption | apply Pick.there)).drop.drop.drop).pick (A := dskA gd d) (by repeat first | exact .here _ _ | assumption | apply Pick.there)).pick (A := rowA 5 1 A45 (telS (d.F (n + j)).1).b.length c45 (((telS (d.F (n + j)).1).b).map bv)) (by repeat first | exact .here _ _ | assumption | apply Pick.there)).pick (A := blkA g32 75 _) (by repeat first | exact .here _ _ | assumption | apply Pick.there)))
                 | exact St.unar ⟨(n : Int), (opC d n j).1, (opC d n j).2, false⟩ ((((((((hS.pick (A := rowA 5 1 A45 (telS (d.F (n + j)).1).b.length c45 (((telS (d.F (n + j)).1).b).map bv)) (by repeat first | exact .here _ _ | assumption | apply Pick.there)).pick (A := rowA 5 1 A44 (d.F (n + j)).1.length c44 (((d.F (n + j)).1).map bv)) (by repeat first | exact .here _ _ | assumption | apply Pick.there)).pick (A := blkA g9 45 [.int .u64 ((telS (d.F (n + j)).1).i : Int), .int .u64 ((telS (d.F (n + j)).1).t : Int), .slice A45 (telS (d.F (n + j)).1).b.length c45]) (by repeat first | exact .here _ _ | assumption | apply Pick.there)).drop.drop.drop).pick (A := dskA gd d) (by repeat first | exact .here _ _ | assumption | apply Pick.there)).pick (A := rowA 5 1 As (opC d n j).2.b.length cs (((opC d n j).2.b).map bv)) (by repeat first | exact .here _ _ | assumption | apply Pick.there)).pick (A := blkA g32 75 _) (by repeat first | exact .here _ _ | assumption | apply Pick.there))))
      · intro hc7
        have hc7d := of_decide_eq_false hc7
        obtain rfl : j = 2 := by omega
        refine c_exit ?_
        refine ite_t rfl ?_
        refine c_seq ?_
        refine c_seq ?_
        refine c_region ?_
        refine t_q (q_mv (.pointer _) rfl) ?_
        refine t_q (q_nilCheck rfl) ?_
        refine t_q (q_fieldAddr 1 Try.runUnderlying75 rfl Try.sizeOf73 (by decide) rfl rfl) ?_
        refine t_q (q_cast (v' := .agg #[.int .i64 (n : Int), .int .i64 ((n : Int) + 1)]) (q_load_sub Try.isAgg73 Try.sizeOf73 rfl (hS.blk (by repeat first | exact .here _ _ | assumption | apply Pick.there)) (by show 0 + 1 + 2 ≤ 8; decide)) (rfl)) ?_
        refine t_q (q_move) ?_
        refine t_nil ?_
        refine c_block ?_
        refine c_loop [11, 12, 79, 80, 81, 82, 83, 84, 85, 86, 87, 88, 89, 90, 91, 92, 93, 94, 95, 96, 97, 98, 99, 100, 101, 102, 103, 104, 105] (fun k σ w => ∃ j : Nat, σ 79 = .int .i64 (j : Int) ∧ j ≤ 2 ∧ 2 - j ≤ k ∧ St W w (arA g32 gd ⟨(n : Int), (opC d n 2).1, (opC d n 2).2, false⟩ :: dskA gd (opD d n (opC d n 2).1 j) :: R)) (2) rfl (⟨0, rfl, by omega, by omega, St.unar ⟨(n : Int), (opC d n 2).1, (opC d n 2).2, false⟩ hS⟩) ?_
        skip
        rintro k σ w ⟨j, h79, hj, hk, hS⟩
        refine c_know 79 h79 ?_
        clear h79
        obtain ⟨As, cs, hS⟩ := hS.ar
        replace hS : St W w (blkA g32 75 [.pointer (some ⟨gd, 0, none⟩), .int .i64 (n : Int), .int .i64 ((n : Int) + 1), .int .i64 (opC d n 2).1, .int .u64 ((opC d n 2).2.i : Int), .int .u64 ((opC d n 2).2.t : Int), .slice As (opC d n 2).2.b.length cs, .bool false] :: rowA 5 1 As (opC d n 2).2.b.length cs (((opC d n 2).2.b).map bv) :: dskA gd (opD d n (opC d n 2).1 j) :: R) := hS
        obtain ⟨o1, o2, o3, o4⟩ := opD_ok (n := n) (c := (opC d n 2).1) hG hg hfu j
        refine c_seq ?_
        refine c_region ?_
        refine t_q (q_lss rfl rfl) ?_
        refine t_nil ?_
        refine c_seq ?_
        refine c_cond rfl ?_ ?_
        · intro hc18
          have hc18d := of_decide_eq_true hc18
          refine c_skip ?_
          refine c_seq ?_
          refine c_block ?_
          refine c_seq ?_
          refine c_region ?_
          refine t_q (q_mv (.int _ _) rfl) ?_
          refine t_q (q_index_arr Try.runUnderlying73 Try.sizeOf3 Try.isAgg3 rfl rfl (by omega) (files_at rfl (by omega))) ?_
          refine t_q (q_as (.int _ _) rfl) ?_
          refine t_q (q_as (.int _ _) rfl) ?_
          refine t_nil ?_
          refine c_block ?_
          refine c_seq ?_
          refine c_region ?_
          refine t_q (q_mv (.int _ _) rfl) ?_
          refine t_q (q_mv (.pointer _) rfl) ?_
          refine t_q (q_nilCheck rfl) ?_
          refine t_q (q_fieldAddr 3 Try.runUnderlying75 rfl Try.sizeOf3 (by decide) rfl rfl) ?_
          refine t_q (q_load1 Try.isAgg3 rfl (hS.cell (by repeat first | exact .here _ _ | assumption | apply Pick.there) rfl)) ?_
          refine t_q (q_eql rfl rfl) ?_
          refine t_q (q_as (.bool _) rfl) ?_
          refine t_nil ?_
          refine c_cond rfl ?_ ?_
          · intro hc20
            have hc20d := of_decide_eq_true hc20
            have hjc : (j : Int) = (opC d n 2).1 := by omega
            have hE := (tn_ok (F := fun _ => ([], 0)) (i := ((n + j : Nat) : Int)) (c := 0) o2 (by omega) rfl (by omega)).1
            refine c_region ?_
            refine t_q (q_mv (.pointer _) rfl) ?_
            refine t_q (q_mv (.pointer _) rfl) ?_
            refine t_q (q_mv (.int _ _) rfl) ?_
            refine t_call Try.call43 (syn_calls (i := ((n + j : Nat) : Int)) hS (by repeat first | exact .here _ _ | assumption | apply Pick.there) o1 (by omega)) rfl ?_
            rintro e w ⟨rfl, hS⟩
            refine ⟨_, rfl, ?_⟩
            rw [hE]
            replace hS := hS.recast (show _ = dskA gd (opD d n (opC d n 2).1 (j + 1)) from congrArg (dskA gd) (by rw [opD, if_pos hjc]; rfl))
            refine t_call Try.call84 (done_calls (e0 := 0) hS (by repeat first | exact .here _ _ | assumption | apply Pick.there)) rfl ?_
            rintro e w ⟨rfl, hS⟩
            refine ⟨_, rfl, ?_⟩
            replace hS := hS.recast (show _ = blkA g32 75 [.pointer (some ⟨gd, 0, none⟩), .int .i64 (n : Int), .int .i64 ((n : Int) + 1), .int .i64 (opC d n 2).1, .int .u64 ((opC d n 2).2.i : Int), .int .u64 ((opC d n 2).2.t : Int), .slice As (opC d n 2).2.b.length cs, .bool false] from rfl)
            refine t_nil ?_
            refine c_region ?_
            refine t_q (q_add_i64 rfl rfl (by omega)) ?_
            refine t_q (q_mv (.int _ _) rfl) ?_
            refine t_nil ?_
            exact ⟨k - 1, by omega, j + 1, rfl, by omega, by omega, St.unar ⟨(n : Int), (opC d n 2).1, (opC d n 2).2, false⟩ ((((hS.pick (A := dskA gd _) (by repeat first | exact .here _ _ | assumption | apply Pick.there)).pick (A := rowA 5 1 As (opC d n 2).2.b.length cs (((opC d n 2).2.b).map bv)) (by repeat first | exact .here _ _ | assumption | apply Pick.there)).pick (A := blkA g32 75 _) (by repeat first | exact .here _ _ | assumption | apply Pick.there)))⟩
          · intro hc20
            have hc20d := of_decide_eq_false hc20
            have hjc : ¬ (j : Int) = (opC d n 2).1 := by omega
            have hE := (tn_ok (F := fun _ => ([], 0)) (i := ((n + j : Nat) : Int)) (c := 0) o2 (by omega) rfl (by omega)).1
            refine c_seq ?_
            refine c_region ?_
            refine t_q (q_mv (.pointer _) rfl) ?_
            refine t_q (q_mv (.int _ _) rfl) ?_
            refine t_call Try.call40 (size_n (i := n + j) hS (by repeat first | exact .here _ _ | assumption | apply Pick.there) o1 (by omega)) rfl ?_
            rintro e w ⟨rfl, hS⟩
            refine ⟨_, rfl, ?_⟩
            refine t_q (q_gtr rfl rfl) ?_
            refine t_q (q_as (.bool _) rfl) ?_
            refine t_nil ?_
            refine c_cond rfl ?_ ?_
            · intro hc25
              have hc25d := of_decide_eq_true hc25
              have hsz : 0 < ((opD d n (opC d n 2).1 j).F (n + j)).1.length := by omega
              refine c_region ?_
              refine t_q (q_mv (.pointer _) rfl) ?_
              refine t_q (q_mv (.pointer _) rfl) ?_
              refine t_q (q_mv (.int _ _) rfl) ?_
              refine t_call Try.call85 (drp_calls (i := ((n + j : Nat) : Int)) hS (by repeat first | exact .here _ _ | assumption | apply Pick.there) o1 (by omega)) rfl ?_
              rintro e w ⟨rfl, hS⟩
              refine ⟨_, rfl, ?_⟩
              rw [hE]
              replace hS := hS.recast (show _ = dskA gd (opD d n (opC d n 2).1 (j + 1)) from congrArg (dskA gd) (by rw [opD, if_neg hjc, if_pos hsz]; rfl))
              refine t_call Try.call84 (done_calls (e0 := 0) hS (by repeat first | exact .here _ _ | assumption | apply Pick.there)) rfl ?_
              rintro e w ⟨rfl, hS⟩
              refine ⟨_, rfl, ?_⟩
              replace hS := hS.recast (show _ = blkA g32 75 [.pointer (some ⟨gd, 0, none⟩), .int .i64 (n : Int), .int .i64 ((n : Int) + 1), .int .i64 (opC d n 2).1, .int .u64 ((opC d n 2).2.i : Int), .int .u64 ((opC d n 2).2.t : Int), .slice As (opC d n 2).2.b.length cs, .bool false] from rfl)
              refine t_nil ?_
              refine c_region ?_
              refine t_q (q_add_i64 rfl rfl (by omega)) ?_
              refine t_q (q_mv (.int _ _) rfl) ?_
              refine t_nil ?_
              exact ⟨k - 1, by omega, j + 1, rfl, by omega, by omega, St.unar ⟨(n : Int), (opC d n 2).1, (opC d n 2).2, false⟩ ((((hS.pick (A := dskA gd _) (by repeat first | exact .here _ _ | assumption | apply Pick.there)).pick (A := rowA 5 1 As (opC d n 2).2.b.length cs (((opC d n 2).2.b).map bv)) (by repeat first | exact .here _ _ | assumption | apply Pick.there)).pick (A := blkA g32 75 _) (by repeat first | exact .here _ _ | assumption | apply Pick.there)))⟩
            · intro hc25
              have hc25d := of_decide_eq_false hc25
              have hsz : ¬ 0 < ((opD d n (opC d n 2).1 j).F (n + j)).1.length := by omega
              replace hS := (hS.pick (A := dskA gd _) (by repeat first | exact .here _ _ | assumption | apply Pick.there)).recast (show _ = dskA gd (opD d n (opC d n 2).1 (j + 1)) from congrArg (dskA gd) (by rw [opD, if_neg hjc, if_neg hsz]))
              refine c_skip ?_
              refine c_region ?_
              refine t_q (q_add_i64 rfl rfl (by omega)) ?_
              refine t_q (q_mv (.int _ _) rfl) ?_
              refine t_nil ?_
              exact ⟨k - 1, by omega, j + 1, rfl, by omega, by omega, St.unar ⟨(n : Int), (opC d n 2).1, (opC d n 2).2, false⟩ ((((hS.pick (A := dskA gd _) (by repeat first | exact .here _ _ | assumption | apply Pick.there)).pick (A := rowA 5 1 As (opC d n 2).2.b.length cs (((opC d n 2).2.b).map bv)) (by repeat first | exact .here _ _ | assumption | apply Pick.there)).pick (A := blkA g32 75 _) (by repeat first | exact .here _ _ | assumption | apply Pick.there)))⟩
        · intro hc18
          have hc18d := of_decide_eq_false hc18
          obtain rfl : j = 2 := by omega
          refine c_exit ?_
          refine ite_t rfl ?_
          refine c_seq ?_
          refine c_seq ?_
          refine c_region ?_
          refine t_q (q_mv (.pointer _) rfl) ?_
          refine t_q (q_nilCheck rfl) ?_
          refine t_q (q_fieldAddr 7 Try.runUnderlying75 rfl Try.sizeOf4 (by decide) rfl rfl) ?_
          refine t_q (q_load1 Try.isAgg4 rfl (hS.cell (by repeat first | exact .here _ _ | assumption | apply Pick.there) rfl)) ?_
          refine t_nil ?_
          refine c_cond_f rfl rfl ?_
          refine c_skip ?_
          refine c_seq ?_
          refine c_region ?_
          refine t_q (q_mv (.pointer _) rfl) ?_
          refine t_q (q_as (.pointer _) rfl) ?_
          refine t_q (q_assign) ?_
          refine t_nil ?_
          refine c_ret ?_
          refine r_two rfl rfl rfl ?_
          exact ⟨g32, rfl, St.unar ⟨(n : Int), (opC d n 2).1, (opC d n 2).2, false⟩ hS⟩
end Go.Proofs.Ytlppgpidakfnlaa
