/- Rule sets read from bytes: the document's. -/
import Derived.Test.YtmgobaojioaioaaDoorUg
import Derived.Test.YtmgobaojioaioaaDoorUc
namespace Go.Proofs.YtmgobaojioaioaaDoor
open Go Go.RowKit Go.Lib
variable {W : World}
attribute [local irreducible] blkA rowA rdrA Rs.nat Rs.int
set_option maxHeartbeats 4000000 in
set_option maxRecDepth 100000 in
theorem qrread_calls {w : World} {L R : List Asn} {g : Nat} {s : Rs} (hS : St W w L) (pk : Pick L (rdrA W 58 g s) R) : Calls Tryd.prog 27 #[.pointer (some ⟨g, 0, none⟩)] w fun e w' => ∃ x : RuV, e = .returned (.tuple #[.agg x.cells.toArray, .bool (ruOk s)]) ∧ (∃ A c B d, x = ruT s A c B d) ∧ St W w' (rdrA W 58 g (ruS s) :: rowA 40 2 x.ticks.A x.ticks.l.length x.ticks.c ((x.ticks.l).flatMap Tk.cells) :: rowA 42 3 x.fees.A x.fees.l.length x.fees.c ((x.fees.l).flatMap Tr.cells) :: R) := by
  replace hS := hS.pick pk
  clear pk
  have hn1 : (q1 s).1 ≤ 8 := Rs.nat_le _ _
  have hn5 : (q5 s).1 ≤ 8 := Rs.nat_le _ _
  have hl2 : (q2 s).1.length = (q1 s).1 := tkk_len _ _
  have hl6 : (q6 s).1.length = (q5 s).1 := trk_len _ _
  refine calls_of_wpE (args := [_]) Tryd.func27 rfl rfl rfl ?_
  refine c_seq ?_
  refine c_region ?_
  refine t_alloc Tryd.zeroValue25 rfl hS (fun g2 w hS => ?_)
  refine t_q (q_assign) ?_
  refine t_nil ?_
  refine c_seq ?_
  refine c_region ?_
  refine t_alloc Tryd.zeroValue25 rfl hS (fun g4 w hS => ?_)
  refine t_nil ?_
  refine c_seq ?_
  refine c_region ?_
  refine t_q (q_mv (.pointer _) rfl) ?_
  refine t_call Tryd.call59 (qq0 (s := s) hS (by repeat first | exact .here _ _ | assumption | apply Pick.there)) rfl ?_
  rintro e w ⟨rfl, hS⟩
  refine ⟨_, rfl, ?_⟩
  refine t_q (q_fieldAddr 0 Tryd.runUnderlying25 rfl Tryd.sizeOf3 (by decide) rfl rfl) ?_
  refine t_store (v := (.int _ _)) Tryd.sizeOf3 hS (by repeat first | exact .here _ _ | assumption | apply Pick.there) rfl rfl rfl rfl rfl rfl (fun w hS => ?_)
  replace hS := hS.recast (show blkA g4 25 _ = blkA g4 25 [.int .i64 (q0 s).1, .slice none 0 0, .int .i64 0, .int .i64 0, .slice none 0 0, .int .i64 0, .int .i64 0, .int .i64 0, .int .i64 0] from rfl)
  refine t_nil ?_
  refine c_seq ?_
  refine c_region ?_
  refine t_q (q_mv (.pointer _) rfl) ?_
  refine t_call Tryd.call60 (qq1 (s := s) hS (by repeat first | exact .here _ _ | assumption | apply Pick.there)) rfl ?_
  rintro e w ⟨rfl, hS⟩
  refine ⟨_, rfl, ?_⟩
  refine t_q (q_as (.int _ _) rfl) ?_
  refine t_nil ?_
  refine c_seq ?_
  refine c_seq ?_
  refine c_region ?_
  refine t_q (q_assign) ?_
  refine t_nil ?_
  refine c_block ?_
  refine c_loop [6, 7, 16, 17, 18, 19, 20, 21, 22, 23, 24, 25, 26, 27, 28, 29, 30, 31] (fun k σ w => ∃ (j : Nat) (At : Option Addr) (ct : Nat), σ 6 = .int .u64 (j : Int) ∧ j ≤ (q1 s).1 ∧ (q1 s).1 - j ≤ k ∧ St W w (rdrA W 58 g (tkk (q1 s).2 j).2 :: blkA g4 25 [.int .i64 (q0 s).1, .slice At j ct, .int .i64 0, .int .i64 0, .slice none 0 0, .int .i64 0, .int .i64 0, .int .i64 0, .int .i64 0] :: blkA g2 25 [.int .i64 0, .slice none 0 0, .int .i64 0, .int .i64 0, .slice none 0 0, .int .i64 0, .int .i64 0, .int .i64 0, .int .i64 0] :: rowA 40 2 At j ct (((tkk (q1 s).2 j).1).flatMap Tk.cells) :: R)) ((q1 s).1) rfl (⟨0, none, 0, rfl, by omega, by omega, (((((hS.nilrow 40 2).pick (A := rowA 40 2 none 0 0 []) (by repeat first | exact .here _ _ | assumption | apply Pick.there)).pick (A := blkA g2 25 _) (by repeat first | exact .here _ _ | assumption | apply Pick.there)).pick (A := blkA g4 25 _) (by repeat first | exact .here _ _ | assumption | apply Pick.there)).pick (A := rdrA W 58 g _) (by repeat first | exact .here _ _ | assumption | apply Pick.there))⟩) ?_
  skip
  rintro k σ w ⟨j, At, ct, h12, hj, hk, hS⟩
  refine c_know 6 h12 ?_
  clear h12
  refine c_seq ?_
  refine c_seq ?_
  refine c_region ?_
  refine t_q (q_mv (.int _ _) rfl) ?_
  refine t_q (q_mv (.int _ _) rfl) ?_
  refine t_q (q_lss rfl rfl) ?_
  refine t_nil ?_
  refine c_cond rfl ?_ ?_
  · intro hc4
    have hc4d := of_decide_eq_true hc4
    refine c_skip ?_
    refine c_seq ?_
    refine c_block ?_
    refine c_seq ?_
    refine c_region ?_
    refine t_q (q_mv (.pointer _) rfl) ?_
    refine t_call Tryd.call59 (qInt (s := (tkk (q1 s).2 j).2) hS (by repeat first | exact .here _ _ | assumption | apply Pick.there)) rfl ?_
    rintro e w ⟨rfl, hS⟩
    refine ⟨_, rfl, ?_⟩
    refine t_q (q_as (.int _ _) rfl) ?_
    refine t_nil ?_
    refine c_draw ?_
    refine d_keep (blkA g4 25 [.int .i64 (q0 s).1, .slice At j ct, .int .i64 0, .int .i64 0, .slice none 0 0, .int .i64 0, .int .i64 0, .int .i64 0, .int .i64 0]) 10 [0, 1, 2, 3, 4, 5, 6, 7, 8, 9] [0, 1, 2, 3, 4, 5, 6, 7, 8, 9] hS rfl (by kernel_rfl) (by kernel_rfl) (by kernel_rfl) (by kernel_rfl) (fun hap hsel w hS => ?_)
    refine p_q hap hsel 0 rfl rfl ⟨_, hS.pick (by repeat first | exact .here _ _ | assumption | apply Pick.there)⟩ (fun w hI => q_fieldAddr 1 Tryd.runUnderlying25 rfl Tryd.sizeOf22 (by decide) rfl rfl) ?_
    refine p_q hap hsel 1 rfl rfl ⟨_, hS.pick (by repeat first | exact .here _ _ | assumption | apply Pick.there)⟩ (fun w hI => q_load1 Tryd.isAgg22 rfl (hI.choose_spec.cell (by repeat first | exact .here _ _ | assumption | apply Pick.there) rfl)) ?_
    refine p_q hap hsel 2 rfl rfl ⟨_, hS.pick (by repeat first | exact .here _ _ | assumption | apply Pick.there)⟩ (fun w hI => q_mv (.int _ _) rfl) ?_
    refine p_q hap hsel 3 rfl rfl ⟨_, hS.pick (by repeat first | exact .here _ _ | assumption | apply Pick.there)⟩ (fun w hI => q_mv (.pointer _) rfl) ?_
    refine p_one 4 rfl (by kernel_rfl) ?_
    refine t_call Tryd.call59 (qInt (s := (tkk (q1 s).2 j).2.int.2) hS (by repeat first | exact .here _ _ | assumption | apply Pick.there)) rfl ?_
    rintro e w ⟨rfl, hS⟩
    refine ⟨_, rfl, ?_⟩
    refine t_nil ?_
    refine ⟨.inr ⟨_, hS.pick (by repeat first | exact .here _ _ | assumption | apply Pick.there)⟩, ?_⟩
    refine p_q hap hsel 5 rfl rfl ⟨_, hS.pick (by repeat first | exact .here _ _ | assumption | apply Pick.there)⟩ (fun w hI => q_build (qs := [(0, 1), (1, 1)]) [(.int _ _), (.int _ _)] Tryd.zeroValue40 Tryd.runUnderlying40 ⟨rfl, Tryd.sizeOf2, rfl, Tryd.sizeOf2, trivial⟩ rfl rfl) ?_
    refine p_one 6 rfl (by kernel_rfl) ?_
    refine t_buildSlice Tryd.runUnderlying22 Tryd.sizeOf40 Tryd.zeroValue40 rfl rfl (by intro v hv; simp at hv; try (first | (subst hv; rfl) | (rcases hv with rfl | rfl <;> rfl))) (by decide) (by decide) hS (fun g29 w hS => ?_)
    refine t_nil ?_
    refine ⟨.inr ⟨_, hS.pick (by repeat first | exact .here _ _ | assumption | apply Pick.there)⟩, ?_⟩
    refine p_one 7 rfl (by kernel_rfl) ?_
    refine t_append_own (size := 2) (bytes := 16) Tryd.underlying22 (info_of Tryd.type40) rfl rfl rfl rfl (by decide) hS (by repeat first | exact .here _ _ | assumption | apply Pick.there) (by repeat first | exact .here _ _ | assumption | apply Pick.there) rfl rfl (by first | exact allOne_bv _ | exact allOne_ints _ _ | rfl) (by unfold maxLen; omega) (by omega) (fun A30 c30 w hS => ?_)
    refine t_nil ?_
    refine ⟨.inr ⟨_, hS.pick (by repeat first | exact .here _ _ | assumption | apply Pick.there)⟩, ?_⟩
    refine p_q hap hsel 8 rfl rfl ⟨_, hS.pick (by repeat first | exact .here _ _ | assumption | apply Pick.there)⟩ (fun w hI => q_fieldAddr 1 Tryd.runUnderlying25 rfl Tryd.sizeOf22 (by decide) rfl rfl) ?_
    refine p_one 9 rfl (by kernel_rfl) ?_
    refine t_store (v := (.slice _ _ _)) Tryd.sizeOf22 hS (by repeat first | exact .here _ _ | assumption | apply Pick.there) rfl rfl rfl rfl rfl rfl (fun w hS => ?_)
    replace hS := hS.recast (show blkA g4 25 _ = blkA g4 25 [.int .i64 (q0 s).1, .slice A30 (j + 1) c30, .int .i64 0, .int .i64 0, .slice none 0 0, .int .i64 0, .int .i64 0, .int .i64 0, .int .i64 0] from rfl)
    refine t_nil ?_
    refine ⟨.inl (by kernel_rfl), ?_⟩
    refine p_end (by kernel_rfl) ?_
    refine c_region ?_
    refine t_q (q_mv (.int _ _) rfl) ?_
    refine t_q (q_add_u64 rfl rfl (by omega)) ?_
    refine t_q (q_as (.int _ _) rfl) ?_
    refine t_nil ?_
    replace hS := (hS.pick (A := rowA 40 2 A30 _ c30 _) (by repeat first | exact .here _ _ | assumption | apply Pick.there)).recast (show _ = rowA 40 2 A30 (j + 1) c30 (((tkk (q1 s).2 (j + 1)).1).flatMap Tk.cells) from by rw [tkk, List.flatMap_append]; rfl)
    replace hS := (hS.pick (A := rdrA W 58 g (tkk (q1 s).2 j).2.int.2.int.2) (by repeat first | exact .here _ _ | assumption | apply Pick.there)).recast (show _ = rdrA W 58 g (tkk (q1 s).2 (j + 1)).2 from rfl)
    exact ⟨k - 1, by omega, j + 1, A30, c30, rfl, by omega, by omega, ((((hS.pick (A := rowA 40 2 A30 _ c30 _) (by repeat first | exact .here _ _ | assumption | apply Pick.there)).pick (A := blkA g2 25 _) (by repeat first | exact .here _ _ | assumption | apply Pick.there)).pick (A := blkA g4 25 _) (by repeat first | exact .here _ _ | assumption | apply Pick.there)).pick (A := rdrA W 58 g _) (by repeat first | exact .here _ _ | assumption | apply Pick.there))⟩
  · intro hc4
    have hc4d := of_decide_eq_false hc4
    obtain rfl : j = (q1 s).1 := by omega
    refine c_exit ?_
    refine ite_t rfl ?_
    refine c_seq ?_
    refine c_region ?_
    refine t_q (q_mv (.pointer _) rfl) ?_
    refine t_call Tryd.call59 (qq3 (s := s) hS (by repeat first | exact .here _ _ | assumption | apply Pick.there)) rfl ?_
    rintro e w ⟨rfl, hS⟩
    refine ⟨_, rfl, ?_⟩
    refine t_q (q_fieldAddr 2 Tryd.runUnderlying25 rfl Tryd.sizeOf2 (by decide) rfl rfl) ?_
    refine t_store (v := (.int _ _)) Tryd.sizeOf2 hS (by repeat first | exact .here _ _ | assumption | apply Pick.there) rfl rfl rfl rfl rfl rfl (fun w hS => ?_)
    replace hS := hS.recast (show blkA g4 25 _ = blkA g4 25 [.int .i64 (q0 s).1, .slice At (q1 s).1 ct, .int .i64 (q3 s).1, .int .i64 0, .slice none 0 0, .int .i64 0, .int .i64 0, .int .i64 0, .int .i64 0] from rfl)
    refine t_nil ?_
    refine c_seq ?_
    refine c_region ?_
    refine t_q (q_mv (.pointer _) rfl) ?_
    refine t_call Tryd.call59 (qq4 (s := s) hS (by repeat first | exact .here _ _ | assumption | apply Pick.there)) rfl ?_
    rintro e w ⟨rfl, hS⟩
    refine ⟨_, rfl, ?_⟩
    refine t_q (q_fieldAddr 3 Tryd.runUnderlying25 rfl Tryd.sizeOf2 (by decide) rfl rfl) ?_
    refine t_store (v := (.int _ _)) Tryd.sizeOf2 hS (by repeat first | exact .here _ _ | assumption | apply Pick.there) rfl rfl rfl rfl rfl rfl (fun w hS => ?_)
    replace hS := hS.recast (show blkA g4 25 _ = blkA g4 25 [.int .i64 (q0 s).1, .slice At (q1 s).1 ct, .int .i64 (q3 s).1, .int .i64 (q4 s).1, .slice none 0 0, .int .i64 0, .int .i64 0, .int .i64 0, .int .i64 0] from rfl)
    refine t_nil ?_
    refine c_seq ?_
    refine c_region ?_
    refine t_q (q_mv (.pointer _) rfl) ?_
    refine t_call Tryd.call60 (qq5 (s := s) hS (by repeat first | exact .here _ _ | assumption | apply Pick.there)) rfl ?_
    rintro e w ⟨rfl, hS⟩
    refine ⟨_, rfl, ?_⟩
    refine t_q (q_as (.int _ _) rfl) ?_
    refine t_nil ?_
    refine c_seq ?_
    refine c_seq ?_
    refine c_region ?_
    refine t_q (q_assign) ?_
    refine t_nil ?_
    refine c_block ?_
    refine c_loop [9, 10, 40, 41, 42, 43, 44, 45, 46, 47, 48, 49, 50, 51, 52, 53, 54, 55, 56, 57, 58, 59] (fun k σ w => ∃ (j : Nat) (Af : Option Addr) (cf : Nat), σ 9 = .int .u64 (j : Int) ∧ j ≤ (q5 s).1 ∧ (q5 s).1 - j ≤ k ∧ St W w (rdrA W 58 g (trk (q5 s).2 j).2 :: blkA g4 25 [.int .i64 (q0 s).1, .slice At (q1 s).1 ct, .int .i64 (q3 s).1, .int .i64 (q4 s).1, .slice Af j cf, .int .i64 0, .int .i64 0, .int .i64 0, .int .i64 0] :: blkA g2 25 [.int .i64 0, .slice none 0 0, .int .i64 0, .int .i64 0, .slice none 0 0, .int .i64 0, .int .i64 0, .int .i64 0, .int .i64 0] :: rowA 40 2 At (q1 s).1 ct (((q2 s).1).flatMap Tk.cells) :: rowA 42 3 Af j cf (((trk (q5 s).2 j).1).flatMap Tr.cells) :: R)) ((q5 s).1) rfl (⟨0, none, 0, rfl, by omega, by omega, ((((((hS.nilrow 42 3).pick (A := rowA 42 3 none 0 0 []) (by repeat first | exact .here _ _ | assumption | apply Pick.there)).pick (A := rowA 40 2 At _ ct _) (by repeat first | exact .here _ _ | assumption | apply Pick.there)).pick (A := blkA g2 25 _) (by repeat first | exact .here _ _ | assumption | apply Pick.there)).pick (A := blkA g4 25 _) (by repeat first | exact .here _ _ | assumption | apply Pick.there)).pick (A := rdrA W 58 g _) (by repeat first | exact .here _ _ | assumption | apply Pick.there))⟩) ?_
    skip
    rintro k σ w ⟨j, Af, cf, h33, hj, hk, hS⟩
    refine c_know 9 h33 ?_
    clear h33
    refine c_seq ?_
    refine c_seq ?_
    refine c_region ?_
    refine t_q (q_mv (.int _ _) rfl) ?_
    refine t_q (q_mv (.int _ _) rfl) ?_
    refine t_q (q_lss rfl rfl) ?_
    refine t_nil ?_
    refine c_cond rfl ?_ ?_
    · intro hc11
      have hc11d := of_decide_eq_true hc11
      refine c_skip ?_
      refine c_seq ?_
      refine c_block ?_
      refine c_seq ?_
      refine c_region ?_
      refine t_alloc Tryd.zeroValue42 rfl hS (fun g10 w hS => ?_)
      refine t_nil ?_
      refine c_seq ?_
      refine c_region ?_
      refine t_q (q_mv (.pointer _) rfl) ?_
      refine t_call Tryd.call59 (qInt (s := (trk (q5 s).2 j).2) hS (by repeat first | exact .here _ _ | assumption | apply Pick.there)) rfl ?_
      rintro e w ⟨rfl, hS⟩
      refine ⟨_, rfl, ?_⟩
      refine t_q (q_fieldAddr 0 Tryd.runUnderlying42 rfl Tryd.sizeOf2 (by decide) rfl rfl) ?_
      refine t_store (v := (.int _ _)) Tryd.sizeOf2 hS (by repeat first | exact .here _ _ | assumption | apply Pick.there) rfl rfl rfl rfl rfl rfl (fun w hS => ?_)
      replace hS := hS.recast (show blkA g10 42 _ = blkA g10 42 [.int .i64 (trk (q5 s).2 j).2.int.1, .int .i64 0, .int .i64 0] from rfl)
      refine t_nil ?_
      refine c_seq ?_
      refine c_region ?_
      refine t_q (q_mv (.pointer _) rfl) ?_
      refine t_call Tryd.call59 (qInt (s := (trk (q5 s).2 j).2.int.2) hS (by repeat first | exact .here _ _ | assumption | apply Pick.there)) rfl ?_
      rintro e w ⟨rfl, hS⟩
      refine ⟨_, rfl, ?_⟩
      refine t_q (q_fieldAddr 1 Tryd.runUnderlying42 rfl Tryd.sizeOf2 (by decide) rfl rfl) ?_
      refine t_store (v := (.int _ _)) Tryd.sizeOf2 hS (by repeat first | exact .here _ _ | assumption | apply Pick.there) rfl rfl rfl rfl rfl rfl (fun w hS => ?_)
      replace hS := hS.recast (show blkA g10 42 _ = blkA g10 42 [.int .i64 (trk (q5 s).2 j).2.int.1, .int .i64 (trk (q5 s).2 j).2.int.2.int.1, .int .i64 0] from rfl)
      refine t_nil ?_
      refine c_seq ?_
      refine c_region ?_
      refine t_q (q_mv (.pointer _) rfl) ?_
      refine t_call Tryd.call59 (qInt (s := (trk (q5 s).2 j).2.int.2.int.2) hS (by repeat first | exact .here _ _ | assumption | apply Pick.there)) rfl ?_
      rintro e w ⟨rfl, hS⟩
      refine ⟨_, rfl, ?_⟩
      refine t_q (q_fieldAddr 2 Tryd.runUnderlying42 rfl Tryd.sizeOf2 (by decide) rfl rfl) ?_
      refine t_store (v := (.int _ _)) Tryd.sizeOf2 hS (by repeat first | exact .here _ _ | assumption | apply Pick.there) rfl rfl rfl rfl rfl rfl (fun w hS => ?_)
      replace hS := hS.recast (show blkA g10 42 _ = blkA g10 42 [.int .i64 (trk (q5 s).2 j).2.int.1, .int .i64 (trk (q5 s).2 j).2.int.2.int.1, .int .i64 (trk (q5 s).2 j).2.int.2.int.2.int.1] from rfl)
      refine t_nil ?_
      refine c_region ?_
      refine t_q (q_fieldAddr 4 Tryd.runUnderlying25 rfl Tryd.sizeOf23 (by decide) rfl rfl) ?_
      refine t_q (q_load1 Tryd.isAgg23 rfl (hS.cell (by repeat first | exact .here _ _ | assumption | apply Pick.there) rfl)) ?_
      refine t_q (q_load_blk Tryd.isAgg42 Tryd.sizeOf42 rfl (hS.blk (by repeat first | exact .here _ _ | assumption | apply Pick.there)) rfl) ?_
      refine t_buildSlice Tryd.runUnderlying23 Tryd.sizeOf42 Tryd.zeroValue42 rfl rfl (by intro v hv; simp at hv; try (first | (subst hv; rfl) | (rcases hv with rfl | rfl <;> rfl))) (by decide) (by decide) hS (fun g57 w hS => ?_)
      refine t_append_own (size := 3) (bytes := 24) Tryd.underlying23 (info_of Tryd.type42) rfl rfl rfl rfl (by decide) hS (by repeat first | exact .here _ _ | assumption | apply Pick.there) (by repeat first | exact .here _ _ | assumption | apply Pick.there) rfl rfl (by first | exact allOne_bv _ | exact allOne_ints _ _ | rfl) (by unfold maxLen; omega) (by omega) (fun A58 c58 w hS => ?_)
      refine t_q (q_fieldAddr 4 Tryd.runUnderlying25 rfl Tryd.sizeOf23 (by decide) rfl rfl) ?_
      refine t_store (v := (.slice _ _ _)) Tryd.sizeOf23 hS (by repeat first | exact .here _ _ | assumption | apply Pick.there) rfl rfl rfl rfl rfl rfl (fun w hS => ?_)
      replace hS := hS.recast (show blkA g4 25 _ = blkA g4 25 [.int .i64 (q0 s).1, .slice At (q1 s).1 ct, .int .i64 (q3 s).1, .int .i64 (q4 s).1, .slice A58 (j + 1) c58, .int .i64 0, .int .i64 0, .int .i64 0, .int .i64 0] from rfl)
      refine t_nil ?_
      refine c_region ?_
      refine t_q (q_mv (.int _ _) rfl) ?_
      refine t_q (q_add_u64 rfl rfl (by omega)) ?_
      refine t_q (q_as (.int _ _) rfl) ?_
      refine t_nil ?_
      replace hS := (hS.pick (A := rowA 42 3 A58 _ c58 _) (by repeat first | exact .here _ _ | assumption | apply Pick.there)).recast (show _ = rowA 42 3 A58 (j + 1) c58 (((trk (q5 s).2 (j + 1)).1).flatMap Tr.cells) from by rw [trk, List.flatMap_append]; rfl)
      replace hS := (hS.pick (A := rdrA W 58 g (trk (q5 s).2 j).2.int.2.int.2.int.2) (by repeat first | exact .here _ _ | assumption | apply Pick.there)).recast (show _ = rdrA W 58 g (trk (q5 s).2 (j + 1)).2 from rfl)
      replace hS := (hS.pick (A := blkA g10 42 _) (by repeat first | exact .here _ _ | assumption | apply Pick.there)).drop
      exact ⟨k - 1, by omega, j + 1, A58, c58, rfl, by omega, by omega, (((((hS.pick (A := rowA 42 3 A58 _ c58 _) (by repeat first | exact .here _ _ | assumption | apply Pick.there)).pick (A := rowA 40 2 At _ ct _) (by repeat first | exact .here _ _ | assumption | apply Pick.there)).pick (A := blkA g2 25 _) (by repeat first | exact .here _ _ | assumption | apply Pick.there)).pick (A := blkA g4 25 _) (by repeat first | exact .here _ _ | assumption | apply Pick.there)).pick (A := rdrA W 58 g _) (by repeat first | exact .here _ _ | assumption | apply Pick.there))⟩
    · intro hc11
      have hc11d := of_decide_eq_false hc11
      obtain rfl : j = (q5 s).1 := by omega
      replace hS := (hS.pick (A := rowA 42 3 Af _ cf _) (by repeat first | exact .here _ _ | assumption | apply Pick.there)).recast (show _ = rowA 42 3 Af (q5 s).1 cf (((q6 s).1).flatMap Tr.cells) from rfl)
      refine c_exit ?_
      refine ite_t rfl ?_
      refine c_seq ?_
      refine c_region ?_
      refine t_q (q_mv (.pointer _) rfl) ?_
      refine t_call Tryd.call59 (qq7 (s := s) hS (by repeat first | exact .here _ _ | assumption | apply Pick.there)) rfl ?_
      rintro e w ⟨rfl, hS⟩
      refine ⟨_, rfl, ?_⟩
      refine t_q (q_fieldAddr 5 Tryd.runUnderlying25 rfl Tryd.sizeOf3 (by decide) rfl rfl) ?_
      refine t_store (v := (.int _ _)) Tryd.sizeOf3 hS (by repeat first | exact .here _ _ | assumption | apply Pick.there) rfl rfl rfl rfl rfl rfl (fun w hS => ?_)
      replace hS := hS.recast (show blkA g4 25 _ = blkA g4 25 [.int .i64 (q0 s).1, .slice At (q1 s).1 ct, .int .i64 (q3 s).1, .int .i64 (q4 s).1, .slice Af (q5 s).1 cf, .int .i64 (q7 s).1, .int .i64 0, .int .i64 0, .int .i64 0] from rfl)
      refine t_nil ?_
      refine c_seq ?_
      refine c_region ?_
      refine t_q (q_mv (.pointer _) rfl) ?_
      refine t_call Tryd.call59 (qq8 (s := s) hS (by repeat first | exact .here _ _ | assumption | apply Pick.there)) rfl ?_
      rintro e w ⟨rfl, hS⟩
      refine ⟨_, rfl, ?_⟩
      refine t_q (q_fieldAddr 6 Tryd.runUnderlying25 rfl Tryd.sizeOf3 (by decide) rfl rfl) ?_
      refine t_store (v := (.int _ _)) Tryd.sizeOf3 hS (by repeat first | exact .here _ _ | assumption | apply Pick.there) rfl rfl rfl rfl rfl rfl (fun w hS => ?_)
      replace hS := hS.recast (show blkA g4 25 _ = blkA g4 25 [.int .i64 (q0 s).1, .slice At (q1 s).1 ct, .int .i64 (q3 s).1, .int .i64 (q4 s).1, .slice Af (q5 s).1 cf, .int .i64 (q7 s).1, .int .i64 (q8 s).1, .int .i64 0, .int .i64 0] from rfl)
      refine t_nil ?_
      refine c_seq ?_
      refine c_region ?_
      refine t_q (q_mv (.pointer _) rfl) ?_
      refine t_call Tryd.call59 (qq9 (s := s) hS (by repeat first | exact .here _ _ | assumption | apply Pick.there)) rfl ?_
      rintro e w ⟨rfl, hS⟩
      refine ⟨_, rfl, ?_⟩
      refine t_q (q_fieldAddr 7 Tryd.runUnderlying25 rfl Tryd.sizeOf3 (by decide) rfl rfl) ?_
      refine t_store (v := (.int _ _)) Tryd.sizeOf3 hS (by repeat first | exact .here _ _ | assumption | apply Pick.there) rfl rfl rfl rfl rfl rfl (fun w hS => ?_)
      replace hS := hS.recast (show blkA g4 25 _ = blkA g4 25 [.int .i64 (q0 s).1, .slice At (q1 s).1 ct, .int .i64 (q3 s).1, .int .i64 (q4 s).1, .slice Af (q5 s).1 cf, .int .i64 (q7 s).1, .int .i64 (q8 s).1, .int .i64 (q9 s).1, .int .i64 0] from rfl)
      refine t_nil ?_
      refine c_seq ?_
      refine c_region ?_
      refine t_q (q_mv (.pointer _) rfl) ?_
      refine t_call Tryd.call59 (qq10 (s := s) hS (by repeat first | exact .here _ _ | assumption | apply Pick.there)) rfl ?_
      rintro e w ⟨rfl, hS⟩
      refine ⟨_, rfl, ?_⟩
      refine t_q (q_fieldAddr 8 Tryd.runUnderlying25 rfl Tryd.sizeOf3 (by decide) rfl rfl) ?_
      refine t_store (v := (.int _ _)) Tryd.sizeOf3 hS (by repeat first | exact .here _ _ | assumption | apply Pick.there) rfl rfl rfl rfl rfl rfl (fun w hS => ?_)
      replace hS := hS.recast (show blkA g4 25 _ = blkA g4 25 [.int .i64 (q0 s).1, .slice At (q1 s).1 ct, .int .i64 (q3 s).1, .int .i64 (q4 s).1, .slice Af (q5 s).1 cf, .int .i64 (q7 s).1, .int .i64 (q8 s).1, .int .i64 (q9 s).1, .int .i64 (q10 s).1] from rfl)
      refine t_nil ?_
      refine c_seq ?_
      refine c_seq ?_
      obtain ⟨Ar, cr, hRr, hcr, hS⟩ := (hS.pick (A := rdrA W 58 g (q10 s).2) (by repeat first | exact .here _ _ | assumption | apply Pick.there)).rdr
      refine c_region ?_
      refine t_q (q_mv (.pointer _) rfl) ?_
      refine t_q (q_nilCheck rfl) ?_
      refine t_q (q_fieldAddr 1 Tryd.runUnderlying58 rfl Tryd.sizeOf4 (by decide) rfl rfl) ?_
      refine t_q (q_load1 Tryd.isAgg4 rfl (hS.cell (by repeat first | exact .here _ _ | assumption | apply Pick.there) rfl)) ?_
      refine t_q (q_mv (.bool _) rfl) ?_
      refine t_case 76 rfl ?_ ?_
      · intro hg20
        refine t_no rfl rfl (by rw [hg20]; decide) ?_
        refine t_no rfl rfl (by rw [hg20]; decide) ?_
        refine t_no rfl rfl (by rw [hg20]; decide) ?_
        refine t_q (q_pick_t rfl hg20) ?_
        refine t_nil ?_
        refine c_cond_t rfl rfl ?_
        have hD : ruOk s = false := by
          first
            | exact ruOk_bad (by assumption)
            | exact ruOk_not (A := At) (c := ct) (B := Af) (d := cf) (bnt (by assumption))
        obtain ⟨t1, t2⟩ := ruT_no (A := none) (c := 0) (B := none) (d := 0) hD
        refine c_seq ?_
        refine c_region ?_
        refine t_q (q_mv (.pointer _) rfl) ?_
        refine t_call Tryd.call61 (qFail ((hS.pick (A := blkA g 58 _) (by repeat first | exact .here _ _ | assumption | apply Pick.there)).unrdr rfl rfl hRr hcr) (.here _ _)) rfl ?_
        rintro e w ⟨rfl, hS⟩
        refine ⟨_, rfl, ?_⟩
        replace hS := hS.recast (show _ = rdrA W 58 g s.fail from rfl)
        refine t_nil ?_
        refine c_seq ?_
        refine c_region ?_
        refine t_q (q_build (qs := [(0, 1), (1, 1), (2, 1), (3, 1), (4, 1), (5, 1), (6, 1), (7, 1), (8, 1)]) [(.int _ _), (.slice _ _ _), (.int _ _), (.int _ _), (.slice _ _ _), (.int _ _), (.int _ _), (.int _ _), (.int _ _)] Tryd.zeroValue25 Tryd.runUnderlying25 ⟨rfl, Tryd.sizeOf3, rfl, Tryd.sizeOf22, rfl, Tryd.sizeOf2, rfl, Tryd.sizeOf2, rfl, Tryd.sizeOf23, rfl, Tryd.sizeOf3, rfl, Tryd.sizeOf3, rfl, Tryd.sizeOf3, rfl, Tryd.sizeOf3, trivial⟩ rfl rfl) ?_
        refine t_store (v := (.agg _)) Tryd.sizeOf25 hS (by repeat first | exact .here _ _ | assumption | apply Pick.there) rfl rfl rfl rfl rfl rfl (fun w hS => ?_)
        refine t_q (q_assign) ?_
        refine t_nil ?_
        refine c_ret ?_
        refine r_two rfl (res1_cellN Tryd.isAgg25 Tryd.sizeOf25 rfl (hS.blk (by repeat first | exact .here _ _ | assumption | apply Pick.there)) rfl) rfl ?_
        rw [hD, t2]
        first
          | exact ⟨ruZ, rfl, ⟨none, 0, none, 0, t1.symm⟩, (((((((((hS.pick (A := blkA g2 25 _) (by repeat first | exact .here _ _ | assumption | apply Pick.there)).drop.pick (A := blkA g4 25 _) (by repeat first | exact .here _ _ | assumption | apply Pick.there)).drop.pick (A := rowA 40 2 At _ ct _) (by repeat first | exact .here _ _ | assumption | apply Pick.there)).drop.pick (A := rowA 42 3 Af _ cf _) (by repeat first | exact .here _ _ | assumption | apply Pick.there)).drop.nilrow 40 2).nilrow 42 3).pick (A := rowA 42 3 none 0 0 []) (by repeat first | exact .here _ _ | assumption | apply Pick.there)).pick (A := rowA 40 2 none 0 0 []) (by repeat first | exact .here _ _ | assumption | apply Pick.there)).pick (A := rdrA W 58 g s.fail) (by repeat first | exact .here _ _ | assumption | apply Pick.there))⟩
          | refine ⟨(ruV s At ct Af cf), ?_, ⟨At, ct, Af, cf, t1.symm⟩, ?_⟩
            · show Ending.returned (.tuple #[.agg _, .bool true]) = .returned (.tuple #[.agg (ruV s At ct Af cf).cells.toArray, .bool true])
              rw [show (ruV s At ct Af cf).cells = [.int .i64 (q0 s).1, .slice At (q2 s).1.length ct, .int .i64 (q3 s).1, .int .i64 (q4 s).1, .slice Af (q6 s).1.length cf, .int .i64 (q7 s).1, .int .i64 (q8 s).1, .int .i64 (q9 s).1, .int .i64 (q10 s).1] from rfl, hl2, hl6]
              try rfl
            · have h9 := (((((hS.pick (A := blkA g2 25 _) (by repeat first | exact .here _ _ | assumption | apply Pick.there)).drop.pick (A := blkA g4 25 _) (by repeat first | exact .here _ _ | assumption | apply Pick.there)).drop.pick (A := rowA 42 3 Af _ cf _) (by repeat first | exact .here _ _ | assumption | apply Pick.there)).pick (A := rowA 40 2 At _ ct _) (by repeat first | exact .here _ _ | assumption | apply Pick.there)).pick (A := rdrA W 58 g (q10 s).2) (by repeat first | exact .here _ _ | assumption | apply Pick.there))
              rw [← hl2, ← hl6] at h9
              exact h9
      · intro hg20
        refine t_yes rfl rfl hg20 ?_
        refine t_q (q_cast (v' := .agg (ruV s At ct Af cf).cells.toArray) (q_load_blk Tryd.isAgg25 Tryd.sizeOf25 rfl (hS.blk (by repeat first | exact .here _ _ | assumption | apply Pick.there)) rfl) (by rw [show (ruV s At ct Af cf).cells = [.int .i64 (q0 s).1, .slice At (q2 s).1.length ct, .int .i64 (q3 s).1, .int .i64 (q4 s).1, .slice Af (q6 s).1.length cf, .int .i64 (q7 s).1, .int .i64 (q8 s).1, .int .i64 (q9 s).1, .int .i64 (q10 s).1] from rfl, hl2, hl6]; try rfl)) ?_
        refine t_yes rfl rfl hg20 ?_
        refine t_call Tryd.call24 (qgoodr_calls (ruV_gd (A := At) (c := ct) (B := Af) (d := cf) (rowRdTk hS (A := At) (c := ct) (l := (q2 s).1) (by repeat first | exact .here _ _ | assumption | apply Pick.there) hl2.symm) (rowRdTr hS (A := Af) (c := cf) (l := (q6 s).1) (by repeat first | exact .here _ _ | assumption | apply Pick.there) hl6.symm))) rfl ?_
        rintro e w ⟨rfl, hT⟩
        refine ⟨_, rfl, ?_⟩
        replace hS := hS.after hT
        refine t_yes rfl rfl hg20 ?_
        refine t_q (q_not rfl) ?_
        refine t_q (q_pick_f rfl hg20) ?_
        refine t_nil ?_
        refine c_cond rfl ?_ ?_
        · intro hc23
          have hD : ruOk s = false := by
            first
              | exact ruOk_bad (by assumption)
              | exact ruOk_not (A := At) (c := ct) (B := Af) (d := cf) (bnt (by assumption))
          obtain ⟨t1, t2⟩ := ruT_no (A := none) (c := 0) (B := none) (d := 0) hD
          refine c_seq ?_
          refine c_region ?_
          refine t_q (q_mv (.pointer _) rfl) ?_
          refine t_call Tryd.call61 (qFail ((hS.pick (A := blkA g 58 _) (by repeat first | exact .here _ _ | assumption | apply Pick.there)).unrdr rfl rfl hRr hcr) (.here _ _)) rfl ?_
          rintro e w ⟨rfl, hS⟩
          refine ⟨_, rfl, ?_⟩
          replace hS := hS.recast (show _ = rdrA W 58 g s.fail from rfl)
          refine t_nil ?_
          refine c_seq ?_
          refine c_region ?_
          refine t_q (q_build (qs := [(0, 1), (1, 1), (2, 1), (3, 1), (4, 1), (5, 1), (6, 1), (7, 1), (8, 1)]) [(.int _ _), (.slice _ _ _), (.int _ _), (.int _ _), (.slice _ _ _), (.int _ _), (.int _ _), (.int _ _), (.int _ _)] Tryd.zeroValue25 Tryd.runUnderlying25 ⟨rfl, Tryd.sizeOf3, rfl, Tryd.sizeOf22, rfl, Tryd.sizeOf2, rfl, Tryd.sizeOf2, rfl, Tryd.sizeOf23, rfl, Tryd.sizeOf3, rfl, Tryd.sizeOf3, rfl, Tryd.sizeOf3, rfl, Tryd.sizeOf3, trivial⟩ rfl rfl) ?_
          refine t_store (v := (.agg _)) Tryd.sizeOf25 hS (by repeat first | exact .here _ _ | assumption | apply Pick.there) rfl rfl rfl rfl rfl rfl (fun w hS => ?_)
          refine t_q (q_assign) ?_
          refine t_nil ?_
          refine c_ret ?_
          refine r_two rfl (res1_cellN Tryd.isAgg25 Tryd.sizeOf25 rfl (hS.blk (by repeat first | exact .here _ _ | assumption | apply Pick.there)) rfl) rfl ?_
          rw [hD, t2]
          first
            | exact ⟨ruZ, rfl, ⟨none, 0, none, 0, t1.symm⟩, (((((((((hS.pick (A := blkA g2 25 _) (by repeat first | exact .here _ _ | assumption | apply Pick.there)).drop.pick (A := blkA g4 25 _) (by repeat first | exact .here _ _ | assumption | apply Pick.there)).drop.pick (A := rowA 40 2 At _ ct _) (by repeat first | exact .here _ _ | assumption | apply Pick.there)).drop.pick (A := rowA 42 3 Af _ cf _) (by repeat first | exact .here _ _ | assumption | apply Pick.there)).drop.nilrow 40 2).nilrow 42 3).pick (A := rowA 42 3 none 0 0 []) (by repeat first | exact .here _ _ | assumption | apply Pick.there)).pick (A := rowA 40 2 none 0 0 []) (by repeat first | exact .here _ _ | assumption | apply Pick.there)).pick (A := rdrA W 58 g s.fail) (by repeat first | exact .here _ _ | assumption | apply Pick.there))⟩
            | refine ⟨(ruV s At ct Af cf), ?_, ⟨At, ct, Af, cf, t1.symm⟩, ?_⟩
              · show Ending.returned (.tuple #[.agg _, .bool true]) = .returned (.tuple #[.agg (ruV s At ct Af cf).cells.toArray, .bool true])
                rw [show (ruV s At ct Af cf).cells = [.int .i64 (q0 s).1, .slice At (q2 s).1.length ct, .int .i64 (q3 s).1, .int .i64 (q4 s).1, .slice Af (q6 s).1.length cf, .int .i64 (q7 s).1, .int .i64 (q8 s).1, .int .i64 (q9 s).1, .int .i64 (q10 s).1] from rfl, hl2, hl6]
                try rfl
              · have h9 := (((((hS.pick (A := blkA g2 25 _) (by repeat first | exact .here _ _ | assumption | apply Pick.there)).drop.pick (A := blkA g4 25 _) (by repeat first | exact .here _ _ | assumption | apply Pick.there)).drop.pick (A := rowA 42 3 Af _ cf _) (by repeat first | exact .here _ _ | assumption | apply Pick.there)).pick (A := rowA 40 2 At _ ct _) (by repeat first | exact .here _ _ | assumption | apply Pick.there)).pick (A := rdrA W 58 g (q10 s).2) (by repeat first | exact .here _ _ | assumption | apply Pick.there))
                rw [← hl2, ← hl6] at h9
                exact h9
        · intro hc23
          have hD : ruOk s = true := ruOk_yes (A := At) (c := ct) (B := Af) (d := cf) (by assumption) (bnf (by assumption))
          obtain ⟨t1, t2⟩ := ruT_yes (A := At) (c := ct) (B := Af) (d := cf) hD
          replace hS := (hS.pick (A := blkA g 58 _) (by repeat first | exact .here _ _ | assumption | apply Pick.there)).unrdr (s := (q10 s).2) rfl rfl hRr hcr
          refine c_skip ?_
          refine c_seq ?_
          refine c_region ?_
          refine t_q (q_load_blk Tryd.isAgg25 Tryd.sizeOf25 rfl (hS.blk (by repeat first | exact .here _ _ | assumption | apply Pick.there)) rfl) ?_
          refine t_store (v := (.agg _)) Tryd.sizeOf25 hS (by repeat first | exact .here _ _ | assumption | apply Pick.there) rfl rfl rfl rfl rfl rfl (fun w hS => ?_)
          refine t_q (q_assign) ?_
          refine t_nil ?_
          refine c_ret ?_
          refine r_two rfl (res1_cellN Tryd.isAgg25 Tryd.sizeOf25 rfl (hS.blk (by repeat first | exact .here _ _ | assumption | apply Pick.there)) rfl) rfl ?_
          rw [hD, t2]
          first
            | exact ⟨ruZ, rfl, ⟨none, 0, none, 0, t1.symm⟩, (((((((((hS.pick (A := blkA g2 25 _) (by repeat first | exact .here _ _ | assumption | apply Pick.there)).drop.pick (A := blkA g4 25 _) (by repeat first | exact .here _ _ | assumption | apply Pick.there)).drop.pick (A := rowA 40 2 At _ ct _) (by repeat first | exact .here _ _ | assumption | apply Pick.there)).drop.pick (A := rowA 42 3 Af _ cf _) (by repeat first | exact .here _ _ | assumption | apply Pick.there)).drop.nilrow 40 2).nilrow 42 3).pick (A := rowA 42 3 none 0 0 []) (by repeat first | exact .here _ _ | assumption | apply Pick.there)).pick (A := rowA 40 2 none 0 0 []) (by repeat first | exact .here _ _ | assumption | apply Pick.there)).pick (A := rdrA W 58 g s.fail) (by repeat first | exact .here _ _ | assumption | apply Pick.there))⟩
            | refine ⟨(ruV s At ct Af cf), ?_, ⟨At, ct, Af, cf, t1.symm⟩, ?_⟩
              · show Ending.returned (.tuple #[.agg _, .bool true]) = .returned (.tuple #[.agg (ruV s At ct Af cf).cells.toArray, .bool true])
                rw [show (ruV s At ct Af cf).cells = [.int .i64 (q0 s).1, .slice At (q2 s).1.length ct, .int .i64 (q3 s).1, .int .i64 (q4 s).1, .slice Af (q6 s).1.length cf, .int .i64 (q7 s).1, .int .i64 (q8 s).1, .int .i64 (q9 s).1, .int .i64 (q10 s).1] from rfl, hl2, hl6]
                try rfl
              · have h9 := (((((hS.pick (A := blkA g2 25 _) (by repeat first | exact .here _ _ | assumption | apply Pick.there)).drop.pick (A := blkA g4 25 _) (by repeat first | exact .here _ _ | assumption | apply Pick.there)).drop.pick (A := rowA 42 3 Af _ cf _) (by repeat first | exact .here _ _ | assumption | apply Pick.there)).pick (A := rowA 40 2 At _ ct _) (by repeat first | exact .here _ _ | assumption | apply Pick.there)).pick (A := rdrA W 58 g (q10 s).2) (by repeat first | exact .here _ _ | assumption | apply Pick.there))
                rw [← hl2, ← hl6] at h9
                exact h9
end Go.Proofs.YtmgobaojioaioaaDoor
