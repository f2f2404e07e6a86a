/- Commands read from bytes. -/
import Derived.Test.YtmgobaojioaioaaVg
import Derived.Test.YtmgobaojioaioaaVd
namespace Go.Proofs.Ytmgobaojioaioaa
open Go Go.RowKit Go.Lib
variable {W : World}
attribute [local irreducible] blkA rowA rdrA Rs.nat Rs.int c0 c1 c2 c3 c4 c5 c6 c7 c8 c9 c10 c11 c12 c13 cv
set_option maxHeartbeats 16000000 in
set_option maxRecDepth 100000 in
theorem cread_calls {A : Option Addr} {c : Nat} {bs : List UInt8} (hR : RdB W A bs) (hc : bs.length ≤ c ∧ bs.length ≤ 9223372036854775807) : Calls Try.prog 45 #[.slice A bs.length c] W fun e w' => ∃ (x : CmdV) (er : Int), e = .returned (.tuple #[.agg x.cells.toArray, .int .i64 er]) ∧ CmBy x ∧ OutC bs x er ∧ St W w' [rdsA (cmR x)] := by
  have hS := St.init W
  obtain ⟨s, hs⟩ : ∃ s : Rs, s = ⟨bs, false⟩ := ⟨_, rfl⟩
  have hn0 : (c0 s).1 ≤ 15 := c0_le s
  refine calls_of_wpE (args := [_]) Try.func45 rfl rfl rfl ?_
  refine c_seq ?_
  refine c_region ?_
  refine t_alloc Try.zeroValue49 rfl hS (fun g2 w hS => ?_)
  refine t_q (q_assign) ?_
  refine t_nil ?_
  refine c_seq ?_
  refine c_seq ?_
  refine c_region ?_
  refine t_q (q_mv (.slice _ _ _) rfl) ?_
  refine t_q (q_len_slice Try.runUnderlying74 rfl) ?_
  refine t_q (q_gtr rfl rfl) ?_
  refine t_nil ?_
  refine c_cond rfl ?_ ?_
  · intro hc2
    have hc2d := of_decide_eq_true hc2
    have hlen := hc2
    refine c_seq ?_
    refine c_region ?_
    refine t_q (q_build (qs := [(0, 1), (1, 1), (2, 1), (3, 1), (4, 1), (5, 1), (6, 1), (7, 1), (8, 1), (9, 1), (10, 1), (11, 1), (12, 1), (13, 9)]) [(.int _ _), (.int _ _), (.int _ _), (.int _ _), (.int _ _), (.int _ _), (.int _ _), (.int _ _), (.int _ _), (.int _ _), (.int _ _), (.int _ _), (.int _ _), (.int _ _), (.slice _ _ _), (.int _ _), (.int _ _), (.slice _ _ _), (.int _ _), (.int _ _), (.int _ _), (.int _ _)] Try.zeroValue49 Try.runUnderlying49 ⟨rfl, Try.sizeOf3, rfl, Try.sizeOf26, rfl, Try.sizeOf26, rfl, Try.sizeOf3, rfl, Try.sizeOf26, rfl, Try.sizeOf3, rfl, Try.sizeOf3, rfl, Try.sizeOf3, rfl, Try.sizeOf2, rfl, Try.sizeOf2, rfl, Try.sizeOf3, rfl, Try.sizeOf3, rfl, Try.sizeOf26, rfl, Try.sizeOf47, trivial⟩ rfl rfl) ?_
    refine t_store (v := (.agg _)) Try.sizeOf49 hS (by repeat first | exact .here _ _ | assumption | apply Pick.there) rfl rfl rfl rfl rfl rfl (fun w hS => ?_)
    replace hS := hS.recast (congrArg (blkA g2 49) (setN_full (vs := zC.cells) (cmd_len zC).symm))
    refine t_q (q_assign) ?_
    refine t_nil ?_
    refine c_ret ?_
    refine r_two rfl (res1_cellN Try.isAgg49 Try.sizeOf49 rfl (hS.blk (by repeat first | exact .here _ _ | assumption | apply Pick.there)) rfl) rfl ?_
    first
      | exact ⟨zC, 21, rfl, zC_by, outC_big (by omega), zC_rds hS⟩
      | exact ⟨zC, 20, rfl, zC_by, hD, zC_rds hS⟩
      | exact ⟨mkC s r, 0, rfl, mkC_by hr, hD, mkC_rds hS (by repeat first | exact .here _ _ | assumption | apply Pick.there) (by repeat first | exact .here _ _ | assumption | apply Pick.there)⟩
  · intro hc2
    have hc2d := of_decide_eq_false hc2
    refine c_skip ?_
    refine c_seq ?_
    refine c_region ?_
    refine t_q (q_mv (.slice _ _ _) rfl) ?_
    refine t_call Try.call33 (Open_calls hS hR (by omega)) rfl ?_
    rintro e w ⟨g, rfl, hS⟩
    refine ⟨_, rfl, ?_⟩
    replace hS := hS.recast (show _ = rdrA W 149 g s from by rw [hs])
    refine t_alloc Try.zeroValue79 rfl hS (fun g4 w hS => ?_)
    refine t_store (v := (.pointer _)) Try.sizeOf79 hS (by repeat first | exact .here _ _ | assumption | apply Pick.there) rfl rfl rfl rfl rfl rfl (fun w hS => ?_)
    refine t_nil ?_
    refine c_cut [5, 15, 16, 17, 18, 19, 20, 21, 22] (fun σ w => ∃ g5 : Nat, σ 5 = .pointer (some ⟨g5, 0, none⟩) ∧ St W w [rdrA W 149 g (c2 s).2, blkA g5 49 [.int .i64 (((c0 s).1 : Nat) : Int), .int .u64 (((c1 s).1 : Nat) : Int), .int .u64 (((c2 s).1 : Nat) : Int), .int .i64 0, .int .u64 0, .int .i64 0, .int .i64 0, .int .i64 0, .int .i64 0, .int .i64 0, .int .i64 0, .int .i64 0, .int .u64 0, .int .i64 0, .slice none 0 0, .int .i64 0, .int .i64 0, .slice none 0 0, .int .i64 0, .int .i64 0, .int .i64 0, .int .i64 0], blkA g4 79 [.pointer (some ⟨g, 0, none⟩)], blkA g2 49 [.int .i64 0, .int .u64 0, .int .u64 0, .int .i64 0, .int .u64 0, .int .i64 0, .int .i64 0, .int .i64 0, .int .i64 0, .int .i64 0, .int .i64 0, .int .i64 0, .int .u64 0, .int .i64 0, .slice none 0 0, .int .i64 0, .int .i64 0, .slice none 0 0, .int .i64 0, .int .i64 0, .int .i64 0, .int .i64 0]]) rfl ?_ ?_
    ·
      refine c_draw ?_
      refine d_keep (blkA g4 79 [.pointer (some ⟨g, 0, none⟩)]) 10 [0, 1, 2, 3, 4, 5, 6, 7, 8, 9] [0, 1, 2, 3, 4, 5, 6, 7, 8, 9] hS rfl (by kernel_rfl) (by kernel_rfl) (by kernel_rfl) (by kernel_rfl) (fun hap hsel w hS => ?_)
      refine p_q hap hsel 0 rfl rfl ⟨_, hS.pick (by repeat first | exact .here _ _ | assumption | apply Pick.there)⟩ (fun w hI => q_load1 Try.isAgg79 rfl (hI.choose_spec.cell (by repeat first | exact .here _ _ | assumption | apply Pick.there) rfl)) ?_
      refine p_q hap hsel 3 rfl rfl ⟨_, hS.pick (by repeat first | exact .here _ _ | assumption | apply Pick.there)⟩ (fun w hI => q_load1 Try.isAgg79 rfl (hI.choose_spec.cell (by repeat first | exact .here _ _ | assumption | apply Pick.there) rfl)) ?_
      refine p_q hap hsel 5 rfl rfl ⟨_, hS.pick (by repeat first | exact .here _ _ | assumption | apply Pick.there)⟩ (fun w hI => q_load1 Try.isAgg79 rfl (hI.choose_spec.cell (by repeat first | exact .here _ _ | assumption | apply Pick.there) rfl)) ?_
      refine p_two 1 8 rfl rfl (by kernel_rfl) ?_ ?_
      ·
        refine t_call Try.call89 (crn0 (s := s) hS (by repeat first | exact .here _ _ | assumption | apply Pick.there)) rfl ?_
        rintro e w ⟨rfl, hS⟩
        refine ⟨_, rfl, ?_⟩
        refine t_nil ?_
        refine ⟨.inr ⟨_, hS.pick (by repeat first | exact .here _ _ | assumption | apply Pick.there)⟩, ?_⟩
        refine p_q hap hsel 2 rfl rfl ⟨_, hS.pick (by repeat first | exact .here _ _ | assumption | apply Pick.there)⟩ (fun w hI => q_conv_i64 Try.runUnderlying26 Try.runUnderlying3 rfl (by omega)) ?_
        refine p_two 4 8 rfl rfl (by kernel_rfl) ?_ ?_
        ·
          refine t_call Try.call89 (crn1 (s := s) hS (by repeat first | exact .here _ _ | assumption | apply Pick.there)) rfl ?_
          rintro e w ⟨rfl, hS⟩
          refine ⟨_, rfl, ?_⟩
          refine t_nil ?_
          refine ⟨.inr ⟨_, hS.pick (by repeat first | exact .here _ _ | assumption | apply Pick.there)⟩, ?_⟩
          refine p_two 6 8 rfl rfl (by kernel_rfl) ?_ ?_
          ·
            refine t_call Try.call89 (crn2 (s := s) hS (by repeat first | exact .here _ _ | assumption | apply Pick.there)) rfl ?_
            rintro e w ⟨rfl, hS⟩
            refine ⟨_, rfl, ?_⟩
            refine t_nil ?_
            refine ⟨.inr ⟨_, hS.pick (by repeat first | exact .here _ _ | assumption | apply Pick.there)⟩, ?_⟩
            refine p_q hap hsel 7 rfl rfl ⟨_, hS.pick (by repeat first | exact .here _ _ | assumption | apply Pick.there)⟩ (fun w hI => q_build (qs := [(0, 1), (1, 1), (2, 1), (3, 1), (4, 1), (5, 1), (6, 1), (7, 1), (8, 1), (9, 1), (10, 1), (11, 1), (12, 1), (13, 9)]) [.int .i64 (((c0 s).1 : Nat) : Int), .int .u64 (((c1 s).1 : Nat) : Int), .int .u64 (((c2 s).1 : Nat) : Int), .int .i64 0, .int .u64 0, .int .i64 0, .int .i64 0, .int .i64 0, .int .i64 0, .int .i64 0, .int .i64 0, .int .i64 0, .int .u64 0, .int .i64 0, .slice none 0 0, .int .i64 0, .int .i64 0, .slice none 0 0, .int .i64 0, .int .i64 0, .int .i64 0, .int .i64 0] Try.zeroValue49 Try.runUnderlying49 ⟨rfl, Try.sizeOf3, rfl, Try.sizeOf26, rfl, Try.sizeOf26, rfl, Try.sizeOf3, rfl, Try.sizeOf26, rfl, Try.sizeOf3, rfl, Try.sizeOf3, rfl, Try.sizeOf3, rfl, Try.sizeOf2, rfl, Try.sizeOf2, rfl, Try.sizeOf3, rfl, Try.sizeOf3, rfl, Try.sizeOf26, rfl, Try.sizeOf47, trivial⟩ rfl rfl) ?_
            refine p_one 8 rfl (by kernel_rfl) ?_
            refine t_alloc Try.zeroValue49 rfl hS (fun g5 w hS => ?_)
            refine t_nil ?_
            refine ⟨.inr ⟨_, hS.pick (by repeat first | exact .here _ _ | assumption | apply Pick.there)⟩, ?_⟩
            refine p_one 9 rfl (by kernel_rfl) ?_
            refine t_store (v := (.agg _)) Try.sizeOf49 hS (by repeat first | exact .here _ _ | assumption | apply Pick.there) rfl rfl rfl rfl rfl rfl (fun w hS => ?_)
            replace hS := hS.recast (congrArg (blkA g5 49) (setN_full (vs := [.int .i64 (((c0 s).1 : Nat) : Int), .int .u64 (((c1 s).1 : Nat) : Int), .int .u64 (((c2 s).1 : Nat) : Int), .int .i64 0, .int .u64 0, .int .i64 0, .int .i64 0, .int .i64 0, .int .i64 0, .int .i64 0, .int .i64 0, .int .i64 0, .int .u64 0, .int .i64 0, .slice none 0 0, .int .i64 0, .int .i64 0, .slice none 0 0, .int .i64 0, .int .i64 0, .int .i64 0, .int .i64 0]) rfl))
            refine t_nil ?_
            refine ⟨.inl (by kernel_rfl), ?_⟩
            refine p_end (by kernel_rfl) ?_
            exact ⟨g5, rfl, ((((hS.pick (A := blkA g2 49 [.int .i64 0, .int .u64 0, .int .u64 0, .int .i64 0, .int .u64 0, .int .i64 0, .int .i64 0, .int .i64 0, .int .i64 0, .int .i64 0, .int .i64 0, .int .i64 0, .int .u64 0, .int .i64 0, .slice none 0 0, .int .i64 0, .int .i64 0, .slice none 0 0, .int .i64 0, .int .i64 0, .int .i64 0, .int .i64 0]) (by repeat first | exact .here _ _ | assumption | apply Pick.there)).pick (A := blkA g4 79 [.pointer (some ⟨g, 0, none⟩)]) (by repeat first | exact .here _ _ | assumption | apply Pick.there)).pick (A := blkA g5 49 _) (by repeat first | exact .here _ _ | assumption | apply Pick.there)).pick (A := rdrA W 149 g _) (by repeat first | exact .here _ _ | assumption | apply Pick.there)).front4⟩
          ·
            refine t_alloc Try.zeroValue49 rfl hS (fun g5 w hS => ?_)
            refine t_nil ?_
            refine ⟨.inr ⟨_, hS.pick (by repeat first | exact .here _ _ | assumption | apply Pick.there)⟩, ?_⟩
            refine p_one 6 rfl (by kernel_rfl) ?_
            refine t_call Try.call89 (crn2 (s := s) hS (by repeat first | exact .here _ _ | assumption | apply Pick.there)) rfl ?_
            rintro e w ⟨rfl, hS⟩
            refine ⟨_, rfl, ?_⟩
            refine t_nil ?_
            refine ⟨.inr ⟨_, hS.pick (by repeat first | exact .here _ _ | assumption | apply Pick.there)⟩, ?_⟩
            refine p_q hap hsel 7 rfl rfl ⟨_, hS.pick (by repeat first | exact .here _ _ | assumption | apply Pick.there)⟩ (fun w hI => q_build (qs := [(0, 1), (1, 1), (2, 1), (3, 1), (4, 1), (5, 1), (6, 1), (7, 1), (8, 1), (9, 1), (10, 1), (11, 1), (12, 1), (13, 9)]) [.int .i64 (((c0 s).1 : Nat) : Int), .int .u64 (((c1 s).1 : Nat) : Int), .int .u64 (((c2 s).1 : Nat) : Int), .int .i64 0, .int .u64 0, .int .i64 0, .int .i64 0, .int .i64 0, .int .i64 0, .int .i64 0, .int .i64 0, .int .i64 0, .int .u64 0, .int .i64 0, .slice none 0 0, .int .i64 0, .int .i64 0, .slice none 0 0, .int .i64 0, .int .i64 0, .int .i64 0, .int .i64 0] Try.zeroValue49 Try.runUnderlying49 ⟨rfl, Try.sizeOf3, rfl, Try.sizeOf26, rfl, Try.sizeOf26, rfl, Try.sizeOf3, rfl, Try.sizeOf26, rfl, Try.sizeOf3, rfl, Try.sizeOf3, rfl, Try.sizeOf3, rfl, Try.sizeOf2, rfl, Try.sizeOf2, rfl, Try.sizeOf3, rfl, Try.sizeOf3, rfl, Try.sizeOf26, rfl, Try.sizeOf47, trivial⟩ rfl rfl) ?_
            refine p_one 9 rfl (by kernel_rfl) ?_
            refine t_store (v := (.agg _)) Try.sizeOf49 hS (by repeat first | exact .here _ _ | assumption | apply Pick.there) rfl rfl rfl rfl rfl rfl (fun w hS => ?_)
            replace hS := hS.recast (congrArg (blkA g5 49) (setN_full (vs := [.int .i64 (((c0 s).1 : Nat) : Int), .int .u64 (((c1 s).1 : Nat) : Int), .int .u64 (((c2 s).1 : Nat) : Int), .int .i64 0, .int .u64 0, .int .i64 0, .int .i64 0, .int .i64 0, .int .i64 0, .int .i64 0, .int .i64 0, .int .i64 0, .int .u64 0, .int .i64 0, .slice none 0 0, .int .i64 0, .int .i64 0, .slice none 0 0, .int .i64 0, .int .i64 0, .int .i64 0, .int .i64 0]) rfl))
            refine t_nil ?_
            refine ⟨.inl (by kernel_rfl), ?_⟩
            refine p_end (by kernel_rfl) ?_
            exact ⟨g5, rfl, ((((hS.pick (A := blkA g2 49 [.int .i64 0, .int .u64 0, .int .u64 0, .int .i64 0, .int .u64 0, .int .i64 0, .int .i64 0, .int .i64 0, .int .i64 0, .int .i64 0, .int .i64 0, .int .i64 0, .int .u64 0, .int .i64 0, .slice none 0 0, .int .i64 0, .int .i64 0, .slice none 0 0, .int .i64 0, .int .i64 0, .int .i64 0, .int .i64 0]) (by repeat first | exact .here _ _ | assumption | apply Pick.there)).pick (A := blkA g4 79 [.pointer (some ⟨g, 0, none⟩)]) (by repeat first | exact .here _ _ | assumption | apply Pick.there)).pick (A := blkA g5 49 _) (by repeat first | exact .here _ _ | assumption | apply Pick.there)).pick (A := rdrA W 149 g _) (by repeat first | exact .here _ _ | assumption | apply Pick.there)).front4⟩
        ·
          refine t_alloc Try.zeroValue49 rfl hS (fun g5 w hS => ?_)
          refine t_nil ?_
          refine ⟨.inr ⟨_, hS.pick (by repeat first | exact .here _ _ | assumption | apply Pick.there)⟩, ?_⟩
          refine p_one 4 rfl (by kernel_rfl) ?_
          refine t_call Try.call89 (crn1 (s := s) hS (by repeat first | exact .here _ _ | assumption | apply Pick.there)) rfl ?_
          rintro e w ⟨rfl, hS⟩
          refine ⟨_, rfl, ?_⟩
          refine t_nil ?_
          refine ⟨.inr ⟨_, hS.pick (by repeat first | exact .here _ _ | assumption | apply Pick.there)⟩, ?_⟩
          refine p_one 6 rfl (by kernel_rfl) ?_
          refine t_call Try.call89 (crn2 (s := s) hS (by repeat first | exact .here _ _ | assumption | apply Pick.there)) rfl ?_
          rintro e w ⟨rfl, hS⟩
          refine ⟨_, rfl, ?_⟩
          refine t_nil ?_
          refine ⟨.inr ⟨_, hS.pick (by repeat first | exact .here _ _ | assumption | apply Pick.there)⟩, ?_⟩
          refine p_q hap hsel 7 rfl rfl ⟨_, hS.pick (by repeat first | exact .here _ _ | assumption | apply Pick.there)⟩ (fun w hI => q_build (qs := [(0, 1), (1, 1), (2, 1), (3, 1), (4, 1), (5, 1), (6, 1), (7, 1), (8, 1), (9, 1), (10, 1), (11, 1), (12, 1), (13, 9)]) [.int .i64 (((c0 s).1 : Nat) : Int), .int .u64 (((c1 s).1 : Nat) : Int), .int .u64 (((c2 s).1 : Nat) : Int), .int .i64 0, .int .u64 0, .int .i64 0, .int .i64 0, .int .i64 0, .int .i64 0, .int .i64 0, .int .i64 0, .int .i64 0, .int .u64 0, .int .i64 0, .slice none 0 0, .int .i64 0, .int .i64 0, .slice none 0 0, .int .i64 0, .int .i64 0, .int .i64 0, .int .i64 0] Try.zeroValue49 Try.runUnderlying49 ⟨rfl, Try.sizeOf3, rfl, Try.sizeOf26, rfl, Try.sizeOf26, rfl, Try.sizeOf3, rfl, Try.sizeOf26, rfl, Try.sizeOf3, rfl, Try.sizeOf3, rfl, Try.sizeOf3, rfl, Try.sizeOf2, rfl, Try.sizeOf2, rfl, Try.sizeOf3, rfl, Try.sizeOf3, rfl, Try.sizeOf26, rfl, Try.sizeOf47, trivial⟩ rfl rfl) ?_
          refine p_one 9 rfl (by kernel_rfl) ?_
          refine t_store (v := (.agg _)) Try.sizeOf49 hS (by repeat first | exact .here _ _ | assumption | apply Pick.there) rfl rfl rfl rfl rfl rfl (fun w hS => ?_)
          replace hS := hS.recast (congrArg (blkA g5 49) (setN_full (vs := [.int .i64 (((c0 s).1 : Nat) : Int), .int .u64 (((c1 s).1 : Nat) : Int), .int .u64 (((c2 s).1 : Nat) : Int), .int .i64 0, .int .u64 0, .int .i64 0, .int .i64 0, .int .i64 0, .int .i64 0, .int .i64 0, .int .i64 0, .int .i64 0, .int .u64 0, .int .i64 0, .slice none 0 0, .int .i64 0, .int .i64 0, .slice none 0 0, .int .i64 0, .int .i64 0, .int .i64 0, .int .i64 0]) rfl))
          refine t_nil ?_
          refine ⟨.inl (by kernel_rfl), ?_⟩
          refine p_end (by kernel_rfl) ?_
          exact ⟨g5, rfl, ((((hS.pick (A := blkA g2 49 [.int .i64 0, .int .u64 0, .int .u64 0, .int .i64 0, .int .u64 0, .int .i64 0, .int .i64 0, .int .i64 0, .int .i64 0, .int .i64 0, .int .i64 0, .int .i64 0, .int .u64 0, .int .i64 0, .slice none 0 0, .int .i64 0, .int .i64 0, .slice none 0 0, .int .i64 0, .int .i64 0, .int .i64 0, .int .i64 0]) (by repeat first | exact .here _ _ | assumption | apply Pick.there)).pick (A := blkA g4 79 [.pointer (some ⟨g, 0, none⟩)]) (by repeat first | exact .here _ _ | assumption | apply Pick.there)).pick (A := blkA g5 49 _) (by repeat first | exact .here _ _ | assumption | apply Pick.there)).pick (A := rdrA W 149 g _) (by repeat first | exact .here _ _ | assumption | apply Pick.there)).front4⟩
      ·
        refine t_alloc Try.zeroValue49 rfl hS (fun g5 w hS => ?_)
        refine t_nil ?_
        refine ⟨.inr ⟨_, hS.pick (by repeat first | exact .here _ _ | assumption | apply Pick.there)⟩, ?_⟩
        refine p_one 1 rfl (by kernel_rfl) ?_
        refine t_call Try.call89 (crn0 (s := s) hS (by repeat first | exact .here _ _ | assumption | apply Pick.there)) rfl ?_
        rintro e w ⟨rfl, hS⟩
        refine ⟨_, rfl, ?_⟩
        refine t_nil ?_
        refine ⟨.inr ⟨_, hS.pick (by repeat first | exact .here _ _ | assumption | apply Pick.there)⟩, ?_⟩
        refine p_q hap hsel 2 rfl rfl ⟨_, hS.pick (by repeat first | exact .here _ _ | assumption | apply Pick.there)⟩ (fun w hI => q_conv_i64 Try.runUnderlying26 Try.runUnderlying3 rfl (by omega)) ?_
        refine p_one 4 rfl (by kernel_rfl) ?_
        refine t_call Try.call89 (crn1 (s := s) hS (by repeat first | exact .here _ _ | assumption | apply Pick.there)) rfl ?_
        rintro e w ⟨rfl, hS⟩
        refine ⟨_, rfl, ?_⟩
        refine t_nil ?_
        refine ⟨.inr ⟨_, hS.pick (by repeat first | exact .here _ _ | assumption | apply Pick.there)⟩, ?_⟩
        refine p_one 6 rfl (by kernel_rfl) ?_
        refine t_call Try.call89 (crn2 (s := s) hS (by repeat first | exact .here _ _ | assumption | apply Pick.there)) rfl ?_
        rintro e w ⟨rfl, hS⟩
        refine ⟨_, rfl, ?_⟩
        refine t_nil ?_
        refine ⟨.inr ⟨_, hS.pick (by repeat first | exact .here _ _ | assumption | apply Pick.there)⟩, ?_⟩
        refine p_q hap hsel 7 rfl rfl ⟨_, hS.pick (by repeat first | exact .here _ _ | assumption | apply Pick.there)⟩ (fun w hI => q_build (qs := [(0, 1), (1, 1), (2, 1), (3, 1), (4, 1), (5, 1), (6, 1), (7, 1), (8, 1), (9, 1), (10, 1), (11, 1), (12, 1), (13, 9)]) [.int .i64 (((c0 s).1 : Nat) : Int), .int .u64 (((c1 s).1 : Nat) : Int), .int .u64 (((c2 s).1 : Nat) : Int), .int .i64 0, .int .u64 0, .int .i64 0, .int .i64 0, .int .i64 0, .int .i64 0, .int .i64 0, .int .i64 0, .int .i64 0, .int .u64 0, .int .i64 0, .slice none 0 0, .int .i64 0, .int .i64 0, .slice none 0 0, .int .i64 0, .int .i64 0, .int .i64 0, .int .i64 0] Try.zeroValue49 Try.runUnderlying49 ⟨rfl, Try.sizeOf3, rfl, Try.sizeOf26, rfl, Try.sizeOf26, rfl, Try.sizeOf3, rfl, Try.sizeOf26, rfl, Try.sizeOf3, rfl, Try.sizeOf3, rfl, Try.sizeOf3, rfl, Try.sizeOf2, rfl, Try.sizeOf2, rfl, Try.sizeOf3, rfl, Try.sizeOf3, rfl, Try.sizeOf26, rfl, Try.sizeOf47, trivial⟩ rfl rfl) ?_
        refine p_one 9 rfl (by kernel_rfl) ?_
        refine t_store (v := (.agg _)) Try.sizeOf49 hS (by repeat first | exact .here _ _ | assumption | apply Pick.there) rfl rfl rfl rfl rfl rfl (fun w hS => ?_)
        replace hS := hS.recast (congrArg (blkA g5 49) (setN_full (vs := [.int .i64 (((c0 s).1 : Nat) : Int), .int .u64 (((c1 s).1 : Nat) : Int), .int .u64 (((c2 s).1 : Nat) : Int), .int .i64 0, .int .u64 0, .int .i64 0, .int .i64 0, .int .i64 0, .int .i64 0, .int .i64 0, .int .i64 0, .int .i64 0, .int .u64 0, .int .i64 0, .slice none 0 0, .int .i64 0, .int .i64 0, .slice none 0 0, .int .i64 0, .int .i64 0, .int .i64 0, .int .i64 0]) rfl))
        refine t_nil ?_
        refine ⟨.inl (by kernel_rfl), ?_⟩
        refine p_end (by kernel_rfl) ?_
        exact ⟨g5, rfl, ((((hS.pick (A := blkA g2 49 [.int .i64 0, .int .u64 0, .int .u64 0, .int .i64 0, .int .u64 0, .int .i64 0, .int .i64 0, .int .i64 0, .int .i64 0, .int .i64 0, .int .i64 0, .int .i64 0, .int .u64 0, .int .i64 0, .slice none 0 0, .int .i64 0, .int .i64 0, .slice none 0 0, .int .i64 0, .int .i64 0, .int .i64 0, .int .i64 0]) (by repeat first | exact .here _ _ | assumption | apply Pick.there)).pick (A := blkA g4 79 [.pointer (some ⟨g, 0, none⟩)]) (by repeat first | exact .here _ _ | assumption | apply Pick.there)).pick (A := blkA g5 49 _) (by repeat first | exact .here _ _ | assumption | apply Pick.there)).pick (A := rdrA W 149 g _) (by repeat first | exact .here _ _ | assumption | apply Pick.there)).front4⟩
    ·
      rintro σ w ⟨g5, h5, hS⟩
      refine c_know 5 h5 ?_
      refine c_seq ?_
      refine c_region ?_
      refine t_q (q_fieldAddr 0 Try.runUnderlying49 rfl Try.sizeOf3 (by decide) rfl rfl) ?_
      refine t_q (q_load1 Try.isAgg3 rfl (hS.cell (by repeat first | exact .here _ _ | assumption | apply Pick.there) rfl)) ?_
      refine t_call Try.call92 (cfields_calls (n := (((c0 s).1 : Nat) : Int))) rfl ?_
      rintro e w ⟨rfl, hT⟩
      refine ⟨_, rfl, ?_⟩
      replace hS := hS.after hT
      refine t_q (q_mv (.tuple _) rfl) ?_
      refine t_q (q_extract rfl rfl) ?_
      refine t_q (q_extract rfl rfl) ?_
      refine t_alloc Try.zeroValue3 rfl hS (fun g6 w hS => ?_)
      refine t_store (v := (.int _ _)) Try.sizeOf3 hS (by repeat first | exact .here _ _ | assumption | apply Pick.there) rfl rfl rfl rfl rfl rfl (fun w hS => ?_)
      replace hS := hS.recast (show blkA g6 3 _ = blkA g6 3 [.int .i64 (cv s)] from by unfold cv; rfl)
      refine t_q (q_as (.bool _) rfl) ?_
      refine t_nil ?_
      refine c_seq ?_
      refine c_region ?_
      refine t_q (q_makeFunc rfl) ?_
      refine t_q (q_as (.func _ _ _) rfl) ?_
      refine t_nil ?_
      refine c_seq ?_
      refine c_region ?_
      refine t_q (q_mv (.func _ _ _) rfl) ?_
      refine t_callv Try.call96 rfl (crd3 (s := s) (((hS.pick (A := blkA g4 79 [.pointer (some ⟨g, 0, none⟩)]) (by repeat first | exact .here _ _ | assumption | apply Pick.there)).pick (A := blkA g6 3 [.int .i64 (cv s)]) (by repeat first | exact .here _ _ | assumption | apply Pick.there)).pick (A := rdrA W 149 g _) (by repeat first | exact .here _ _ | assumption | apply Pick.there))) rfl ?_
      rintro e w ⟨rfl, hS⟩
      refine ⟨_, rfl, ?_⟩
      refine t_q (q_mv (.func _ _ _) rfl) ?_
      refine t_callv Try.call96 rfl (crd4 (s := s) (((hS.pick (A := blkA g4 79 [.pointer (some ⟨g, 0, none⟩)]) (by repeat first | exact .here _ _ | assumption | apply Pick.there)).pick (A := blkA g6 3 [.int .i64 (cv s)]) (by repeat first | exact .here _ _ | assumption | apply Pick.there)).pick (A := rdrA W 149 g _) (by repeat first | exact .here _ _ | assumption | apply Pick.there))) rfl ?_
      rintro e w ⟨rfl, hS⟩
      refine ⟨_, rfl, ?_⟩
      refine t_q (q_fieldAddr 3 Try.runUnderlying49 rfl Try.sizeOf3 (by decide) rfl rfl) ?_
      refine t_store (v := (.int _ _)) Try.sizeOf3 hS (by repeat first | exact .here _ _ | assumption | apply Pick.there) rfl rfl rfl rfl rfl rfl (fun w hS => ?_)
      replace hS := hS.recast (show blkA g5 49 _ = blkA g5 49 [.int .i64 (((c0 s).1 : Nat) : Int), .int .u64 (((c1 s).1 : Nat) : Int), .int .u64 (((c2 s).1 : Nat) : Int), .int .i64 ((c3 s).1), .int .u64 0, .int .i64 0, .int .i64 0, .int .i64 0, .int .i64 0, .int .i64 0, .int .i64 0, .int .i64 0, .int .u64 0, .int .i64 0, .slice none 0 0, .int .i64 0, .int .i64 0, .slice none 0 0, .int .i64 0, .int .i64 0, .int .i64 0, .int .i64 0] from rfl)
      refine t_q (q_fieldAddr 7 Try.runUnderlying49 rfl Try.sizeOf3 (by decide) rfl rfl) ?_
      refine t_store (v := (.int _ _)) Try.sizeOf3 hS (by repeat first | exact .here _ _ | assumption | apply Pick.there) rfl rfl rfl rfl rfl rfl (fun w hS => ?_)
      replace hS := hS.recast (show blkA g5 49 _ = blkA g5 49 [.int .i64 (((c0 s).1 : Nat) : Int), .int .u64 (((c1 s).1 : Nat) : Int), .int .u64 (((c2 s).1 : Nat) : Int), .int .i64 ((c3 s).1), .int .u64 0, .int .i64 0, .int .i64 0, .int .i64 ((c4 s).1), .int .i64 0, .int .i64 0, .int .i64 0, .int .i64 0, .int .u64 0, .int .i64 0, .slice none 0 0, .int .i64 0, .int .i64 0, .slice none 0 0, .int .i64 0, .int .i64 0, .int .i64 0, .int .i64 0] from rfl)
      refine t_nil ?_
      refine c_cut [36, 37, 38, 39, 40, 41] (fun σ w => St W w [rdrA W 149 g (c5 s).2, blkA g5 49 [.int .i64 (((c0 s).1 : Nat) : Int), .int .u64 (((c1 s).1 : Nat) : Int), .int .u64 (((c2 s).1 : Nat) : Int), .int .i64 ((c3 s).1), .int .u64 (((c5 s).1 : Nat) : Int), .int .i64 0, .int .i64 0, .int .i64 ((c4 s).1), .int .i64 0, .int .i64 0, .int .i64 0, .int .i64 0, .int .u64 0, .int .i64 0, .slice none 0 0, .int .i64 0, .int .i64 0, .slice none 0 0, .int .i64 0, .int .i64 0, .int .i64 0, .int .i64 0], blkA g6 3 [.int .i64 (cv s)], blkA g4 79 [.pointer (some ⟨g, 0, none⟩)], blkA g2 49 [.int .i64 0, .int .u64 0, .int .u64 0, .int .i64 0, .int .u64 0, .int .i64 0, .int .i64 0, .int .i64 0, .int .i64 0, .int .i64 0, .int .i64 0, .int .i64 0, .int .u64 0, .int .i64 0, .slice none 0 0, .int .i64 0, .int .i64 0, .slice none 0 0, .int .i64 0, .int .i64 0, .int .i64 0, .int .i64 0]]) rfl ?_ ?_
      ·
        refine c_seq ?_
        refine c_region ?_
        refine t_q (q_load1 Try.isAgg3 rfl (hS.cell (by repeat first | exact .here _ _ | assumption | apply Pick.there) rfl)) ?_
        refine t_q (q_and rfl rfl) ?_
        refine t_q (q_cast (v' := .bool (hasC (cv s) 2)) (q_neq rfl rfl) (congrArg Value.bool (and_ne (and_cv_2 s)))) ?_
        refine t_nil ?_
        refine c_cond rfl ?_ ?_
        · intro hc19
          have hc19d := of_decide_eq_true hc19
          have hb2 : hasC (cv s) 2 = true := hc19
          have e5 : c5 s = (c4 s).2.nat allNat := by unfold c5 oqU; rw [hb2]; rfl
          refine c_region ?_
          refine t_q (q_load1 Try.isAgg79 rfl (hS.cell (by repeat first | exact .here _ _ | assumption | apply Pick.there) rfl)) ?_
          refine t_call Try.call89 (rNat_all (s := (c4 s).2) hS (by repeat first | exact .here _ _ | assumption | apply Pick.there)) rfl ?_
          rintro e w ⟨rfl, hS⟩
          refine ⟨_, rfl, ?_⟩
          replace hS := hS.recast (show _ = rdrA W 149 g (c5 s).2 from by rw [e5])
          refine t_q (q_fieldAddr 4 Try.runUnderlying49 rfl Try.sizeOf26 (by decide) rfl rfl) ?_
          refine t_store (v := (.int _ _)) Try.sizeOf26 hS (by repeat first | exact .here _ _ | assumption | apply Pick.there) rfl rfl rfl rfl rfl rfl (fun w hS => ?_)
          replace hS := hS.recast (show blkA g5 49 _ = blkA g5 49 [.int .i64 (((c0 s).1 : Nat) : Int), .int .u64 (((c1 s).1 : Nat) : Int), .int .u64 (((c2 s).1 : Nat) : Int), .int .i64 ((c3 s).1), .int .u64 (((c5 s).1 : Nat) : Int), .int .i64 0, .int .i64 0, .int .i64 ((c4 s).1), .int .i64 0, .int .i64 0, .int .i64 0, .int .i64 0, .int .u64 0, .int .i64 0, .slice none 0 0, .int .i64 0, .int .i64 0, .slice none 0 0, .int .i64 0, .int .i64 0, .int .i64 0, .int .i64 0] from by rw [e5]; rfl)
          refine t_nil ?_
          first
            | exact (((((hS.pick (A := blkA g2 49 [.int .i64 0, .int .u64 0, .int .u64 0, .int .i64 0, .int .u64 0, .int .i64 0, .int .i64 0, .int .i64 0, .int .i64 0, .int .i64 0, .int .i64 0, .int .i64 0, .int .u64 0, .int .i64 0, .slice none 0 0, .int .i64 0, .int .i64 0, .slice none 0 0, .int .i64 0, .int .i64 0, .int .i64 0, .int .i64 0]) (by repeat first | exact .here _ _ | assumption | apply Pick.there)).pick (A := blkA g4 79 [.pointer (some ⟨g, 0, none⟩)]) (by repeat first | exact .here _ _ | assumption | apply Pick.there)).pick (A := blkA g6 3 [.int .i64 (cv s)]) (by repeat first | exact .here _ _ | assumption | apply Pick.there)).pick (A := blkA g5 49 _) (by repeat first | exact .here _ _ | assumption | apply Pick.there)).pick (A := rdrA W 149 g _) (by repeat first | exact .here _ _ | assumption | apply Pick.there)).front5
            | (rw [e5]
               exact (((((hS.pick (A := blkA g2 49 [.int .i64 0, .int .u64 0, .int .u64 0, .int .i64 0, .int .u64 0, .int .i64 0, .int .i64 0, .int .i64 0, .int .i64 0, .int .i64 0, .int .i64 0, .int .i64 0, .int .u64 0, .int .i64 0, .slice none 0 0, .int .i64 0, .int .i64 0, .slice none 0 0, .int .i64 0, .int .i64 0, .int .i64 0, .int .i64 0]) (by repeat first | exact .here _ _ | assumption | apply Pick.there)).pick (A := blkA g4 79 [.pointer (some ⟨g, 0, none⟩)]) (by repeat first | exact .here _ _ | assumption | apply Pick.there)).pick (A := blkA g6 3 [.int .i64 (cv s)]) (by repeat first | exact .here _ _ | assumption | apply Pick.there)).pick (A := blkA g5 49 _) (by repeat first | exact .here _ _ | assumption | apply Pick.there)).pick (A := rdrA W 149 g _) (by repeat first | exact .here _ _ | assumption | apply Pick.there)).front5)
        · intro hc19
          have hc19d := of_decide_eq_false hc19
          have hb2 : hasC (cv s) 2 = false := hc19
          have e5 : c5 s = (0, (c4 s).2) := by unfold c5 oqU; rw [hb2]; rfl
          refine c_skip ?_
          first
            | exact (((((hS.pick (A := blkA g2 49 [.int .i64 0, .int .u64 0, .int .u64 0, .int .i64 0, .int .u64 0, .int .i64 0, .int .i64 0, .int .i64 0, .int .i64 0, .int .i64 0, .int .i64 0, .int .i64 0, .int .u64 0, .int .i64 0, .slice none 0 0, .int .i64 0, .int .i64 0, .slice none 0 0, .int .i64 0, .int .i64 0, .int .i64 0, .int .i64 0]) (by repeat first | exact .here _ _ | assumption | apply Pick.there)).pick (A := blkA g4 79 [.pointer (some ⟨g, 0, none⟩)]) (by repeat first | exact .here _ _ | assumption | apply Pick.there)).pick (A := blkA g6 3 [.int .i64 (cv s)]) (by repeat first | exact .here _ _ | assumption | apply Pick.there)).pick (A := blkA g5 49 _) (by repeat first | exact .here _ _ | assumption | apply Pick.there)).pick (A := rdrA W 149 g _) (by repeat first | exact .here _ _ | assumption | apply Pick.there)).front5
            | (rw [e5]
               exact (((((hS.pick (A := blkA g2 49 [.int .i64 0, .int .u64 0, .int .u64 0, .int .i64 0, .int .u64 0, .int .i64 0, .int .i64 0, .int .i64 0, .int .i64 0, .int .i64 0, .int .i64 0, .int .i64 0, .int .u64 0, .int .i64 0, .slice none 0 0, .int .i64 0, .int .i64 0, .slice none 0 0, .int .i64 0, .int .i64 0, .int .i64 0, .int .i64 0]) (by repeat first | exact .here _ _ | assumption | apply Pick.there)).pick (A := blkA g4 79 [.pointer (some ⟨g, 0, none⟩)]) (by repeat first | exact .here _ _ | assumption | apply Pick.there)).pick (A := blkA g6 3 [.int .i64 (cv s)]) (by repeat first | exact .here _ _ | assumption | apply Pick.there)).pick (A := blkA g5 49 _) (by repeat first | exact .here _ _ | assumption | apply Pick.there)).pick (A := rdrA W 149 g _) (by repeat first | exact .here _ _ | assumption | apply Pick.there)).front5)
      ·
        rintro σ w hS
        refine c_seq ?_
        refine c_region ?_
        refine t_q (q_mv (.func _ _ _) rfl) ?_
        refine t_callv Try.call96 rfl (crd6 (s := s) (((hS.pick (A := blkA g4 79 [.pointer (some ⟨g, 0, none⟩)]) (by repeat first | exact .here _ _ | assumption | apply Pick.there)).pick (A := blkA g6 3 [.int .i64 (cv s)]) (by repeat first | exact .here _ _ | assumption | apply Pick.there)).pick (A := rdrA W 149 g _) (by repeat first | exact .here _ _ | assumption | apply Pick.there))) rfl ?_
        rintro e w ⟨rfl, hS⟩
        refine ⟨_, rfl, ?_⟩
        refine t_q (q_mv (.func _ _ _) rfl) ?_
        refine t_callv Try.call96 rfl (crd7 (s := s) (((hS.pick (A := blkA g4 79 [.pointer (some ⟨g, 0, none⟩)]) (by repeat first | exact .here _ _ | assumption | apply Pick.there)).pick (A := blkA g6 3 [.int .i64 (cv s)]) (by repeat first | exact .here _ _ | assumption | apply Pick.there)).pick (A := rdrA W 149 g _) (by repeat first | exact .here _ _ | assumption | apply Pick.there))) rfl ?_
        rintro e w ⟨rfl, hS⟩
        refine ⟨_, rfl, ?_⟩
        refine t_q (q_fieldAddr 5 Try.runUnderlying49 rfl Try.sizeOf3 (by decide) rfl rfl) ?_
        refine t_store (v := (.int _ _)) Try.sizeOf3 hS (by repeat first | exact .here _ _ | assumption | apply Pick.there) rfl rfl rfl rfl rfl rfl (fun w hS => ?_)
        replace hS := hS.recast (show blkA g5 49 _ = blkA g5 49 [.int .i64 (((c0 s).1 : Nat) : Int), .int .u64 (((c1 s).1 : Nat) : Int), .int .u64 (((c2 s).1 : Nat) : Int), .int .i64 ((c3 s).1), .int .u64 (((c5 s).1 : Nat) : Int), .int .i64 ((c6 s).1), .int .i64 0, .int .i64 ((c4 s).1), .int .i64 0, .int .i64 0, .int .i64 0, .int .i64 0, .int .u64 0, .int .i64 0, .slice none 0 0, .int .i64 0, .int .i64 0, .slice none 0 0, .int .i64 0, .int .i64 0, .int .i64 0, .int .i64 0] from rfl)
        refine t_q (q_fieldAddr 6 Try.runUnderlying49 rfl Try.sizeOf3 (by decide) rfl rfl) ?_
        refine t_store (v := (.int _ _)) Try.sizeOf3 hS (by repeat first | exact .here _ _ | assumption | apply Pick.there) rfl rfl rfl rfl rfl rfl (fun w hS => ?_)
        replace hS := hS.recast (show blkA g5 49 _ = blkA g5 49 [.int .i64 (((c0 s).1 : Nat) : Int), .int .u64 (((c1 s).1 : Nat) : Int), .int .u64 (((c2 s).1 : Nat) : Int), .int .i64 ((c3 s).1), .int .u64 (((c5 s).1 : Nat) : Int), .int .i64 ((c6 s).1), .int .i64 ((c7 s).1), .int .i64 ((c4 s).1), .int .i64 0, .int .i64 0, .int .i64 0, .int .i64 0, .int .u64 0, .int .i64 0, .slice none 0 0, .int .i64 0, .int .i64 0, .slice none 0 0, .int .i64 0, .int .i64 0, .int .i64 0, .int .i64 0] from rfl)
        refine t_nil ?_
        refine c_seq ?_
        refine c_region ?_
        refine t_q (q_mv (.func _ _ _) rfl) ?_
        refine t_callv Try.call96 rfl (crd8 (s := s) (((hS.pick (A := blkA g4 79 [.pointer (some ⟨g, 0, none⟩)]) (by repeat first | exact .here _ _ | assumption | apply Pick.there)).pick (A := blkA g6 3 [.int .i64 (cv s)]) (by repeat first | exact .here _ _ | assumption | apply Pick.there)).pick (A := rdrA W 149 g _) (by repeat first | exact .here _ _ | assumption | apply Pick.there))) rfl ?_
        rintro e w ⟨rfl, hS⟩
        refine ⟨_, rfl, ?_⟩
        refine t_q (q_mv (.func _ _ _) rfl) ?_
        refine t_callv Try.call96 rfl (crd9 (s := s) (((hS.pick (A := blkA g4 79 [.pointer (some ⟨g, 0, none⟩)]) (by repeat first | exact .here _ _ | assumption | apply Pick.there)).pick (A := blkA g6 3 [.int .i64 (cv s)]) (by repeat first | exact .here _ _ | assumption | apply Pick.there)).pick (A := rdrA W 149 g _) (by repeat first | exact .here _ _ | assumption | apply Pick.there))) rfl ?_
        rintro e w ⟨rfl, hS⟩
        refine ⟨_, rfl, ?_⟩
        refine t_q (q_fieldAddr 8 Try.runUnderlying49 rfl Try.sizeOf2 (by decide) rfl rfl) ?_
        refine t_store (v := (.int _ _)) Try.sizeOf2 hS (by repeat first | exact .here _ _ | assumption | apply Pick.there) rfl rfl rfl rfl rfl rfl (fun w hS => ?_)
        replace hS := hS.recast (show blkA g5 49 _ = blkA g5 49 [.int .i64 (((c0 s).1 : Nat) : Int), .int .u64 (((c1 s).1 : Nat) : Int), .int .u64 (((c2 s).1 : Nat) : Int), .int .i64 ((c3 s).1), .int .u64 (((c5 s).1 : Nat) : Int), .int .i64 ((c6 s).1), .int .i64 ((c7 s).1), .int .i64 ((c4 s).1), .int .i64 ((c8 s).1), .int .i64 0, .int .i64 0, .int .i64 0, .int .u64 0, .int .i64 0, .slice none 0 0, .int .i64 0, .int .i64 0, .slice none 0 0, .int .i64 0, .int .i64 0, .int .i64 0, .int .i64 0] from rfl)
        refine t_q (q_fieldAddr 9 Try.runUnderlying49 rfl Try.sizeOf2 (by decide) rfl rfl) ?_
        refine t_store (v := (.int _ _)) Try.sizeOf2 hS (by repeat first | exact .here _ _ | assumption | apply Pick.there) rfl rfl rfl rfl rfl rfl (fun w hS => ?_)
        replace hS := hS.recast (show blkA g5 49 _ = blkA g5 49 [.int .i64 (((c0 s).1 : Nat) : Int), .int .u64 (((c1 s).1 : Nat) : Int), .int .u64 (((c2 s).1 : Nat) : Int), .int .i64 ((c3 s).1), .int .u64 (((c5 s).1 : Nat) : Int), .int .i64 ((c6 s).1), .int .i64 ((c7 s).1), .int .i64 ((c4 s).1), .int .i64 ((c8 s).1), .int .i64 ((c9 s).1), .int .i64 0, .int .i64 0, .int .u64 0, .int .i64 0, .slice none 0 0, .int .i64 0, .int .i64 0, .slice none 0 0, .int .i64 0, .int .i64 0, .int .i64 0, .int .i64 0] from rfl)
        refine t_nil ?_
        refine c_seq ?_
        refine c_region ?_
        refine t_q (q_mv (.func _ _ _) rfl) ?_
        refine t_callv Try.call96 rfl (crd10 (s := s) (((hS.pick (A := blkA g4 79 [.pointer (some ⟨g, 0, none⟩)]) (by repeat first | exact .here _ _ | assumption | apply Pick.there)).pick (A := blkA g6 3 [.int .i64 (cv s)]) (by repeat first | exact .here _ _ | assumption | apply Pick.there)).pick (A := rdrA W 149 g _) (by repeat first | exact .here _ _ | assumption | apply Pick.there))) rfl ?_
        rintro e w ⟨rfl, hS⟩
        refine ⟨_, rfl, ?_⟩
        refine t_q (q_mv (.func _ _ _) rfl) ?_
        refine t_callv Try.call96 rfl (crd11 (s := s) (((hS.pick (A := blkA g4 79 [.pointer (some ⟨g, 0, none⟩)]) (by repeat first | exact .here _ _ | assumption | apply Pick.there)).pick (A := blkA g6 3 [.int .i64 (cv s)]) (by repeat first | exact .here _ _ | assumption | apply Pick.there)).pick (A := rdrA W 149 g _) (by repeat first | exact .here _ _ | assumption | apply Pick.there))) rfl ?_
        rintro e w ⟨rfl, hS⟩
        refine ⟨_, rfl, ?_⟩
        refine t_q (q_fieldAddr 11 Try.runUnderlying49 rfl Try.sizeOf3 (by decide) rfl rfl) ?_
        refine t_store (v := (.int _ _)) Try.sizeOf3 hS (by repeat first | exact .here _ _ | assumption | apply Pick.there) rfl rfl rfl rfl rfl rfl (fun w hS => ?_)
        replace hS := hS.recast (show blkA g5 49 _ = blkA g5 49 [.int .i64 (((c0 s).1 : Nat) : Int), .int .u64 (((c1 s).1 : Nat) : Int), .int .u64 (((c2 s).1 : Nat) : Int), .int .i64 ((c3 s).1), .int .u64 (((c5 s).1 : Nat) : Int), .int .i64 ((c6 s).1), .int .i64 ((c7 s).1), .int .i64 ((c4 s).1), .int .i64 ((c8 s).1), .int .i64 ((c9 s).1), .int .i64 0, .int .i64 ((c10 s).1), .int .u64 0, .int .i64 0, .slice none 0 0, .int .i64 0, .int .i64 0, .slice none 0 0, .int .i64 0, .int .i64 0, .int .i64 0, .int .i64 0] from rfl)
        refine t_q (q_fieldAddr 10 Try.runUnderlying49 rfl Try.sizeOf3 (by decide) rfl rfl) ?_
        refine t_store (v := (.int _ _)) Try.sizeOf3 hS (by repeat first | exact .here _ _ | assumption | apply Pick.there) rfl rfl rfl rfl rfl rfl (fun w hS => ?_)
        replace hS := hS.recast (show blkA g5 49 _ = blkA g5 49 [.int .i64 (((c0 s).1 : Nat) : Int), .int .u64 (((c1 s).1 : Nat) : Int), .int .u64 (((c2 s).1 : Nat) : Int), .int .i64 ((c3 s).1), .int .u64 (((c5 s).1 : Nat) : Int), .int .i64 ((c6 s).1), .int .i64 ((c7 s).1), .int .i64 ((c4 s).1), .int .i64 ((c8 s).1), .int .i64 ((c9 s).1), .int .i64 ((c11 s).1), .int .i64 ((c10 s).1), .int .u64 0, .int .i64 0, .slice none 0 0, .int .i64 0, .int .i64 0, .slice none 0 0, .int .i64 0, .int .i64 0, .int .i64 0, .int .i64 0] from rfl)
        refine t_nil ?_
        refine c_cut [60, 61, 62, 63, 64, 65] (fun σ w => St W w [rdrA W 149 g (c12 s).2, blkA g5 49 [.int .i64 (((c0 s).1 : Nat) : Int), .int .u64 (((c1 s).1 : Nat) : Int), .int .u64 (((c2 s).1 : Nat) : Int), .int .i64 ((c3 s).1), .int .u64 (((c5 s).1 : Nat) : Int), .int .i64 ((c6 s).1), .int .i64 ((c7 s).1), .int .i64 ((c4 s).1), .int .i64 ((c8 s).1), .int .i64 ((c9 s).1), .int .i64 ((c11 s).1), .int .i64 ((c10 s).1), .int .u64 (((c12 s).1 : Nat) : Int), .int .i64 0, .slice none 0 0, .int .i64 0, .int .i64 0, .slice none 0 0, .int .i64 0, .int .i64 0, .int .i64 0, .int .i64 0], blkA g6 3 [.int .i64 (cv s)], blkA g4 79 [.pointer (some ⟨g, 0, none⟩)], blkA g2 49 [.int .i64 0, .int .u64 0, .int .u64 0, .int .i64 0, .int .u64 0, .int .i64 0, .int .i64 0, .int .i64 0, .int .i64 0, .int .i64 0, .int .i64 0, .int .i64 0, .int .u64 0, .int .i64 0, .slice none 0 0, .int .i64 0, .int .i64 0, .slice none 0 0, .int .i64 0, .int .i64 0, .int .i64 0, .int .i64 0]]) rfl ?_ ?_
        ·
          refine c_seq ?_
          refine c_region ?_
          refine t_q (q_load1 Try.isAgg3 rfl (hS.cell (by repeat first | exact .here _ _ | assumption | apply Pick.there) rfl)) ?_
          refine t_q (q_and rfl rfl) ?_
          refine t_q (q_cast (v' := .bool (hasC (cv s) 512)) (q_neq rfl rfl) (congrArg Value.bool (and_ne (and_cv_512 s)))) ?_
          refine t_nil ?_
          refine c_cond rfl ?_ ?_
          · intro hc28
            have hc28d := of_decide_eq_true hc28
            have hb512 : hasC (cv s) 512 = true := hc28
            have e12 : c12 s = (c11 s).2.nat allNat := by unfold c12 oqU; rw [hb512]; rfl
            refine c_region ?_
            refine t_q (q_load1 Try.isAgg79 rfl (hS.cell (by repeat first | exact .here _ _ | assumption | apply Pick.there) rfl)) ?_
            refine t_call Try.call89 (rNat_all (s := (c11 s).2) hS (by repeat first | exact .here _ _ | assumption | apply Pick.there)) rfl ?_
            rintro e w ⟨rfl, hS⟩
            refine ⟨_, rfl, ?_⟩
            replace hS := hS.recast (show _ = rdrA W 149 g (c12 s).2 from by rw [e12])
            refine t_q (q_fieldAddr 12 Try.runUnderlying49 rfl Try.sizeOf26 (by decide) rfl rfl) ?_
            refine t_store (v := (.int _ _)) Try.sizeOf26 hS (by repeat first | exact .here _ _ | assumption | apply Pick.there) rfl rfl rfl rfl rfl rfl (fun w hS => ?_)
            replace hS := hS.recast (show blkA g5 49 _ = blkA g5 49 [.int .i64 (((c0 s).1 : Nat) : Int), .int .u64 (((c1 s).1 : Nat) : Int), .int .u64 (((c2 s).1 : Nat) : Int), .int .i64 ((c3 s).1), .int .u64 (((c5 s).1 : Nat) : Int), .int .i64 ((c6 s).1), .int .i64 ((c7 s).1), .int .i64 ((c4 s).1), .int .i64 ((c8 s).1), .int .i64 ((c9 s).1), .int .i64 ((c11 s).1), .int .i64 ((c10 s).1), .int .u64 (((c12 s).1 : Nat) : Int), .int .i64 0, .slice none 0 0, .int .i64 0, .int .i64 0, .slice none 0 0, .int .i64 0, .int .i64 0, .int .i64 0, .int .i64 0] from by rw [e12]; rfl)
            refine t_nil ?_
            first
              | exact (((((hS.pick (A := blkA g2 49 [.int .i64 0, .int .u64 0, .int .u64 0, .int .i64 0, .int .u64 0, .int .i64 0, .int .i64 0, .int .i64 0, .int .i64 0, .int .i64 0, .int .i64 0, .int .i64 0, .int .u64 0, .int .i64 0, .slice none 0 0, .int .i64 0, .int .i64 0, .slice none 0 0, .int .i64 0, .int .i64 0, .int .i64 0, .int .i64 0]) (by repeat first | exact .here _ _ | assumption | apply Pick.there)).pick (A := blkA g4 79 [.pointer (some ⟨g, 0, none⟩)]) (by repeat first | exact .here _ _ | assumption | apply Pick.there)).pick (A := blkA g6 3 [.int .i64 (cv s)]) (by repeat first | exact .here _ _ | assumption | apply Pick.there)).pick (A := blkA g5 49 _) (by repeat first | exact .here _ _ | assumption | apply Pick.there)).pick (A := rdrA W 149 g _) (by repeat first | exact .here _ _ | assumption | apply Pick.there)).front5
              | (rw [e12]
                 exact (((((hS.pick (A := blkA g2 49 [.int .i64 0, .int .u64 0, .int .u64 0, .int .i64 0, .int .u64 0, .int .i64 0, .int .i64 0, .int .i64 0, .int .i64 0, .int .i64 0, .int .i64 0, .int .i64 0, .int .u64 0, .int .i64 0, .slice none 0 0, .int .i64 0, .int .i64 0, .slice none 0 0, .int .i64 0, .int .i64 0, .int .i64 0, .int .i64 0]) (by repeat first | exact .here _ _ | assumption | apply Pick.there)).pick (A := blkA g4 79 [.pointer (some ⟨g, 0, none⟩)]) (by repeat first | exact .here _ _ | assumption | apply Pick.there)).pick (A := blkA g6 3 [.int .i64 (cv s)]) (by repeat first | exact .here _ _ | assumption | apply Pick.there)).pick (A := blkA g5 49 _) (by repeat first | exact .here _ _ | assumption | apply Pick.there)).pick (A := rdrA W 149 g _) (by repeat first | exact .here _ _ | assumption | apply Pick.there)).front5)
          · intro hc28
            have hc28d := of_decide_eq_false hc28
            have hb512 : hasC (cv s) 512 = false := hc28
            have e12 : c12 s = (0, (c11 s).2) := by unfold c12 oqU; rw [hb512]; rfl
            refine c_skip ?_
            first
              | exact (((((hS.pick (A := blkA g2 49 [.int .i64 0, .int .u64 0, .int .u64 0, .int .i64 0, .int .u64 0, .int .i64 0, .int .i64 0, .int .i64 0, .int .i64 0, .int .i64 0, .int .i64 0, .int .i64 0, .int .u64 0, .int .i64 0, .slice none 0 0, .int .i64 0, .int .i64 0, .slice none 0 0, .int .i64 0, .int .i64 0, .int .i64 0, .int .i64 0]) (by repeat first | exact .here _ _ | assumption | apply Pick.there)).pick (A := blkA g4 79 [.pointer (some ⟨g, 0, none⟩)]) (by repeat first | exact .here _ _ | assumption | apply Pick.there)).pick (A := blkA g6 3 [.int .i64 (cv s)]) (by repeat first | exact .here _ _ | assumption | apply Pick.there)).pick (A := blkA g5 49 _) (by repeat first | exact .here _ _ | assumption | apply Pick.there)).pick (A := rdrA W 149 g _) (by repeat first | exact .here _ _ | assumption | apply Pick.there)).front5
              | (rw [e12]
                 exact (((((hS.pick (A := blkA g2 49 [.int .i64 0, .int .u64 0, .int .u64 0, .int .i64 0, .int .u64 0, .int .i64 0, .int .i64 0, .int .i64 0, .int .i64 0, .int .i64 0, .int .i64 0, .int .i64 0, .int .u64 0, .int .i64 0, .slice none 0 0, .int .i64 0, .int .i64 0, .slice none 0 0, .int .i64 0, .int .i64 0, .int .i64 0, .int .i64 0]) (by repeat first | exact .here _ _ | assumption | apply Pick.there)).pick (A := blkA g4 79 [.pointer (some ⟨g, 0, none⟩)]) (by repeat first | exact .here _ _ | assumption | apply Pick.there)).pick (A := blkA g6 3 [.int .i64 (cv s)]) (by repeat first | exact .here _ _ | assumption | apply Pick.there)).pick (A := blkA g5 49 _) (by repeat first | exact .here _ _ | assumption | apply Pick.there)).pick (A := rdrA W 149 g _) (by repeat first | exact .here _ _ | assumption | apply Pick.there)).front5)
        ·
          rintro σ w hS
          refine c_cut [66, 67, 68, 69, 70, 71, 72, 73, 74] (fun σ w => ∃ r : RuV, (∃ A c B d, r = cR s A c B d) ∧ St W w [rdrA W 149 g (c13 s), blkA g5 49 [.int .i64 (((c0 s).1 : Nat) : Int), .int .u64 (((c1 s).1 : Nat) : Int), .int .u64 (((c2 s).1 : Nat) : Int), .int .i64 ((c3 s).1), .int .u64 (((c5 s).1 : Nat) : Int), .int .i64 ((c6 s).1), .int .i64 ((c7 s).1), .int .i64 ((c4 s).1), .int .i64 ((c8 s).1), .int .i64 ((c9 s).1), .int .i64 ((c11 s).1), .int .i64 ((c10 s).1), .int .u64 (((c12 s).1 : Nat) : Int), .int .i64 r.version, .slice r.ticks.A r.ticks.l.length r.ticks.c, .int .i64 r.lot, .int .i64 r.band, .slice r.fees.A r.fees.l.length r.fees.c, .int .i64 r.round, .int .i64 r.priority, .int .i64 r.self, .int .i64 r.layout], blkA g6 3 [.int .i64 (cv s)], blkA g4 79 [.pointer (some ⟨g, 0, none⟩)], blkA g2 49 [.int .i64 0, .int .u64 0, .int .u64 0, .int .i64 0, .int .u64 0, .int .i64 0, .int .i64 0, .int .i64 0, .int .i64 0, .int .i64 0, .int .i64 0, .int .i64 0, .int .u64 0, .int .i64 0, .slice none 0 0, .int .i64 0, .int .i64 0, .slice none 0 0, .int .i64 0, .int .i64 0, .int .i64 0, .int .i64 0], rowA 168 2 r.ticks.A r.ticks.l.length r.ticks.c (r.ticks.l.flatMap Tk.cells), rowA 170 3 r.fees.A r.fees.l.length r.fees.c (r.fees.l.flatMap Tr.cells)]) rfl ?_ ?_
          ·
            refine c_seq ?_
            refine c_region ?_
            refine t_q (q_load1 Try.isAgg3 rfl (hS.cell (by repeat first | exact .here _ _ | assumption | apply Pick.there) rfl)) ?_
            refine t_q (q_and rfl rfl) ?_
            refine t_q (q_cast (v' := .bool (hasC (cv s) 1024)) (q_neq rfl rfl) (congrArg Value.bool (and_ne (and_cv_1024 s)))) ?_
            refine t_nil ?_
            refine c_cond rfl ?_ ?_
            · intro hc31
              have hc31d := of_decide_eq_true hc31
              have hb1024 : hasC (cv s) 1024 = true := hc31
              refine c_region ?_
              refine t_q (q_load1 Try.isAgg79 rfl (hS.cell (by repeat first | exact .here _ _ | assumption | apply Pick.there) rfl)) ?_
              refine t_call Try.call97 (rread_calls (s := (c12 s).2) hS (by repeat first | exact .here _ _ | assumption | apply Pick.there)) rfl ?_
              rintro e w ⟨r, rfl, hr, hS⟩
              refine ⟨_, rfl, ?_⟩
              replace hS := (hS.pick (A := rdrA W 149 g (ruS (c12 s).2)) (by repeat first | exact .here _ _ | assumption | apply Pick.there)).recast (show _ = rdrA W 149 g (c13 s) from by unfold c13; rw [hb1024]; rfl)
              refine t_q (q_mv (.tuple _) rfl) ?_
              refine t_q (q_extract rfl rfl) ?_
              refine t_q (q_extract rfl rfl) ?_
              refine t_q (q_fieldAddr 13 Try.runUnderlying49 rfl Try.sizeOf47 (by decide) rfl rfl) ?_
              refine t_store (v := (.agg _)) Try.sizeOf47 hS (by repeat first | exact .here _ _ | assumption | apply Pick.there) rfl rfl rfl rfl rfl rfl (fun w hS => ?_)
              replace hS := hS.recast ((congrArg (blkA g5 49) (setN_at r.cells [.int .i64 (((c0 s).1 : Nat) : Int), .int .u64 (((c1 s).1 : Nat) : Int), .int .u64 (((c2 s).1 : Nat) : Int), .int .i64 ((c3 s).1), .int .u64 (((c5 s).1 : Nat) : Int), .int .i64 ((c6 s).1), .int .i64 ((c7 s).1), .int .i64 ((c4 s).1), .int .i64 ((c8 s).1), .int .i64 ((c9 s).1), .int .i64 ((c11 s).1), .int .i64 ((c10 s).1), .int .u64 (((c12 s).1 : Nat) : Int)] [.int .i64 0, .slice none 0 0, .int .i64 0, .int .i64 0, .slice none 0 0, .int .i64 0, .int .i64 0, .int .i64 0, .int .i64 0] rfl)).trans (show blkA g5 49 _ = blkA g5 49 [.int .i64 (((c0 s).1 : Nat) : Int), .int .u64 (((c1 s).1 : Nat) : Int), .int .u64 (((c2 s).1 : Nat) : Int), .int .i64 ((c3 s).1), .int .u64 (((c5 s).1 : Nat) : Int), .int .i64 ((c6 s).1), .int .i64 ((c7 s).1), .int .i64 ((c4 s).1), .int .i64 ((c8 s).1), .int .i64 ((c9 s).1), .int .i64 ((c11 s).1), .int .i64 ((c10 s).1), .int .u64 (((c12 s).1 : Nat) : Int), .int .i64 r.version, .slice r.ticks.A r.ticks.l.length r.ticks.c, .int .i64 r.lot, .int .i64 r.band, .slice r.fees.A r.fees.l.length r.fees.c, .int .i64 r.round, .int .i64 r.priority, .int .i64 r.self, .int .i64 r.layout] from rfl))
              refine t_nil ?_
              first
                | (obtain ⟨A1, c1', B1, d1, hr1⟩ := hr
                   refine ⟨r, ⟨A1, c1', B1, d1, hr1.trans ?_⟩, (((((((hS.pick (A := rowA 170 3 r.fees.A r.fees.l.length r.fees.c (r.fees.l.flatMap Tr.cells)) (by repeat first | exact .here _ _ | assumption | apply Pick.there)).pick (A := rowA 168 2 r.ticks.A r.ticks.l.length r.ticks.c (r.ticks.l.flatMap Tk.cells)) (by repeat first | exact .here _ _ | assumption | apply Pick.there)).pick (A := blkA g2 49 [.int .i64 0, .int .u64 0, .int .u64 0, .int .i64 0, .int .u64 0, .int .i64 0, .int .i64 0, .int .i64 0, .int .i64 0, .int .i64 0, .int .i64 0, .int .i64 0, .int .u64 0, .int .i64 0, .slice none 0 0, .int .i64 0, .int .i64 0, .slice none 0 0, .int .i64 0, .int .i64 0, .int .i64 0, .int .i64 0]) (by repeat first | exact .here _ _ | assumption | apply Pick.there)).pick (A := blkA g4 79 [.pointer (some ⟨g, 0, none⟩)]) (by repeat first | exact .here _ _ | assumption | apply Pick.there)).pick (A := blkA g6 3 [.int .i64 (cv s)]) (by repeat first | exact .here _ _ | assumption | apply Pick.there)).pick (A := blkA g5 49 _) (by repeat first | exact .here _ _ | assumption | apply Pick.there)).pick (A := rdrA W 149 g _) (by repeat first | exact .here _ _ | assumption | apply Pick.there)).front7⟩
                   exact (cR_yes hb1024 _ _ _ _).symm)
                | (refine ⟨ruZ, ⟨none, 0, none, 0, ?_⟩, ?_⟩
                   · exact (cR_no hb1024 _ _ _ _).symm
                   · rw [e13]
                     exact (((((((((hS.nilrow 168 2).nilrow 170 3).pick (A := rowA 170 3 none 0 0 []) (by repeat first | exact .here _ _ | assumption | apply Pick.there)).pick (A := rowA 168 2 none 0 0 []) (by repeat first | exact .here _ _ | assumption | apply Pick.there)).pick (A := blkA g2 49 [.int .i64 0, .int .u64 0, .int .u64 0, .int .i64 0, .int .u64 0, .int .i64 0, .int .i64 0, .int .i64 0, .int .i64 0, .int .i64 0, .int .i64 0, .int .i64 0, .int .u64 0, .int .i64 0, .slice none 0 0, .int .i64 0, .int .i64 0, .slice none 0 0, .int .i64 0, .int .i64 0, .int .i64 0, .int .i64 0]) (by repeat first | exact .here _ _ | assumption | apply Pick.there)).pick (A := blkA g4 79 [.pointer (some ⟨g, 0, none⟩)]) (by repeat first | exact .here _ _ | assumption | apply Pick.there)).pick (A := blkA g6 3 [.int .i64 (cv s)]) (by repeat first | exact .here _ _ | assumption | apply Pick.there)).pick (A := blkA g5 49 _) (by repeat first | exact .here _ _ | assumption | apply Pick.there)).pick (A := rdrA W 149 g _) (by repeat first | exact .here _ _ | assumption | apply Pick.there)).front7)
            · intro hc31
              have hc31d := of_decide_eq_false hc31
              have hb1024 : hasC (cv s) 1024 = false := hc31
              have e13 : c13 s = (c12 s).2 := by unfold c13; rw [hb1024]; rfl
              refine c_skip ?_
              first
                | (obtain ⟨A1, c1', B1, d1, hr1⟩ := hr
                   refine ⟨r, ⟨A1, c1', B1, d1, hr1.trans ?_⟩, (((((((hS.pick (A := rowA 170 3 r.fees.A r.fees.l.length r.fees.c (r.fees.l.flatMap Tr.cells)) (by repeat first | exact .here _ _ | assumption | apply Pick.there)).pick (A := rowA 168 2 r.ticks.A r.ticks.l.length r.ticks.c (r.ticks.l.flatMap Tk.cells)) (by repeat first | exact .here _ _ | assumption | apply Pick.there)).pick (A := blkA g2 49 [.int .i64 0, .int .u64 0, .int .u64 0, .int .i64 0, .int .u64 0, .int .i64 0, .int .i64 0, .int .i64 0, .int .i64 0, .int .i64 0, .int .i64 0, .int .i64 0, .int .u64 0, .int .i64 0, .slice none 0 0, .int .i64 0, .int .i64 0, .slice none 0 0, .int .i64 0, .int .i64 0, .int .i64 0, .int .i64 0]) (by repeat first | exact .here _ _ | assumption | apply Pick.there)).pick (A := blkA g4 79 [.pointer (some ⟨g, 0, none⟩)]) (by repeat first | exact .here _ _ | assumption | apply Pick.there)).pick (A := blkA g6 3 [.int .i64 (cv s)]) (by repeat first | exact .here _ _ | assumption | apply Pick.there)).pick (A := blkA g5 49 _) (by repeat first | exact .here _ _ | assumption | apply Pick.there)).pick (A := rdrA W 149 g _) (by repeat first | exact .here _ _ | assumption | apply Pick.there)).front7⟩
                   exact (cR_yes hb1024 _ _ _ _).symm)
                | (refine ⟨ruZ, ⟨none, 0, none, 0, ?_⟩, ?_⟩
                   · exact (cR_no hb1024 _ _ _ _).symm
                   · rw [e13]
                     exact (((((((((hS.nilrow 168 2).nilrow 170 3).pick (A := rowA 170 3 none 0 0 []) (by repeat first | exact .here _ _ | assumption | apply Pick.there)).pick (A := rowA 168 2 none 0 0 []) (by repeat first | exact .here _ _ | assumption | apply Pick.there)).pick (A := blkA g2 49 [.int .i64 0, .int .u64 0, .int .u64 0, .int .i64 0, .int .u64 0, .int .i64 0, .int .i64 0, .int .i64 0, .int .i64 0, .int .i64 0, .int .i64 0, .int .i64 0, .int .u64 0, .int .i64 0, .slice none 0 0, .int .i64 0, .int .i64 0, .slice none 0 0, .int .i64 0, .int .i64 0, .int .i64 0, .int .i64 0]) (by repeat first | exact .here _ _ | assumption | apply Pick.there)).pick (A := blkA g4 79 [.pointer (some ⟨g, 0, none⟩)]) (by repeat first | exact .here _ _ | assumption | apply Pick.there)).pick (A := blkA g6 3 [.int .i64 (cv s)]) (by repeat first | exact .here _ _ | assumption | apply Pick.there)).pick (A := blkA g5 49 _) (by repeat first | exact .here _ _ | assumption | apply Pick.there)).pick (A := rdrA W 149 g _) (by repeat first | exact .here _ _ | assumption | apply Pick.there)).front7)
          ·
            rintro σ w ⟨r, hr, hS⟩
            refine c_seq ?_
            refine c_seq ?_
            refine c_region ?_
            refine t_q (q_mv (.bool _) rfl) ?_
            refine t_q (q_not rfl) ?_
            refine t_q (q_mv (.bool _) rfl) ?_
            refine t_case 77 rfl ?_ ?_
            · intro hg35
              refine t_no rfl rfl (by rw [(congrArg not (not_back hg35))]; decide) ?_
              refine t_no rfl rfl (by rw [(congrArg not (not_back hg35))]; decide) ?_
              refine t_no rfl rfl (by rw [(congrArg not (not_back hg35))]; decide) ?_
              refine t_q (q_pick_t rfl (congrArg not (not_back hg35))) ?_
              refine t_q (q_mv (.bool _) rfl) ?_
              refine t_no rfl rfl (by decide) ?_
              refine t_no rfl rfl (by decide) ?_
              refine t_no rfl rfl (by decide) ?_
              refine t_q (q_pick_t rfl rfl) ?_
              refine t_nil ?_
              refine c_cond_t rfl rfl ?_
              have hD := outC_no hs (by omega) (by
                first
                  | exact .inl (bnt (by assumption : (!cok (((c0 s).1 : Nat) : Int)) = true))
                  | exact .inr (.inr ⟨r, hr, bnt (by assumption : (!sndC (mkC s r)) = true)⟩)
                  | exact .inr (.inl (by omega)))
              refine c_seq ?_
              refine c_region ?_
              refine t_q (q_build (qs := [(0, 1), (1, 1), (2, 1), (3, 1), (4, 1), (5, 1), (6, 1), (7, 1), (8, 1), (9, 1), (10, 1), (11, 1), (12, 1), (13, 9)]) [(.int _ _), (.int _ _), (.int _ _), (.int _ _), (.int _ _), (.int _ _), (.int _ _), (.int _ _), (.int _ _), (.int _ _), (.int _ _), (.int _ _), (.int _ _), (.int _ _), (.slice _ _ _), (.int _ _), (.int _ _), (.slice _ _ _), (.int _ _), (.int _ _), (.int _ _), (.int _ _)] Try.zeroValue49 Try.runUnderlying49 ⟨rfl, Try.sizeOf3, rfl, Try.sizeOf26, rfl, Try.sizeOf26, rfl, Try.sizeOf3, rfl, Try.sizeOf26, rfl, Try.sizeOf3, rfl, Try.sizeOf3, rfl, Try.sizeOf3, rfl, Try.sizeOf2, rfl, Try.sizeOf2, rfl, Try.sizeOf3, rfl, Try.sizeOf3, rfl, Try.sizeOf26, rfl, Try.sizeOf47, trivial⟩ rfl rfl) ?_
              refine t_store (v := (.agg _)) Try.sizeOf49 hS (by repeat first | exact .here _ _ | assumption | apply Pick.there) rfl rfl rfl rfl rfl rfl (fun w hS => ?_)
              replace hS := hS.recast (congrArg (blkA g2 49) (setN_full (vs := zC.cells) (cmd_len zC).symm))
              refine t_q (q_assign) ?_
              refine t_nil ?_
              refine c_ret ?_
              refine r_two rfl (res1_cellN Try.isAgg49 Try.sizeOf49 rfl (hS.blk (by repeat first | exact .here _ _ | assumption | apply Pick.there)) rfl) rfl ?_
              first
                | exact ⟨zC, 21, rfl, zC_by, outC_big (by omega), zC_rds hS⟩
                | exact ⟨zC, 20, rfl, zC_by, hD, zC_rds hS⟩
                | exact ⟨mkC s r, 0, rfl, mkC_by hr, hD, mkC_rds hS (by repeat first | exact .here _ _ | assumption | apply Pick.there) (by repeat first | exact .here _ _ | assumption | apply Pick.there)⟩
            · intro hg35
              refine t_yes rfl rfl (congrArg not (not_back hg35)) ?_
              refine t_q (q_load1 Try.isAgg79 rfl (hS.cell (by repeat first | exact .here _ _ | assumption | apply Pick.there) rfl)) ?_
              refine t_yes rfl rfl (congrArg not (not_back hg35)) ?_
              refine t_call Try.call37 (rEnd (s := c13 s) hS (by repeat first | exact .here _ _ | assumption | apply Pick.there)) rfl ?_
              rintro e w ⟨rfl, hS⟩
              refine ⟨_, rfl, ?_⟩
              refine t_yes rfl rfl (congrArg not (not_back hg35)) ?_
              refine t_q (q_neq rfl rfl) ?_
              refine t_q (q_pick_f rfl (congrArg not (not_back hg35))) ?_
              refine t_q (q_mv (.bool _) rfl) ?_
              refine t_case 82 rfl ?_ ?_
              · intro hg38
                have hg38d := of_decide_eq_true hg38
                refine t_no rfl rfl (by rw [hg38]; decide) ?_
                refine t_no rfl rfl (by rw [hg38]; decide) ?_
                refine t_no rfl rfl (by rw [hg38]; decide) ?_
                refine t_q (q_pick_t rfl hg38) ?_
                refine t_nil ?_
                refine c_cond_t rfl rfl ?_
                have hD := outC_no hs (by omega) (by
                  first
                    | exact .inl (bnt (by assumption : (!cok (((c0 s).1 : Nat) : Int)) = true))
                    | exact .inr (.inr ⟨r, hr, bnt (by assumption : (!sndC (mkC s r)) = true)⟩)
                    | exact .inr (.inl (by omega)))
                refine c_seq ?_
                refine c_region ?_
                refine t_q (q_build (qs := [(0, 1), (1, 1), (2, 1), (3, 1), (4, 1), (5, 1), (6, 1), (7, 1), (8, 1), (9, 1), (10, 1), (11, 1), (12, 1), (13, 9)]) [(.int _ _), (.int _ _), (.int _ _), (.int _ _), (.int _ _), (.int _ _), (.int _ _), (.int _ _), (.int _ _), (.int _ _), (.int _ _), (.int _ _), (.int _ _), (.int _ _), (.slice _ _ _), (.int _ _), (.int _ _), (.slice _ _ _), (.int _ _), (.int _ _), (.int _ _), (.int _ _)] Try.zeroValue49 Try.runUnderlying49 ⟨rfl, Try.sizeOf3, rfl, Try.sizeOf26, rfl, Try.sizeOf26, rfl, Try.sizeOf3, rfl, Try.sizeOf26, rfl, Try.sizeOf3, rfl, Try.sizeOf3, rfl, Try.sizeOf3, rfl, Try.sizeOf2, rfl, Try.sizeOf2, rfl, Try.sizeOf3, rfl, Try.sizeOf3, rfl, Try.sizeOf26, rfl, Try.sizeOf47, trivial⟩ rfl rfl) ?_
                refine t_store (v := (.agg _)) Try.sizeOf49 hS (by repeat first | exact .here _ _ | assumption | apply Pick.there) rfl rfl rfl rfl rfl rfl (fun w hS => ?_)
                replace hS := hS.recast (congrArg (blkA g2 49) (setN_full (vs := zC.cells) (cmd_len zC).symm))
                refine t_q (q_assign) ?_
                refine t_nil ?_
                refine c_ret ?_
                refine r_two rfl (res1_cellN Try.isAgg49 Try.sizeOf49 rfl (hS.blk (by repeat first | exact .here _ _ | assumption | apply Pick.there)) rfl) rfl ?_
                first
                  | exact ⟨zC, 21, rfl, zC_by, outC_big (by omega), zC_rds hS⟩
                  | exact ⟨zC, 20, rfl, zC_by, hD, zC_rds hS⟩
                  | exact ⟨mkC s r, 0, rfl, mkC_by hr, hD, mkC_rds hS (by repeat first | exact .here _ _ | assumption | apply Pick.there) (by repeat first | exact .here _ _ | assumption | apply Pick.there)⟩
              · intro hg38
                have hg38d := of_decide_eq_false hg38
                refine t_yes rfl rfl hg38 ?_
                refine t_q (q_cast (v' := .agg (mkC s r).cells.toArray) (q_load_blk Try.isAgg49 Try.sizeOf49 rfl (hS.blk (by repeat first | exact .here _ _ | assumption | apply Pick.there)) rfl) (by unfold mkC; rfl)) ?_
                refine t_yes rfl rfl hg38 ?_
                refine t_call Try.call48 (csound_calls (x := mkC s r) (mkC_gd (cR_gd hr (rowRdTk hS (A := r.ticks.A) (c := r.ticks.c) (l := r.ticks.l) (by repeat first | exact .here _ _ | assumption | apply Pick.there) rfl) (rowRdTr hS (A := r.fees.A) (c := r.fees.c) (l := r.fees.l) (by repeat first | exact .here _ _ | assumption | apply Pick.there) rfl)))) rfl ?_
                rintro e w ⟨rfl, hT⟩
                refine ⟨_, rfl, ?_⟩
                replace hS := hS.after hT
                refine t_yes rfl rfl hg38 ?_
                refine t_q (q_not rfl) ?_
                refine t_q (q_pick_f rfl hg38) ?_
                refine t_nil ?_
                refine c_cond rfl ?_ ?_
                · intro hc40
                  have hD := outC_no hs (by omega) (by
                    first
                      | exact .inl (bnt (by assumption : (!cok (((c0 s).1 : Nat) : Int)) = true))
                      | exact .inr (.inr ⟨r, hr, bnt (by assumption : (!sndC (mkC s r)) = true)⟩)
                      | exact .inr (.inl (by omega)))
                  refine c_seq ?_
                  refine c_region ?_
                  refine t_q (q_build (qs := [(0, 1), (1, 1), (2, 1), (3, 1), (4, 1), (5, 1), (6, 1), (7, 1), (8, 1), (9, 1), (10, 1), (11, 1), (12, 1), (13, 9)]) [(.int _ _), (.int _ _), (.int _ _), (.int _ _), (.int _ _), (.int _ _), (.int _ _), (.int _ _), (.int _ _), (.int _ _), (.int _ _), (.int _ _), (.int _ _), (.int _ _), (.slice _ _ _), (.int _ _), (.int _ _), (.slice _ _ _), (.int _ _), (.int _ _), (.int _ _), (.int _ _)] Try.zeroValue49 Try.runUnderlying49 ⟨rfl, Try.sizeOf3, rfl, Try.sizeOf26, rfl, Try.sizeOf26, rfl, Try.sizeOf3, rfl, Try.sizeOf26, rfl, Try.sizeOf3, rfl, Try.sizeOf3, rfl, Try.sizeOf3, rfl, Try.sizeOf2, rfl, Try.sizeOf2, rfl, Try.sizeOf3, rfl, Try.sizeOf3, rfl, Try.sizeOf26, rfl, Try.sizeOf47, trivial⟩ rfl rfl) ?_
                  refine t_store (v := (.agg _)) Try.sizeOf49 hS (by repeat first | exact .here _ _ | assumption | apply Pick.there) rfl rfl rfl rfl rfl rfl (fun w hS => ?_)
                  replace hS := hS.recast (congrArg (blkA g2 49) (setN_full (vs := zC.cells) (cmd_len zC).symm))
                  refine t_q (q_assign) ?_
                  refine t_nil ?_
                  refine c_ret ?_
                  refine r_two rfl (res1_cellN Try.isAgg49 Try.sizeOf49 rfl (hS.blk (by repeat first | exact .here _ _ | assumption | apply Pick.there)) rfl) rfl ?_
                  first
                    | exact ⟨zC, 21, rfl, zC_by, outC_big (by omega), zC_rds hS⟩
                    | exact ⟨zC, 20, rfl, zC_by, hD, zC_rds hS⟩
                    | exact ⟨mkC s r, 0, rfl, mkC_by hr, hD, mkC_rds hS (by repeat first | exact .here _ _ | assumption | apply Pick.there) (by repeat first | exact .here _ _ | assumption | apply Pick.there)⟩
                · intro hc40
                  have hD := outC_yes hs (by omega) (by omega) hr (bnf (by assumption : (!sndC (mkC s r)) = false))
                  refine c_skip ?_
                  refine c_seq ?_
                  refine c_region ?_
                  refine t_q (q_cast (v' := .agg (mkC s r).cells.toArray) (q_load_blk Try.isAgg49 Try.sizeOf49 rfl (hS.blk (by repeat first | exact .here _ _ | assumption | apply Pick.there)) rfl) (by unfold mkC; rfl)) ?_
                  refine t_store (v := (.agg _)) Try.sizeOf49 hS (by repeat first | exact .here _ _ | assumption | apply Pick.there) rfl rfl rfl rfl rfl rfl (fun w hS => ?_)
                  replace hS := hS.recast (congrArg (blkA g2 49) (setN_full (vs := (mkC s r).cells) (cmd_len _).symm))
                  refine t_q (q_assign) ?_
                  refine t_nil ?_
                  refine c_ret ?_
                  refine r_two rfl (res1_cellN Try.isAgg49 Try.sizeOf49 rfl (hS.blk (by repeat first | exact .here _ _ | assumption | apply Pick.there)) rfl) rfl ?_
                  first
                    | exact ⟨zC, 21, rfl, zC_by, outC_big (by omega), zC_rds hS⟩
                    | exact ⟨zC, 20, rfl, zC_by, hD, zC_rds hS⟩
                    | exact ⟨mkC s r, 0, rfl, mkC_by hr, hD, mkC_rds hS (by repeat first | exact .here _ _ | assumption | apply Pick.there) (by repeat first | exact .here _ _ | assumption | apply Pick.there)⟩
end Go.Proofs.Ytmgobaojioaioaa
