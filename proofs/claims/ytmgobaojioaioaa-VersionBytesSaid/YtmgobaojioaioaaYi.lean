/- States read: over bytes that came in, or a row of the call's own. -/
import Derived.Test.YtmgobaojioaioaaYh
import Derived.Test.YtmgobaojioaioaaCo
import Derived.Test.YtmgobaojioaioaaDr
namespace Go.Proofs.Ytmgobaojioaioaa
open Go Go.RowKit Go.Lib
variable {W : World}
theorem voNat_all {w : World} {K : Asn} {L R R2 : List Asn} {g : Nat} {s : Rs} (hS : St W w L) (pk : Pick L (rdO W K 149 g s) R) (pk2 : Pick R K R2) : Calls Try.prog 89 #[.pointer (some ⟨g, 0, none⟩), .int .u64 18446744073709551615] w fun e w' => e = .returned (.int .u64 (((s.nat allNat).1 : Nat) : Int)) ∧ St W w' (rdO W K 149 g (s.nat allNat).2 :: R) := oNat (most := 18446744073709551615) hS pk pk2 (by decide) (by decide)
attribute [local irreducible] blkA rowA rdsA mapA regA wrA rdrA rdO
set_option maxRecDepth 100000 in
theorem voInt {w : World} {K : Asn} {L R R2 : List Asn} {g : Nat} {s : Rs} (hS : St W w L) (pk : Pick L (rdO W K 149 g s) R) (pk2 : Pick R K R2) : Calls Try.prog 88 #[.pointer (some ⟨g, 0, none⟩)] w fun e w' => e = .returned (.int .i64 s.int.1) ∧ St W w' (rdO W K 149 g s.int.2 :: R) := by
  refine calls_of_wpE (args := [_]) Try.func88 rfl rfl rfl ?_
  refine c_seq ?_
  refine c_region ?_
  refine t_q (q_assign) ?_
  refine t_nil ?_
  refine c_seq ?_
  refine c_region ?_
  refine t_q (q_mv (.pointer _) rfl) ?_
  refine t_call Try.call89 (voNat_all hS pk pk2) rfl ?_
  rintro e w ⟨rfl, hS⟩
  refine ⟨_, rfl, ?_⟩
  refine t_q (q_as (.int _ _) rfl) ?_
  refine t_nil ?_
  refine c_seq ?_
  have hlt := nat_lt s
  have hand : (s.nat allNat).1 &&& 1 ≤ 1 := Nat.and_le_right
  refine c_region ?_
  refine t_q (q_mv (.int _ _) rfl) ?_
  refine t_q (q_shr_n (D := 2) rfl rfl (by decide) (by decide) (by decide)) ?_
  refine t_q (q_conv_i64 Try.runUnderlying26 Try.runUnderlying2 rfl (by omega)) ?_
  refine t_q (q_mv (.int _ _) rfl) ?_
  refine t_q (q_cast (v' := .int .u64 (((s.nat allNat).1 &&& 1 : Nat) : Int)) (q_and_u64 rfl rfl (by omega) (by omega)) (rfl)) ?_
  refine t_q (q_conv_i64 Try.runUnderlying26 Try.runUnderlying2 rfl (by omega)) ?_
  refine t_q (q_neg_i64 rfl (by omega)) ?_
  refine t_q (q_cast (v' := .int .i64 (unzig (s.nat allNat).1)) (q_xor rfl rfl) (by rw [unzig_bits hlt])) ?_
  refine t_q (q_as (.int _ _) rfl) ?_
  refine t_nil ?_
  refine c_ret ?_
  refine r_one rfl rfl ?_
  exact ⟨rfl, hS⟩
set_option maxRecDepth 100000 in
theorem voBad {w : World} {K : Asn} {L R : List Asn} {g : Nat} {s : Rs} (hS : St W w L) (pk : Pick L (rdO W K 149 g s) R) : Calls Try.prog 40 #[.pointer (some ⟨g, 0, none⟩)] w fun e w' => e = .returned (.bool s.bad) ∧ St W w' (rdO W K 149 g s :: R) := by
  obtain ⟨A, c, hR, hc, hS⟩ := (hS.pick pk).rdo
  refine calls_of_wpE (args := [_]) Try.func40 rfl rfl rfl ?_
  refine c_seq ?_
  refine c_region ?_
  refine t_q (q_assign) ?_
  refine t_nil ?_
  refine c_seq ?_
  refine c_region ?_
  refine t_q (q_mv (.pointer _) rfl) ?_
  refine t_q (q_neq_ptr_nil Try.runUnderlying79 rfl rfl) ?_
  refine t_q (q_mv (.bool _) rfl) ?_
  refine t_yes rfl rfl rfl ?_
  refine t_q (q_mv (.pointer _) rfl) ?_
  refine t_yes rfl rfl rfl ?_
  refine t_q (q_nilCheck rfl) ?_
  refine t_yes rfl rfl rfl ?_
  refine t_q (q_fieldAddr 1 Try.runUnderlying149 rfl Try.sizeOf4 (by decide) rfl rfl) ?_
  refine t_yes rfl rfl rfl ?_
  refine t_q (q_load1 Try.isAgg4 rfl (hS.cell (by repeat first | exact .here _ _ | assumption | apply Pick.there) rfl)) ?_
  refine t_q (q_pick_t rfl rfl) ?_
  refine t_q (q_as (.bool _) rfl) ?_
  refine t_nil ?_
  refine c_ret ?_
  refine r_one rfl rfl ?_
  exact ⟨by cases s.bad <;> rfl, hS.unrdo rfl rfl hR hc⟩
set_option maxRecDepth 100000 in
theorem vnumr {w : World} {R : List Asn} {g g1 : Nat} {s : Rs} (hS : St W w (rdrA W 149 g s :: blkA g1 79 [.pointer (some ⟨g, 0, none⟩)] :: R)) : Calls Try.prog 87 #[.pointer (some ⟨g1, 0, none⟩)] w fun e w' => e = .returned (.int .i64 s.int.1) ∧ St W w' (rdrA W 149 g s.int.2 :: blkA g1 79 [.pointer (some ⟨g, 0, none⟩)] :: R) := by
  refine calls_of_wpE (args := [_]) Try.func87 rfl rfl rfl ?_
  refine c_seq ?_
  refine c_region ?_
  refine t_q (q_assign) ?_
  refine t_nil ?_
  refine c_seq ?_
  refine c_region ?_
  refine t_q (q_load1 Try.isAgg79 rfl (hS.cell (by repeat first | exact .here _ _ | assumption | apply Pick.there) rfl)) ?_
  refine t_call Try.call88 (rInt hS (.here _ _)) rfl ?_
  rintro e w ⟨rfl, hS⟩
  refine ⟨_, rfl, ?_⟩
  refine t_q (q_as (.int _ _) rfl) ?_
  refine t_nil ?_
  refine c_ret ?_
  refine r_one rfl rfl ?_
  exact ⟨rfl, hS⟩
theorem vnumr0 {w : World} {R : List Asn} {g g1 : Nat} {s : Rs} (hS : St W w (rdrA W 149 g s :: blkA g1 79 [.pointer (some ⟨g, 0, none⟩)] :: R)) : Calls Try.prog 87 #[.pointer (some ⟨g1, 0, none⟩)] w fun e w' => e = .returned (.int .i64 (v0 s).1) ∧ St W w' (rdrA W 149 g (v0 s).2 :: blkA g1 79 [.pointer (some ⟨g, 0, none⟩)] :: R) := vnumr hS
theorem vnumr1 {w : World} {R : List Asn} {g g1 : Nat} {s : Rs} (hS : St W w (rdrA W 149 g (v0 s).2 :: blkA g1 79 [.pointer (some ⟨g, 0, none⟩)] :: R)) : Calls Try.prog 87 #[.pointer (some ⟨g1, 0, none⟩)] w fun e w' => e = .returned (.int .i64 (v1 s).1) ∧ St W w' (rdrA W 149 g (v1 s).2 :: blkA g1 79 [.pointer (some ⟨g, 0, none⟩)] :: R) := vnumr hS
theorem vnumr2 {w : World} {R : List Asn} {g g1 : Nat} {s : Rs} (hS : St W w (rdrA W 149 g (v1 s).2 :: blkA g1 79 [.pointer (some ⟨g, 0, none⟩)] :: R)) : Calls Try.prog 87 #[.pointer (some ⟨g1, 0, none⟩)] w fun e w' => e = .returned (.int .i64 (v2 s).1) ∧ St W w' (rdrA W 149 g (v2 s).2 :: blkA g1 79 [.pointer (some ⟨g, 0, none⟩)] :: R) := vnumr hS
theorem vnumr4 {w : World} {R : List Asn} {g g1 : Nat} {s : Rs} (hS : St W w (rdrA W 149 g (v3 s).2 :: blkA g1 79 [.pointer (some ⟨g, 0, none⟩)] :: R)) : Calls Try.prog 87 #[.pointer (some ⟨g1, 0, none⟩)] w fun e w' => e = .returned (.int .i64 (v4 s).1) ∧ St W w' (rdrA W 149 g (v4 s).2 :: blkA g1 79 [.pointer (some ⟨g, 0, none⟩)] :: R) := vnumr hS
theorem vnatr3 {w : World} {R : List Asn} {g g1 : Nat} {s : Rs} (hS : St W w (rdrA W 149 g (v2 s).2 :: blkA g1 79 [.pointer (some ⟨g, 0, none⟩)] :: R)) : Calls Try.prog 89 #[.pointer (some ⟨g, 0, none⟩), .int .u64 18446744073709551615] w fun e w' => e = .returned (.int .u64 ((v3 s).1 : Int)) ∧ St W w' (rdrA W 149 g (v3 s).2 :: blkA g1 79 [.pointer (some ⟨g, 0, none⟩)] :: R) := rNat_all hS (.here _ _)
set_option maxRecDepth 100000 in
theorem vnumo {w : World} {R : List Asn} {g g1 : Nat} {K : Asn} {s : Rs} (hS : St W w (rdO W K 149 g s :: blkA g1 79 [.pointer (some ⟨g, 0, none⟩)] :: K :: R)) : Calls Try.prog 87 #[.pointer (some ⟨g1, 0, none⟩)] w fun e w' => e = .returned (.int .i64 s.int.1) ∧ St W w' (rdO W K 149 g s.int.2 :: blkA g1 79 [.pointer (some ⟨g, 0, none⟩)] :: K :: R) := by
  refine calls_of_wpE (args := [_]) Try.func87 rfl rfl rfl ?_
  refine c_seq ?_
  refine c_region ?_
  refine t_q (q_assign) ?_
  refine t_nil ?_
  refine c_seq ?_
  refine c_region ?_
  refine t_q (q_load1 Try.isAgg79 rfl (hS.cell (by repeat first | exact .here _ _ | assumption | apply Pick.there) rfl)) ?_
  refine t_call Try.call88 (voInt hS (.here _ _) (.there (.here _ _))) rfl ?_
  rintro e w ⟨rfl, hS⟩
  refine ⟨_, rfl, ?_⟩
  refine t_q (q_as (.int _ _) rfl) ?_
  refine t_nil ?_
  refine c_ret ?_
  refine r_one rfl rfl ?_
  exact ⟨rfl, hS⟩
theorem vnumo0 {w : World} {R : List Asn} {g g1 : Nat} {K : Asn} {s : Rs} (hS : St W w (rdO W K 149 g s :: blkA g1 79 [.pointer (some ⟨g, 0, none⟩)] :: K :: R)) : Calls Try.prog 87 #[.pointer (some ⟨g1, 0, none⟩)] w fun e w' => e = .returned (.int .i64 (v0 s).1) ∧ St W w' (rdO W K 149 g (v0 s).2 :: blkA g1 79 [.pointer (some ⟨g, 0, none⟩)] :: K :: R) := vnumo hS
theorem vnumo1 {w : World} {R : List Asn} {g g1 : Nat} {K : Asn} {s : Rs} (hS : St W w (rdO W K 149 g (v0 s).2 :: blkA g1 79 [.pointer (some ⟨g, 0, none⟩)] :: K :: R)) : Calls Try.prog 87 #[.pointer (some ⟨g1, 0, none⟩)] w fun e w' => e = .returned (.int .i64 (v1 s).1) ∧ St W w' (rdO W K 149 g (v1 s).2 :: blkA g1 79 [.pointer (some ⟨g, 0, none⟩)] :: K :: R) := vnumo hS
theorem vnumo2 {w : World} {R : List Asn} {g g1 : Nat} {K : Asn} {s : Rs} (hS : St W w (rdO W K 149 g (v1 s).2 :: blkA g1 79 [.pointer (some ⟨g, 0, none⟩)] :: K :: R)) : Calls Try.prog 87 #[.pointer (some ⟨g1, 0, none⟩)] w fun e w' => e = .returned (.int .i64 (v2 s).1) ∧ St W w' (rdO W K 149 g (v2 s).2 :: blkA g1 79 [.pointer (some ⟨g, 0, none⟩)] :: K :: R) := vnumo hS
theorem vnumo4 {w : World} {R : List Asn} {g g1 : Nat} {K : Asn} {s : Rs} (hS : St W w (rdO W K 149 g (v3 s).2 :: blkA g1 79 [.pointer (some ⟨g, 0, none⟩)] :: K :: R)) : Calls Try.prog 87 #[.pointer (some ⟨g1, 0, none⟩)] w fun e w' => e = .returned (.int .i64 (v4 s).1) ∧ St W w' (rdO W K 149 g (v4 s).2 :: blkA g1 79 [.pointer (some ⟨g, 0, none⟩)] :: K :: R) := vnumo hS
theorem vnato3 {w : World} {R : List Asn} {g g1 : Nat} {K : Asn} {s : Rs} (hS : St W w (rdO W K 149 g (v2 s).2 :: blkA g1 79 [.pointer (some ⟨g, 0, none⟩)] :: K :: R)) : Calls Try.prog 89 #[.pointer (some ⟨g, 0, none⟩), .int .u64 18446744073709551615] w fun e w' => e = .returned (.int .u64 ((v3 s).1 : Int)) ∧ St W w' (rdO W K 149 g (v3 s).2 :: blkA g1 79 [.pointer (some ⟨g, 0, none⟩)] :: K :: R) := voNat_all hS (.here _ _) (.there (.here _ _))
attribute [local irreducible] v0 v1 v2 v3 v4
set_option maxHeartbeats 1000000 in
set_option maxRecDepth 100000 in
theorem vreadr {w : World} {R : List Asn} {g : Nat} {s : Rs} (hS : St W w (rdrA W 149 g s :: R)) : Calls Try.prog 36 #[.pointer (some ⟨g, 0, none⟩)] w fun e w' => e = .returned (.agg (vrd s).cells.toArray) ∧ St W w' (rdrA W 149 g (v4 s).2 :: R) := by
  refine calls_of_wpE (args := [_]) Try.func36 rfl rfl rfl ?_
  refine c_seq ?_
  refine c_region ?_
  refine t_box (v := (.pointer _)) rfl rfl hS (fun g1 w hS => ?_)
  replace hS := hS.recast (show _ = blkA g1 79 [.pointer (some ⟨g, 0, none⟩)] from rfl)
  refine t_alloc Try.zeroValue28 rfl hS (fun g2 w hS => ?_)
  refine t_nil ?_
  refine c_seq ?_
  refine c_region ?_
  refine t_q (q_makeFunc rfl) ?_
  refine t_q (q_as (.func _ _ _) rfl) ?_
  refine t_nil ?_
  refine c_seq ?_
  refine c_draw ?_
  refine d_keep (blkA g1 79 [.pointer (some ⟨g, 0, none⟩)]) 13 [0, 1, 2, 3, 4, 5, 6, 7, 8, 9, 10, 11, 12] [0, 1, 2, 3, 4, 5, 6, 7, 8, 9, 10, 11, 12] hS rfl (by kernel_rfl) (by kernel_rfl) (by kernel_rfl) (by kernel_rfl) (fun hap hsel w hS => ?_)
  refine p_q hap hsel 0 rfl rfl ⟨_, hS.pick (by repeat first | exact .here _ _ | assumption | apply Pick.there)⟩ (fun w hI => q_mv (.func _ _ _) rfl) ?_
  refine p_q hap hsel 2 rfl rfl ⟨_, hS.pick (by repeat first | exact .here _ _ | assumption | apply Pick.there)⟩ (fun w hI => q_mv (.func _ _ _) rfl) ?_
  refine p_q hap hsel 4 rfl rfl ⟨_, hS.pick (by repeat first | exact .here _ _ | assumption | apply Pick.there)⟩ (fun w hI => q_mv (.func _ _ _) rfl) ?_
  refine p_q hap hsel 6 rfl rfl ⟨_, hS.pick (by repeat first | exact .here _ _ | assumption | apply Pick.there)⟩ (fun w hI => q_load1 Try.isAgg79 rfl (hI.choose_spec.cell (by repeat first | exact .here _ _ | assumption | apply Pick.there) rfl)) ?_
  refine p_q hap hsel 8 rfl rfl ⟨_, hS.pick (by repeat first | exact .here _ _ | assumption | apply Pick.there)⟩ (fun w hI => q_mv (.func _ _ _) rfl) ?_
  refine p_two 1 11 rfl rfl (by kernel_rfl) ?_ ?_
  ·
    refine t_callv Try.call87 rfl (vnumr0 (s := s) ((hS.pick (A := blkA g1 79 [.pointer (some ⟨g, 0, none⟩)]) (by repeat first | exact .here _ _ | assumption | apply Pick.there)).pick (A := rdrA W 149 g _) (by repeat first | exact .here _ _ | assumption | apply Pick.there))) rfl ?_
    rintro e w ⟨rfl, hS⟩
    refine ⟨_, rfl, ?_⟩
    refine t_nil ?_
    refine ⟨.inr ⟨_, hS.pick (by repeat first | exact .here _ _ | assumption | apply Pick.there)⟩, ?_⟩
    refine p_two 3 11 rfl rfl (by kernel_rfl) ?_ ?_
    ·
      refine t_callv Try.call87 rfl (vnumr1 (s := s) ((hS.pick (A := blkA g1 79 [.pointer (some ⟨g, 0, none⟩)]) (by repeat first | exact .here _ _ | assumption | apply Pick.there)).pick (A := rdrA W 149 g _) (by repeat first | exact .here _ _ | assumption | apply Pick.there))) rfl ?_
      rintro e w ⟨rfl, hS⟩
      refine ⟨_, rfl, ?_⟩
      refine t_nil ?_
      refine ⟨.inr ⟨_, hS.pick (by repeat first | exact .here _ _ | assumption | apply Pick.there)⟩, ?_⟩
      refine p_two 5 11 rfl rfl (by kernel_rfl) ?_ ?_
      ·
        refine t_callv Try.call87 rfl (vnumr2 (s := s) ((hS.pick (A := blkA g1 79 [.pointer (some ⟨g, 0, none⟩)]) (by repeat first | exact .here _ _ | assumption | apply Pick.there)).pick (A := rdrA W 149 g _) (by repeat first | exact .here _ _ | assumption | apply Pick.there))) rfl ?_
        rintro e w ⟨rfl, hS⟩
        refine ⟨_, rfl, ?_⟩
        refine t_nil ?_
        refine ⟨.inr ⟨_, hS.pick (by repeat first | exact .here _ _ | assumption | apply Pick.there)⟩, ?_⟩
        refine p_two 7 11 rfl rfl (by kernel_rfl) ?_ ?_
        ·
          refine t_call Try.call89 (vnatr3 (s := s) ((hS.pick (A := blkA g1 79 [.pointer (some ⟨g, 0, none⟩)]) (by repeat first | exact .here _ _ | assumption | apply Pick.there)).pick (A := rdrA W 149 g _) (by repeat first | exact .here _ _ | assumption | apply Pick.there))) rfl ?_
          rintro e w ⟨rfl, hS⟩
          refine ⟨_, rfl, ?_⟩
          refine t_nil ?_
          refine ⟨.inr ⟨_, hS.pick (by repeat first | exact .here _ _ | assumption | apply Pick.there)⟩, ?_⟩
          refine p_two 9 11 rfl rfl (by kernel_rfl) ?_ ?_
          ·
            refine t_callv Try.call87 rfl (vnumr4 (s := s) ((hS.pick (A := blkA g1 79 [.pointer (some ⟨g, 0, none⟩)]) (by repeat first | exact .here _ _ | assumption | apply Pick.there)).pick (A := rdrA W 149 g _) (by repeat first | exact .here _ _ | assumption | apply Pick.there))) rfl ?_
            rintro e w ⟨rfl, hS⟩
            refine ⟨_, rfl, ?_⟩
            refine t_nil ?_
            refine ⟨.inr ⟨_, hS.pick (by repeat first | exact .here _ _ | assumption | apply Pick.there)⟩, ?_⟩
            refine p_q hap hsel 10 rfl rfl ⟨_, hS.pick (by repeat first | exact .here _ _ | assumption | apply Pick.there)⟩ (fun w hI => q_build (qs := [(0, 1), (1, 1), (2, 1), (3, 1), (4, 1)]) [.int .i64 (v0 s).1, .int .i64 (v1 s).1, .int .i64 (v2 s).1, .int .u64 ((v3 s).1 : Int), .int .i64 (v4 s).1] Try.zeroValue28 Try.runUnderlying28 ⟨rfl, Try.sizeOf3, rfl, Try.sizeOf3, rfl, Try.sizeOf3, rfl, Try.sizeOf26, rfl, Try.sizeOf3, trivial⟩ rfl rfl) ?_
            refine p_one 11 rfl (by kernel_rfl) ?_
            refine t_alloc Try.zeroValue28 rfl hS (fun g4 w hS => ?_)
            refine t_nil ?_
            refine ⟨.inr ⟨_, hS.pick (by repeat first | exact .here _ _ | assumption | apply Pick.there)⟩, ?_⟩
            refine p_one 12 rfl (by kernel_rfl) ?_
            refine t_store (v := (.agg _)) Try.sizeOf28 hS (by repeat first | exact .here _ _ | assumption | apply Pick.there) rfl rfl rfl rfl rfl rfl (fun w hS => ?_)
            replace hS := hS.recast (congrArg (blkA g4 28) (rset_full (vs := (stM s).cells) rfl))
            refine t_nil ?_
            refine ⟨.inl (by kernel_rfl), ?_⟩
            refine p_end (by kernel_rfl) ?_
            refine c_seq ?_
            refine c_seq ?_
            refine c_region ?_
            refine t_q (q_load1 Try.isAgg79 rfl (hS.cell (by repeat first | exact .here _ _ | assumption | apply Pick.there) rfl)) ?_
            refine t_call Try.call40 (rBad hS (by repeat first | exact .here _ _ | assumption | apply Pick.there)) rfl ?_
            rintro e w ⟨rfl, hS⟩
            refine ⟨_, rfl, ?_⟩
            refine t_nil ?_
            refine c_cond rfl ?_ ?_
            · intro hc7
              have hD := vrd_bad (s := s) hc7
              refine c_seq ?_
              refine c_region ?_
              refine t_q (q_build (qs := [(0, 1), (1, 1), (2, 1), (3, 1), (4, 1)]) [(.int _ _), (.int _ _), (.int _ _), (.int _ _), (.int _ _)] Try.zeroValue28 Try.runUnderlying28 ⟨rfl, Try.sizeOf3, rfl, Try.sizeOf3, rfl, Try.sizeOf3, rfl, Try.sizeOf26, rfl, Try.sizeOf3, trivial⟩ rfl rfl) ?_
              refine t_store (v := (.agg _)) Try.sizeOf28 hS (by repeat first | exact .here _ _ | assumption | apply Pick.there) rfl rfl rfl rfl rfl rfl (fun w hS => ?_)
              replace hS := hS.recast (congrArg (blkA g2 28) (rset_full (vs := (⟨0, 0, 0, 0, 0⟩ : StV).cells) rfl))
              refine t_nil ?_
              refine c_ret ?_
              refine r_one rfl (res1_cellN Try.isAgg28 Try.sizeOf28 rfl (hS.blk (by repeat first | exact .here _ _ | assumption | apply Pick.there)) rfl) ?_
              rw [hD]
              exact ⟨rfl, ((((hS.pick (A := blkA g4 28 _) (by repeat first | exact .here _ _ | assumption | apply Pick.there)).drop.pick (A := blkA g2 28 _) (by repeat first | exact .here _ _ | assumption | apply Pick.there)).drop.pick (A := blkA g1 79 [.pointer (some ⟨g, 0, none⟩)]) (by repeat first | exact .here _ _ | assumption | apply Pick.there)).drop.pick (A := rdrA W 149 g _) (by repeat first | exact .here _ _ | assumption | apply Pick.there))⟩
            · intro hc7
              have hD := vrd_ok (s := s) hc7
              refine c_skip ?_
              refine c_seq ?_
              refine c_region ?_
              refine t_q (q_cast (v' := .agg (stM s).cells.toArray) (q_load_blk Try.isAgg28 Try.sizeOf28 rfl (hS.blk (by repeat first | exact .here _ _ | assumption | apply Pick.there)) rfl) (by rfl)) ?_
              refine t_store (v := (.agg _)) Try.sizeOf28 hS (by repeat first | exact .here _ _ | assumption | apply Pick.there) rfl rfl rfl rfl rfl rfl (fun w hS => ?_)
              replace hS := hS.recast (congrArg (blkA g2 28) (rset_full (vs := (stM s).cells) rfl))
              refine t_nil ?_
              refine c_ret ?_
              refine r_one rfl (res1_cellN Try.isAgg28 Try.sizeOf28 rfl (hS.blk (by repeat first | exact .here _ _ | assumption | apply Pick.there)) rfl) ?_
              rw [hD]
              exact ⟨rfl, ((((hS.pick (A := blkA g4 28 _) (by repeat first | exact .here _ _ | assumption | apply Pick.there)).drop.pick (A := blkA g2 28 _) (by repeat first | exact .here _ _ | assumption | apply Pick.there)).drop.pick (A := blkA g1 79 [.pointer (some ⟨g, 0, none⟩)]) (by repeat first | exact .here _ _ | assumption | apply Pick.there)).drop.pick (A := rdrA W 149 g _) (by repeat first | exact .here _ _ | assumption | apply Pick.there))⟩
          ·
            refine t_alloc Try.zeroValue28 rfl hS (fun g4 w hS => ?_)
            refine t_nil ?_
            refine ⟨.inr ⟨_, hS.pick (by repeat first | exact .here _ _ | assumption | apply Pick.there)⟩, ?_⟩
            refine p_one 9 rfl (by kernel_rfl) ?_
            refine t_callv Try.call87 rfl (vnumr4 (s := s) ((hS.pick (A := blkA g1 79 [.pointer (some ⟨g, 0, none⟩)]) (by repeat first | exact .here _ _ | assumption | apply Pick.there)).pick (A := rdrA W 149 g _) (by repeat first | exact .here _ _ | assumption | apply Pick.there))) rfl ?_
            rintro e w ⟨rfl, hS⟩
            refine ⟨_, rfl, ?_⟩
            refine t_nil ?_
            refine ⟨.inr ⟨_, hS.pick (by repeat first | exact .here _ _ | assumption | apply Pick.there)⟩, ?_⟩
            refine p_q hap hsel 10 rfl rfl ⟨_, hS.pick (by repeat first | exact .here _ _ | assumption | apply Pick.there)⟩ (fun w hI => q_build (qs := [(0, 1), (1, 1), (2, 1), (3, 1), (4, 1)]) [.int .i64 (v0 s).1, .int .i64 (v1 s).1, .int .i64 (v2 s).1, .int .u64 ((v3 s).1 : Int), .int .i64 (v4 s).1] Try.zeroValue28 Try.runUnderlying28 ⟨rfl, Try.sizeOf3, rfl, Try.sizeOf3, rfl, Try.sizeOf3, rfl, Try.sizeOf26, rfl, Try.sizeOf3, trivial⟩ rfl rfl) ?_
            refine p_one 12 rfl (by kernel_rfl) ?_
            refine t_store (v := (.agg _)) Try.sizeOf28 hS (by repeat first | exact .here _ _ | assumption | apply Pick.there) rfl rfl rfl rfl rfl rfl (fun w hS => ?_)
            replace hS := hS.recast (congrArg (blkA g4 28) (rset_full (vs := (stM s).cells) rfl))
            refine t_nil ?_
            refine ⟨.inl (by kernel_rfl), ?_⟩
            refine p_end (by kernel_rfl) ?_
            refine c_seq ?_
            refine c_seq ?_
            refine c_region ?_
            refine t_q (q_load1 Try.isAgg79 rfl (hS.cell (by repeat first | exact .here _ _ | assumption | apply Pick.there) rfl)) ?_
            refine t_call Try.call40 (rBad hS (by repeat first | exact .here _ _ | assumption | apply Pick.there)) rfl ?_
            rintro e w ⟨rfl, hS⟩
            refine ⟨_, rfl, ?_⟩
            refine t_nil ?_
            refine c_cond rfl ?_ ?_
            · intro hc10
              have hD := vrd_bad (s := s) hc10
              refine c_seq ?_
              refine c_region ?_
              refine t_q (q_build (qs := [(0, 1), (1, 1), (2, 1), (3, 1), (4, 1)]) [(.int _ _), (.int _ _), (.int _ _), (.int _ _), (.int _ _)] Try.zeroValue28 Try.runUnderlying28 ⟨rfl, Try.sizeOf3, rfl, Try.sizeOf3, rfl, Try.sizeOf3, rfl, Try.sizeOf26, rfl, Try.sizeOf3, trivial⟩ rfl rfl) ?_
              refine t_store (v := (.agg _)) Try.sizeOf28 hS (by repeat first | exact .here _ _ | assumption | apply Pick.there) rfl rfl rfl rfl rfl rfl (fun w hS => ?_)
              replace hS := hS.recast (congrArg (blkA g2 28) (rset_full (vs := (⟨0, 0, 0, 0, 0⟩ : StV).cells) rfl))
              refine t_nil ?_
              refine c_ret ?_
              refine r_one rfl (res1_cellN Try.isAgg28 Try.sizeOf28 rfl (hS.blk (by repeat first | exact .here _ _ | assumption | apply Pick.there)) rfl) ?_
              rw [hD]
              exact ⟨rfl, ((((hS.pick (A := blkA g4 28 _) (by repeat first | exact .here _ _ | assumption | apply Pick.there)).drop.pick (A := blkA g2 28 _) (by repeat first | exact .here _ _ | assumption | apply Pick.there)).drop.pick (A := blkA g1 79 [.pointer (some ⟨g, 0, none⟩)]) (by repeat first | exact .here _ _ | assumption | apply Pick.there)).drop.pick (A := rdrA W 149 g _) (by repeat first | exact .here _ _ | assumption | apply Pick.there))⟩
            · intro hc10
              have hD := vrd_ok (s := s) hc10
              refine c_skip ?_
              refine c_seq ?_
              refine c_region ?_
              refine t_q (q_cast (v' := .agg (stM s).cells.toArray) (q_load_blk Try.isAgg28 Try.sizeOf28 rfl (hS.blk (by repeat first | exact .here _ _ | assumption | apply Pick.there)) rfl) (by rfl)) ?_
              refine t_store (v := (.agg _)) Try.sizeOf28 hS (by repeat first | exact .here _ _ | assumption | apply Pick.there) rfl rfl rfl rfl rfl rfl (fun w hS => ?_)
              replace hS := hS.recast (congrArg (blkA g2 28) (rset_full (vs := (stM s).cells) rfl))
              refine t_nil ?_
              refine c_ret ?_
              refine r_one rfl (res1_cellN Try.isAgg28 Try.sizeOf28 rfl (hS.blk (by repeat first | exact .here _ _ | assumption | apply Pick.there)) rfl) ?_
              rw [hD]
              exact ⟨rfl, ((((hS.pick (A := blkA g4 28 _) (by repeat first | exact .here _ _ | assumption | apply Pick.there)).drop.pick (A := blkA g2 28 _) (by repeat first | exact .here _ _ | assumption | apply Pick.there)).drop.pick (A := blkA g1 79 [.pointer (some ⟨g, 0, none⟩)]) (by repeat first | exact .here _ _ | assumption | apply Pick.there)).drop.pick (A := rdrA W 149 g _) (by repeat first | exact .here _ _ | assumption | apply Pick.there))⟩
        ·
          refine t_alloc Try.zeroValue28 rfl hS (fun g4 w hS => ?_)
          refine t_nil ?_
          refine ⟨.inr ⟨_, hS.pick (by repeat first | exact .here _ _ | assumption | apply Pick.there)⟩, ?_⟩
          refine p_one 7 rfl (by kernel_rfl) ?_
          refine t_call Try.call89 (vnatr3 (s := s) ((hS.pick (A := blkA g1 79 [.pointer (some ⟨g, 0, none⟩)]) (by repeat first | exact .here _ _ | assumption | apply Pick.there)).pick (A := rdrA W 149 g _) (by repeat first | exact .here _ _ | assumption | apply Pick.there))) rfl ?_
          rintro e w ⟨rfl, hS⟩
          refine ⟨_, rfl, ?_⟩
          refine t_nil ?_
          refine ⟨.inr ⟨_, hS.pick (by repeat first | exact .here _ _ | assumption | apply Pick.there)⟩, ?_⟩
          refine p_one 9 rfl (by kernel_rfl) ?_
          refine t_callv Try.call87 rfl (vnumr4 (s := s) ((hS.pick (A := blkA g1 79 [.pointer (some ⟨g, 0, none⟩)]) (by repeat first | exact .here _ _ | assumption | apply Pick.there)).pick (A := rdrA W 149 g _) (by repeat first | exact .here _ _ | assumption | apply Pick.there))) rfl ?_
          rintro e w ⟨rfl, hS⟩
          refine ⟨_, rfl, ?_⟩
          refine t_nil ?_
          refine ⟨.inr ⟨_, hS.pick (by repeat first | exact .here _ _ | assumption | apply Pick.there)⟩, ?_⟩
          refine p_q hap hsel 10 rfl rfl ⟨_, hS.pick (by repeat first | exact .here _ _ | assumption | apply Pick.there)⟩ (fun w hI => q_build (qs := [(0, 1), (1, 1), (2, 1), (3, 1), (4, 1)]) [.int .i64 (v0 s).1, .int .i64 (v1 s).1, .int .i64 (v2 s).1, .int .u64 ((v3 s).1 : Int), .int .i64 (v4 s).1] Try.zeroValue28 Try.runUnderlying28 ⟨rfl, Try.sizeOf3, rfl, Try.sizeOf3, rfl, Try.sizeOf3, rfl, Try.sizeOf26, rfl, Try.sizeOf3, trivial⟩ rfl rfl) ?_
          refine p_one 12 rfl (by kernel_rfl) ?_
          refine t_store (v := (.agg _)) Try.sizeOf28 hS (by repeat first | exact .here _ _ | assumption | apply Pick.there) rfl rfl rfl rfl rfl rfl (fun w hS => ?_)
          replace hS := hS.recast (congrArg (blkA g4 28) (rset_full (vs := (stM s).cells) rfl))
          refine t_nil ?_
          refine ⟨.inl (by kernel_rfl), ?_⟩
          refine p_end (by kernel_rfl) ?_
          refine c_seq ?_
          refine c_seq ?_
          refine c_region ?_
          refine t_q (q_load1 Try.isAgg79 rfl (hS.cell (by repeat first | exact .here _ _ | assumption | apply Pick.there) rfl)) ?_
          refine t_call Try.call40 (rBad hS (by repeat first | exact .here _ _ | assumption | apply Pick.there)) rfl ?_
          rintro e w ⟨rfl, hS⟩
          refine ⟨_, rfl, ?_⟩
          refine t_nil ?_
          refine c_cond rfl ?_ ?_
          · intro hc14
            have hD := vrd_bad (s := s) hc14
            refine c_seq ?_
            refine c_region ?_
            refine t_q (q_build (qs := [(0, 1), (1, 1), (2, 1), (3, 1), (4, 1)]) [(.int _ _), (.int _ _), (.int _ _), (.int _ _), (.int _ _)] Try.zeroValue28 Try.runUnderlying28 ⟨rfl, Try.sizeOf3, rfl, Try.sizeOf3, rfl, Try.sizeOf3, rfl, Try.sizeOf26, rfl, Try.sizeOf3, trivial⟩ rfl rfl) ?_
            refine t_store (v := (.agg _)) Try.sizeOf28 hS (by repeat first | exact .here _ _ | assumption | apply Pick.there) rfl rfl rfl rfl rfl rfl (fun w hS => ?_)
            replace hS := hS.recast (congrArg (blkA g2 28) (rset_full (vs := (⟨0, 0, 0, 0, 0⟩ : StV).cells) rfl))
            refine t_nil ?_
            refine c_ret ?_
            refine r_one rfl (res1_cellN Try.isAgg28 Try.sizeOf28 rfl (hS.blk (by repeat first | exact .here _ _ | assumption | apply Pick.there)) rfl) ?_
            rw [hD]
            exact ⟨rfl, ((((hS.pick (A := blkA g4 28 _) (by repeat first | exact .here _ _ | assumption | apply Pick.there)).drop.pick (A := blkA g2 28 _) (by repeat first | exact .here _ _ | assumption | apply Pick.there)).drop.pick (A := blkA g1 79 [.pointer (some ⟨g, 0, none⟩)]) (by repeat first | exact .here _ _ | assumption | apply Pick.there)).drop.pick (A := rdrA W 149 g _) (by repeat first | exact .here _ _ | assumption | apply Pick.there))⟩
          · intro hc14
            have hD := vrd_ok (s := s) hc14
            refine c_skip ?_
            refine c_seq ?_
            refine c_region ?_
            refine t_q (q_cast (v' := .agg (stM s).cells.toArray) (q_load_blk Try.isAgg28 Try.sizeOf28 rfl (hS.blk (by repeat first | exact .here _ _ | assumption | apply Pick.there)) rfl) (by rfl)) ?_
            refine t_store (v := (.agg _)) Try.sizeOf28 hS (by repeat first | exact .here _ _ | assumption | apply Pick.there) rfl rfl rfl rfl rfl rfl (fun w hS => ?_)
            replace hS := hS.recast (congrArg (blkA g2 28) (rset_full (vs := (stM s).cells) rfl))
            refine t_nil ?_
            refine c_ret ?_
            refine r_one rfl (res1_cellN Try.isAgg28 Try.sizeOf28 rfl (hS.blk (by repeat first | exact .here _ _ | assumption | apply Pick.there)) rfl) ?_
            rw [hD]
            exact ⟨rfl, ((((hS.pick (A := blkA g4 28 _) (by repeat first | exact .here _ _ | assumption | apply Pick.there)).drop.pick (A := blkA g2 28 _) (by repeat first | exact .here _ _ | assumption | apply Pick.there)).drop.pick (A := blkA g1 79 [.pointer (some ⟨g, 0, none⟩)]) (by repeat first | exact .here _ _ | assumption | apply Pick.there)).drop.pick (A := rdrA W 149 g _) (by repeat first | exact .here _ _ | assumption | apply Pick.there))⟩
      ·
        refine t_alloc Try.zeroValue28 rfl hS (fun g4 w hS => ?_)
        refine t_nil ?_
        refine ⟨.inr ⟨_, hS.pick (by repeat first | exact .here _ _ | assumption | apply Pick.there)⟩, ?_⟩
        refine p_one 5 rfl (by kernel_rfl) ?_
        refine t_callv Try.call87 rfl (vnumr2 (s := s) ((hS.pick (A := blkA g1 79 [.pointer (some ⟨g, 0, none⟩)]) (by repeat first | exact .here _ _ | assumption | apply Pick.there)).pick (A := rdrA W 149 g _) (by repeat first | exact .here _ _ | assumption | apply Pick.there))) rfl ?_
        rintro e w ⟨rfl, hS⟩
        refine ⟨_, rfl, ?_⟩
        refine t_nil ?_
        refine ⟨.inr ⟨_, hS.pick (by repeat first | exact .here _ _ | assumption | apply Pick.there)⟩, ?_⟩
        refine p_one 7 rfl (by kernel_rfl) ?_
        refine t_call Try.call89 (vnatr3 (s := s) ((hS.pick (A := blkA g1 79 [.pointer (some ⟨g, 0, none⟩)]) (by repeat first | exact .here _ _ | assumption | apply Pick.there)).pick (A := rdrA W 149 g _) (by repeat first | exact .here _ _ | assumption | apply Pick.there))) rfl ?_
        rintro e w ⟨rfl, hS⟩
        refine ⟨_, rfl, ?_⟩
        refine t_nil ?_
        refine ⟨.inr ⟨_, hS.pick (by repeat first | exact .here _ _ | assumption | apply Pick.there)⟩, ?_⟩
        refine p_one 9 rfl (by kernel_rfl) ?_
        refine t_callv Try.call87 rfl (vnumr4 (s := s) ((hS.pick (A := blkA g1 79 [.pointer (some ⟨g, 0, none⟩)]) (by repeat first | exact .here _ _ | assumption | apply Pick.there)).pick (A := rdrA W 149 g _) (by repeat first | exact .here _ _ | assumption | apply Pick.there))) rfl ?_
        rintro e w ⟨rfl, hS⟩
        refine ⟨_, rfl, ?_⟩
        refine t_nil ?_
        refine ⟨.inr ⟨_, hS.pick (by repeat first | exact .here _ _ | assumption | apply Pick.there)⟩, ?_⟩
        refine p_q hap hsel 10 rfl rfl ⟨_, hS.pick (by repeat first | exact .here _ _ | assumption | apply Pick.there)⟩ (fun w hI => q_build (qs := [(0, 1), (1, 1), (2, 1), (3, 1), (4, 1)]) [.int .i64 (v0 s).1, .int .i64 (v1 s).1, .int .i64 (v2 s).1, .int .u64 ((v3 s).1 : Int), .int .i64 (v4 s).1] Try.zeroValue28 Try.runUnderlying28 ⟨rfl, Try.sizeOf3, rfl, Try.sizeOf3, rfl, Try.sizeOf3, rfl, Try.sizeOf26, rfl, Try.sizeOf3, trivial⟩ rfl rfl) ?_
        refine p_one 12 rfl (by kernel_rfl) ?_
        refine t_store (v := (.agg _)) Try.sizeOf28 hS (by repeat first | exact .here _ _ | assumption | apply Pick.there) rfl rfl rfl rfl rfl rfl (fun w hS => ?_)
        replace hS := hS.recast (congrArg (blkA g4 28) (rset_full (vs := (stM s).cells) rfl))
        refine t_nil ?_
        refine ⟨.inl (by kernel_rfl), ?_⟩
        refine p_end (by kernel_rfl) ?_
        refine c_seq ?_
        refine c_seq ?_
        refine c_region ?_
        refine t_q (q_load1 Try.isAgg79 rfl (hS.cell (by repeat first | exact .here _ _ | assumption | apply Pick.there) rfl)) ?_
        refine t_call Try.call40 (rBad hS (by repeat first | exact .here _ _ | assumption | apply Pick.there)) rfl ?_
        rintro e w ⟨rfl, hS⟩
        refine ⟨_, rfl, ?_⟩
        refine t_nil ?_
        refine c_cond rfl ?_ ?_
        · intro hc19
          have hD := vrd_bad (s := s) hc19
          refine c_seq ?_
          refine c_region ?_
          refine t_q (q_build (qs := [(0, 1), (1, 1), (2, 1), (3, 1), (4, 1)]) [(.int _ _), (.int _ _), (.int _ _), (.int _ _), (.int _ _)] Try.zeroValue28 Try.runUnderlying28 ⟨rfl, Try.sizeOf3, rfl, Try.sizeOf3, rfl, Try.sizeOf3, rfl, Try.sizeOf26, rfl, Try.sizeOf3, trivial⟩ rfl rfl) ?_
          refine t_store (v := (.agg _)) Try.sizeOf28 hS (by repeat first | exact .here _ _ | assumption | apply Pick.there) rfl rfl rfl rfl rfl rfl (fun w hS => ?_)
          replace hS := hS.recast (congrArg (blkA g2 28) (rset_full (vs := (⟨0, 0, 0, 0, 0⟩ : StV).cells) rfl))
          refine t_nil ?_
          refine c_ret ?_
          refine r_one rfl (res1_cellN Try.isAgg28 Try.sizeOf28 rfl (hS.blk (by repeat first | exact .here _ _ | assumption | apply Pick.there)) rfl) ?_
          rw [hD]
          exact ⟨rfl, ((((hS.pick (A := blkA g4 28 _) (by repeat first | exact .here _ _ | assumption | apply Pick.there)).drop.pick (A := blkA g2 28 _) (by repeat first | exact .here _ _ | assumption | apply Pick.there)).drop.pick (A := blkA g1 79 [.pointer (some ⟨g, 0, none⟩)]) (by repeat first | exact .here _ _ | assumption | apply Pick.there)).drop.pick (A := rdrA W 149 g _) (by repeat first | exact .here _ _ | assumption | apply Pick.there))⟩
        · intro hc19
          have hD := vrd_ok (s := s) hc19
          refine c_skip ?_
          refine c_seq ?_
          refine c_region ?_
          refine t_q (q_cast (v' := .agg (stM s).cells.toArray) (q_load_blk Try.isAgg28 Try.sizeOf28 rfl (hS.blk (by repeat first | exact .here _ _ | assumption | apply Pick.there)) rfl) (by rfl)) ?_
          refine t_store (v := (.agg _)) Try.sizeOf28 hS (by repeat first | exact .here _ _ | assumption | apply Pick.there) rfl rfl rfl rfl rfl rfl (fun w hS => ?_)
          replace hS := hS.recast (congrArg (blkA g2 28) (rset_full (vs := (stM s).cells) rfl))
          refine t_nil ?_
          refine c_ret ?_
          refine r_one rfl (res1_cellN Try.isAgg28 Try.sizeOf28 rfl (hS.blk (by repeat first | exact .here _ _ | assumption | apply Pick.there)) rfl) ?_
          rw [hD]
          exact ⟨rfl, ((((hS.pick (A := blkA g4 28 _) (by repeat first | exact .here _ _ | assumption | apply Pick.there)).drop.pick (A := blkA g2 28 _) (by repeat first | exact .here _ _ | assumption | apply Pick.there)).drop.pick (A := blkA g1 79 [.pointer (some ⟨g, 0, none⟩)]) (by repeat first | exact .here _ _ | assumption | apply Pick.there)).drop.pick (A := rdrA W 149 g _) (by repeat first | exact .here _ _ | assumption | apply Pick.there))⟩
    ·
      refine t_alloc Try.zeroValue28 rfl hS (fun g4 w hS => ?_)
      refine t_nil ?_
      refine ⟨.inr ⟨_, hS.pick (by repeat first | exact .here _ _ | assumption | apply Pick.there)⟩, ?_⟩
      refine p_one 3 rfl (by kernel_rfl) ?_
      refine t_callv Try.call87 rfl (vnumr1 (s := s) ((hS.pick (A := blkA g1 79 [.pointer (some ⟨g, 0, none⟩)]) (by repeat first | exact .here _ _ | assumption | apply Pick.there)).pick (A := rdrA W 149 g _) (by repeat first | exact .here _ _ | assumption | apply Pick.there))) rfl ?_
      rintro e w ⟨rfl, hS⟩
      refine ⟨_, rfl, ?_⟩
      refine t_nil ?_
      refine ⟨.inr ⟨_, hS.pick (by repeat first | exact .here _ _ | assumption | apply Pick.there)⟩, ?_⟩
      refine p_one 5 rfl (by kernel_rfl) ?_
      refine t_callv Try.call87 rfl (vnumr2 (s := s) ((hS.pick (A := blkA g1 79 [.pointer (some ⟨g, 0, none⟩)]) (by repeat first | exact .here _ _ | assumption | apply Pick.there)).pick (A := rdrA W 149 g _) (by repeat first | exact .here _ _ | assumption | apply Pick.there))) rfl ?_
      rintro e w ⟨rfl, hS⟩
      refine ⟨_, rfl, ?_⟩
      refine t_nil ?_
      refine ⟨.inr ⟨_, hS.pick (by repeat first | exact .here _ _ | assumption | apply Pick.there)⟩, ?_⟩
      refine p_one 7 rfl (by kernel_rfl) ?_
      refine t_call Try.call89 (vnatr3 (s := s) ((hS.pick (A := blkA g1 79 [.pointer (some ⟨g, 0, none⟩)]) (by repeat first | exact .here _ _ | assumption | apply Pick.there)).pick (A := rdrA W 149 g _) (by repeat first | exact .here _ _ | assumption | apply Pick.there))) rfl ?_
      rintro e w ⟨rfl, hS⟩
      refine ⟨_, rfl, ?_⟩
      refine t_nil ?_
      refine ⟨.inr ⟨_, hS.pick (by repeat first | exact .here _ _ | assumption | apply Pick.there)⟩, ?_⟩
      refine p_one 9 rfl (by kernel_rfl) ?_
      refine t_callv Try.call87 rfl (vnumr4 (s := s) ((hS.pick (A := blkA g1 79 [.pointer (some ⟨g, 0, none⟩)]) (by repeat first | exact .here _ _ | assumption | apply Pick.there)).pick (A := rdrA W 149 g _) (by repeat first | exact .here _ _ | assumption | apply Pick.there))) rfl ?_
      rintro e w ⟨rfl, hS⟩
      refine ⟨_, rfl, ?_⟩
      refine t_nil ?_
      refine ⟨.inr ⟨_, hS.pick (by repeat first | exact .here _ _ | assumption | apply Pick.there)⟩, ?_⟩
      refine p_q hap hsel 10 rfl rfl ⟨_, hS.pick (by repeat first | exact .here _ _ | assumption | apply Pick.there)⟩ (fun w hI => q_build (qs := [(0, 1), (1, 1), (2, 1), (3, 1), (4, 1)]) [.int .i64 (v0 s).1, .int .i64 (v1 s).1, .int .i64 (v2 s).1, .int .u64 ((v3 s).1 : Int), .int .i64 (v4 s).1] Try.zeroValue28 Try.runUnderlying28 ⟨rfl, Try.sizeOf3, rfl, Try.sizeOf3, rfl, Try.sizeOf3, rfl, Try.sizeOf26, rfl, Try.sizeOf3, trivial⟩ rfl rfl) ?_
      refine p_one 12 rfl (by kernel_rfl) ?_
      refine t_store (v := (.agg _)) Try.sizeOf28 hS (by repeat first | exact .here _ _ | assumption | apply Pick.there) rfl rfl rfl rfl rfl rfl (fun w hS => ?_)
      replace hS := hS.recast (congrArg (blkA g4 28) (rset_full (vs := (stM s).cells) rfl))
      refine t_nil ?_
      refine ⟨.inl (by kernel_rfl), ?_⟩
      refine p_end (by kernel_rfl) ?_
      refine c_seq ?_
      refine c_seq ?_
      refine c_region ?_
      refine t_q (q_load1 Try.isAgg79 rfl (hS.cell (by repeat first | exact .here _ _ | assumption | apply Pick.there) rfl)) ?_
      refine t_call Try.call40 (rBad hS (by repeat first | exact .here _ _ | assumption | apply Pick.there)) rfl ?_
      rintro e w ⟨rfl, hS⟩
      refine ⟨_, rfl, ?_⟩
      refine t_nil ?_
      refine c_cond rfl ?_ ?_
      · intro hc25
        have hD := vrd_bad (s := s) hc25
        refine c_seq ?_
        refine c_region ?_
        refine t_q (q_build (qs := [(0, 1), (1, 1), (2, 1), (3, 1), (4, 1)]) [(.int _ _), (.int _ _), (.int _ _), (.int _ _), (.int _ _)] Try.zeroValue28 Try.runUnderlying28 ⟨rfl, Try.sizeOf3, rfl, Try.sizeOf3, rfl, Try.sizeOf3, rfl, Try.sizeOf26, rfl, Try.sizeOf3, trivial⟩ rfl rfl) ?_
        refine t_store (v := (.agg _)) Try.sizeOf28 hS (by repeat first | exact .here _ _ | assumption | apply Pick.there) rfl rfl rfl rfl rfl rfl (fun w hS => ?_)
        replace hS := hS.recast (congrArg (blkA g2 28) (rset_full (vs := (⟨0, 0, 0, 0, 0⟩ : StV).cells) rfl))
        refine t_nil ?_
        refine c_ret ?_
        refine r_one rfl (res1_cellN Try.isAgg28 Try.sizeOf28 rfl (hS.blk (by repeat first | exact .here _ _ | assumption | apply Pick.there)) rfl) ?_
        rw [hD]
        exact ⟨rfl, ((((hS.pick (A := blkA g4 28 _) (by repeat first | exact .here _ _ | assumption | apply Pick.there)).drop.pick (A := blkA g2 28 _) (by repeat first | exact .here _ _ | assumption | apply Pick.there)).drop.pick (A := blkA g1 79 [.pointer (some ⟨g, 0, none⟩)]) (by repeat first | exact .here _ _ | assumption | apply Pick.there)).drop.pick (A := rdrA W 149 g _) (by repeat first | exact .here _ _ | assumption | apply Pick.there))⟩
      · intro hc25
        have hD := vrd_ok (s := s) hc25
        refine c_skip ?_
        refine c_seq ?_
        refine c_region ?_
        refine t_q (q_cast (v' := .agg (stM s).cells.toArray) (q_load_blk Try.isAgg28 Try.sizeOf28 rfl (hS.blk (by repeat first | exact .here _ _ | assumption | apply Pick.there)) rfl) (by rfl)) ?_
        refine t_store (v := (.agg _)) Try.sizeOf28 hS (by repeat first | exact .here _ _ | assumption | apply Pick.there) rfl rfl rfl rfl rfl rfl (fun w hS => ?_)
        replace hS := hS.recast (congrArg (blkA g2 28) (rset_full (vs := (stM s).cells) rfl))
        refine t_nil ?_
        refine c_ret ?_
        refine r_one rfl (res1_cellN Try.isAgg28 Try.sizeOf28 rfl (hS.blk (by repeat first | exact .here _ _ | assumption | apply Pick.there)) rfl) ?_
        rw [hD]
        exact ⟨rfl, ((((hS.pick (A := blkA g4 28 _) (by repeat first | exact .here _ _ | assumption | apply Pick.there)).drop.pick (A := blkA g2 28 _) (by repeat first | exact .here _ _ | assumption | apply Pick.there)).drop.pick (A := blkA g1 79 [.pointer (some ⟨g, 0, none⟩)]) (by repeat first | exact .here _ _ | assumption | apply Pick.there)).drop.pick (A := rdrA W 149 g _) (by repeat first | exact .here _ _ | assumption | apply Pick.there))⟩
  ·
    refine t_alloc Try.zeroValue28 rfl hS (fun g4 w hS => ?_)
    refine t_nil ?_
    refine ⟨.inr ⟨_, hS.pick (by repeat first | exact .here _ _ | assumption | apply Pick.there)⟩, ?_⟩
    refine p_one 1 rfl (by kernel_rfl) ?_
    refine t_callv Try.call87 rfl (vnumr0 (s := s) ((hS.pick (A := blkA g1 79 [.pointer (some ⟨g, 0, none⟩)]) (by repeat first | exact .here _ _ | assumption | apply Pick.there)).pick (A := rdrA W 149 g _) (by repeat first | exact .here _ _ | assumption | apply Pick.there))) rfl ?_
    rintro e w ⟨rfl, hS⟩
    refine ⟨_, rfl, ?_⟩
    refine t_nil ?_
    refine ⟨.inr ⟨_, hS.pick (by repeat first | exact .here _ _ | assumption | apply Pick.there)⟩, ?_⟩
    refine p_one 3 rfl (by kernel_rfl) ?_
    refine t_callv Try.call87 rfl (vnumr1 (s := s) ((hS.pick (A := blkA g1 79 [.pointer (some ⟨g, 0, none⟩)]) (by repeat first | exact .here _ _ | assumption | apply Pick.there)).pick (A := rdrA W 149 g _) (by repeat first | exact .here _ _ | assumption | apply Pick.there))) rfl ?_
    rintro e w ⟨rfl, hS⟩
    refine ⟨_, rfl, ?_⟩
    refine t_nil ?_
    refine ⟨.inr ⟨_, hS.pick (by repeat first | exact .here _ _ | assumption | apply Pick.there)⟩, ?_⟩
    refine p_one 5 rfl (by kernel_rfl) ?_
    refine t_callv Try.call87 rfl (vnumr2 (s := s) ((hS.pick (A := blkA g1 79 [.pointer (some ⟨g, 0, none⟩)]) (by repeat first | exact .here _ _ | assumption | apply Pick.there)).pick (A := rdrA W 149 g _) (by repeat first | exact .here _ _ | assumption | apply Pick.there))) rfl ?_
    rintro e w ⟨rfl, hS⟩
    refine ⟨_, rfl, ?_⟩
    refine t_nil ?_
    refine ⟨.inr ⟨_, hS.pick (by repeat first | exact .here _ _ | assumption | apply Pick.there)⟩, ?_⟩
    refine p_one 7 rfl (by kernel_rfl) ?_
    refine t_call Try.call89 (vnatr3 (s := s) ((hS.pick (A := blkA g1 79 [.pointer (some ⟨g, 0, none⟩)]) (by repeat first | exact .here _ _ | assumption | apply Pick.there)).pick (A := rdrA W 149 g _) (by repeat first | exact .here _ _ | assumption | apply Pick.there))) rfl ?_
    rintro e w ⟨rfl, hS⟩
    refine ⟨_, rfl, ?_⟩
    refine t_nil ?_
    refine ⟨.inr ⟨_, hS.pick (by repeat first | exact .here _ _ | assumption | apply Pick.there)⟩, ?_⟩
    refine p_one 9 rfl (by kernel_rfl) ?_
    refine t_callv Try.call87 rfl (vnumr4 (s := s) ((hS.pick (A := blkA g1 79 [.pointer (some ⟨g, 0, none⟩)]) (by repeat first | exact .here _ _ | assumption | apply Pick.there)).pick (A := rdrA W 149 g _) (by repeat first | exact .here _ _ | assumption | apply Pick.there))) rfl ?_
    rintro e w ⟨rfl, hS⟩
    refine ⟨_, rfl, ?_⟩
    refine t_nil ?_
    refine ⟨.inr ⟨_, hS.pick (by repeat first | exact .here _ _ | assumption | apply Pick.there)⟩, ?_⟩
    refine p_q hap hsel 10 rfl rfl ⟨_, hS.pick (by repeat first | exact .here _ _ | assumption | apply Pick.there)⟩ (fun w hI => q_build (qs := [(0, 1), (1, 1), (2, 1), (3, 1), (4, 1)]) [.int .i64 (v0 s).1, .int .i64 (v1 s).1, .int .i64 (v2 s).1, .int .u64 ((v3 s).1 : Int), .int .i64 (v4 s).1] Try.zeroValue28 Try.runUnderlying28 ⟨rfl, Try.sizeOf3, rfl, Try.sizeOf3, rfl, Try.sizeOf3, rfl, Try.sizeOf26, rfl, Try.sizeOf3, trivial⟩ rfl rfl) ?_
    refine p_one 12 rfl (by kernel_rfl) ?_
    refine t_store (v := (.agg _)) Try.sizeOf28 hS (by repeat first | exact .here _ _ | assumption | apply Pick.there) rfl rfl rfl rfl rfl rfl (fun w hS => ?_)
    replace hS := hS.recast (congrArg (blkA g4 28) (rset_full (vs := (stM s).cells) rfl))
    refine t_nil ?_
    refine ⟨.inl (by kernel_rfl), ?_⟩
    refine p_end (by kernel_rfl) ?_
    refine c_seq ?_
    refine c_seq ?_
    refine c_region ?_
    refine t_q (q_load1 Try.isAgg79 rfl (hS.cell (by repeat first | exact .here _ _ | assumption | apply Pick.there) rfl)) ?_
    refine t_call Try.call40 (rBad hS (by repeat first | exact .here _ _ | assumption | apply Pick.there)) rfl ?_
    rintro e w ⟨rfl, hS⟩
    refine ⟨_, rfl, ?_⟩
    refine t_nil ?_
    refine c_cond rfl ?_ ?_
    · intro hc32
      have hD := vrd_bad (s := s) hc32
      refine c_seq ?_
      refine c_region ?_
      refine t_q (q_build (qs := [(0, 1), (1, 1), (2, 1), (3, 1), (4, 1)]) [(.int _ _), (.int _ _), (.int _ _), (.int _ _), (.int _ _)] Try.zeroValue28 Try.runUnderlying28 ⟨rfl, Try.sizeOf3, rfl, Try.sizeOf3, rfl, Try.sizeOf3, rfl, Try.sizeOf26, rfl, Try.sizeOf3, trivial⟩ rfl rfl) ?_
      refine t_store (v := (.agg _)) Try.sizeOf28 hS (by repeat first | exact .here _ _ | assumption | apply Pick.there) rfl rfl rfl rfl rfl rfl (fun w hS => ?_)
      replace hS := hS.recast (congrArg (blkA g2 28) (rset_full (vs := (⟨0, 0, 0, 0, 0⟩ : StV).cells) rfl))
      refine t_nil ?_
      refine c_ret ?_
      refine r_one rfl (res1_cellN Try.isAgg28 Try.sizeOf28 rfl (hS.blk (by repeat first | exact .here _ _ | assumption | apply Pick.there)) rfl) ?_
      rw [hD]
      exact ⟨rfl, ((((hS.pick (A := blkA g4 28 _) (by repeat first | exact .here _ _ | assumption | apply Pick.there)).drop.pick (A := blkA g2 28 _) (by repeat first | exact .here _ _ | assumption | apply Pick.there)).drop.pick (A := blkA g1 79 [.pointer (some ⟨g, 0, none⟩)]) (by repeat first | exact .here _ _ | assumption | apply Pick.there)).drop.pick (A := rdrA W 149 g _) (by repeat first | exact .here _ _ | assumption | apply Pick.there))⟩
    · intro hc32
      have hD := vrd_ok (s := s) hc32
      refine c_skip ?_
      refine c_seq ?_
      refine c_region ?_
      refine t_q (q_cast (v' := .agg (stM s).cells.toArray) (q_load_blk Try.isAgg28 Try.sizeOf28 rfl (hS.blk (by repeat first | exact .here _ _ | assumption | apply Pick.there)) rfl) (by rfl)) ?_
      refine t_store (v := (.agg _)) Try.sizeOf28 hS (by repeat first | exact .here _ _ | assumption | apply Pick.there) rfl rfl rfl rfl rfl rfl (fun w hS => ?_)
      replace hS := hS.recast (congrArg (blkA g2 28) (rset_full (vs := (stM s).cells) rfl))
      refine t_nil ?_
      refine c_ret ?_
      refine r_one rfl (res1_cellN Try.isAgg28 Try.sizeOf28 rfl (hS.blk (by repeat first | exact .here _ _ | assumption | apply Pick.there)) rfl) ?_
      rw [hD]
      exact ⟨rfl, ((((hS.pick (A := blkA g4 28 _) (by repeat first | exact .here _ _ | assumption | apply Pick.there)).drop.pick (A := blkA g2 28 _) (by repeat first | exact .here _ _ | assumption | apply Pick.there)).drop.pick (A := blkA g1 79 [.pointer (some ⟨g, 0, none⟩)]) (by repeat first | exact .here _ _ | assumption | apply Pick.there)).drop.pick (A := rdrA W 149 g _) (by repeat first | exact .here _ _ | assumption | apply Pick.there))⟩
set_option maxHeartbeats 1000000 in
set_option maxRecDepth 100000 in
theorem vreado {w : World} {R : List Asn} {g : Nat} {K : Asn} {s : Rs} (hS : St W w (rdO W K 149 g s :: K :: R)) : Calls Try.prog 36 #[.pointer (some ⟨g, 0, none⟩)] w fun e w' => e = .returned (.agg (vrd s).cells.toArray) ∧ St W w' (rdO W K 149 g (v4 s).2 :: K :: R) := by
  refine calls_of_wpE (args := [_]) Try.func36 rfl rfl rfl ?_
  refine c_seq ?_
  refine c_region ?_
  refine t_box (v := (.pointer _)) rfl rfl hS (fun g1 w hS => ?_)
  replace hS := hS.recast (show _ = blkA g1 79 [.pointer (some ⟨g, 0, none⟩)] from rfl)
  refine t_alloc Try.zeroValue28 rfl hS (fun g2 w hS => ?_)
  refine t_nil ?_
  refine c_seq ?_
  refine c_region ?_
  refine t_q (q_makeFunc rfl) ?_
  refine t_q (q_as (.func _ _ _) rfl) ?_
  refine t_nil ?_
  refine c_seq ?_
  refine c_draw ?_
  refine d_keep (blkA g1 79 [.pointer (some ⟨g, 0, none⟩)]) 13 [0, 1, 2, 3, 4, 5, 6, 7, 8, 9, 10, 11, 12] [0, 1, 2, 3, 4, 5, 6, 7, 8, 9, 10, 11, 12] hS rfl (by kernel_rfl) (by kernel_rfl) (by kernel_rfl) (by kernel_rfl) (fun hap hsel w hS => ?_)
  refine p_q hap hsel 0 rfl rfl ⟨_, hS.pick (by repeat first | exact .here _ _ | assumption | apply Pick.there)⟩ (fun w hI => q_mv (.func _ _ _) rfl) ?_
  refine p_q hap hsel 2 rfl rfl ⟨_, hS.pick (by repeat first | exact .here _ _ | assumption | apply Pick.there)⟩ (fun w hI => q_mv (.func _ _ _) rfl) ?_
  refine p_q hap hsel 4 rfl rfl ⟨_, hS.pick (by repeat first | exact .here _ _ | assumption | apply Pick.there)⟩ (fun w hI => q_mv (.func _ _ _) rfl) ?_
  refine p_q hap hsel 6 rfl rfl ⟨_, hS.pick (by repeat first | exact .here _ _ | assumption | apply Pick.there)⟩ (fun w hI => q_load1 Try.isAgg79 rfl (hI.choose_spec.cell (by repeat first | exact .here _ _ | assumption | apply Pick.there) rfl)) ?_
  refine p_q hap hsel 8 rfl rfl ⟨_, hS.pick (by repeat first | exact .here _ _ | assumption | apply Pick.there)⟩ (fun w hI => q_mv (.func _ _ _) rfl) ?_
  refine p_two 1 11 rfl rfl (by kernel_rfl) ?_ ?_
  ·
    refine t_callv Try.call87 rfl (vnumo0 (s := s) (((hS.pick (A := K) (by repeat first | exact .here _ _ | assumption | apply Pick.there)).pick (A := blkA g1 79 [.pointer (some ⟨g, 0, none⟩)]) (by repeat first | exact .here _ _ | assumption | apply Pick.there)).pick (A := rdO W K 149 g _) (by repeat first | exact .here _ _ | assumption | apply Pick.there))) rfl ?_
    rintro e w ⟨rfl, hS⟩
    refine ⟨_, rfl, ?_⟩
    refine t_nil ?_
    refine ⟨.inr ⟨_, hS.pick (by repeat first | exact .here _ _ | assumption | apply Pick.there)⟩, ?_⟩
    refine p_two 3 11 rfl rfl (by kernel_rfl) ?_ ?_
    ·
      refine t_callv Try.call87 rfl (vnumo1 (s := s) (((hS.pick (A := K) (by repeat first | exact .here _ _ | assumption | apply Pick.there)).pick (A := blkA g1 79 [.pointer (some ⟨g, 0, none⟩)]) (by repeat first | exact .here _ _ | assumption | apply Pick.there)).pick (A := rdO W K 149 g _) (by repeat first | exact .here _ _ | assumption | apply Pick.there))) rfl ?_
      rintro e w ⟨rfl, hS⟩
      refine ⟨_, rfl, ?_⟩
      refine t_nil ?_
      refine ⟨.inr ⟨_, hS.pick (by repeat first | exact .here _ _ | assumption | apply Pick.there)⟩, ?_⟩
      refine p_two 5 11 rfl rfl (by kernel_rfl) ?_ ?_
      ·
        refine t_callv Try.call87 rfl (vnumo2 (s := s) (((hS.pick (A := K) (by repeat first | exact .here _ _ | assumption | apply Pick.there)).pick (A := blkA g1 79 [.pointer (some ⟨g, 0, none⟩)]) (by repeat first | exact .here _ _ | assumption | apply Pick.there)).pick (A := rdO W K 149 g _) (by repeat first | exact .here _ _ | assumption | apply Pick.there))) rfl ?_
        rintro e w ⟨rfl, hS⟩
        refine ⟨_, rfl, ?_⟩
        refine t_nil ?_
        refine ⟨.inr ⟨_, hS.pick (by repeat first | exact .here _ _ | assumption | apply Pick.there)⟩, ?_⟩
        refine p_two 7 11 rfl rfl (by kernel_rfl) ?_ ?_
        ·
          refine t_call Try.call89 (vnato3 (s := s) (((hS.pick (A := K) (by repeat first | exact .here _ _ | assumption | apply Pick.there)).pick (A := blkA g1 79 [.pointer (some ⟨g, 0, none⟩)]) (by repeat first | exact .here _ _ | assumption | apply Pick.there)).pick (A := rdO W K 149 g _) (by repeat first | exact .here _ _ | assumption | apply Pick.there))) rfl ?_
          rintro e w ⟨rfl, hS⟩
          refine ⟨_, rfl, ?_⟩
          refine t_nil ?_
          refine ⟨.inr ⟨_, hS.pick (by repeat first | exact .here _ _ | assumption | apply Pick.there)⟩, ?_⟩
          refine p_two 9 11 rfl rfl (by kernel_rfl) ?_ ?_
          ·
            refine t_callv Try.call87 rfl (vnumo4 (s := s) (((hS.pick (A := K) (by repeat first | exact .here _ _ | assumption | apply Pick.there)).pick (A := blkA g1 79 [.pointer (some ⟨g, 0, none⟩)]) (by repeat first | exact .here _ _ | assumption | apply Pick.there)).pick (A := rdO W K 149 g _) (by repeat first | exact .here _ _ | assumption | apply Pick.there))) rfl ?_
            rintro e w ⟨rfl, hS⟩
            refine ⟨_, rfl, ?_⟩
            refine t_nil ?_
            refine ⟨.inr ⟨_, hS.pick (by repeat first | exact .here _ _ | assumption | apply Pick.there)⟩, ?_⟩
            refine p_q hap hsel 10 rfl rfl ⟨_, hS.pick (by repeat first | exact .here _ _ | assumption | apply Pick.there)⟩ (fun w hI => q_build (qs := [(0, 1), (1, 1), (2, 1), (3, 1), (4, 1)]) [.int .i64 (v0 s).1, .int .i64 (v1 s).1, .int .i64 (v2 s).1, .int .u64 ((v3 s).1 : Int), .int .i64 (v4 s).1] Try.zeroValue28 Try.runUnderlying28 ⟨rfl, Try.sizeOf3, rfl, Try.sizeOf3, rfl, Try.sizeOf3, rfl, Try.sizeOf26, rfl, Try.sizeOf3, trivial⟩ rfl rfl) ?_
            refine p_one 11 rfl (by kernel_rfl) ?_
            refine t_alloc Try.zeroValue28 rfl hS (fun g4 w hS => ?_)
            refine t_nil ?_
            refine ⟨.inr ⟨_, hS.pick (by repeat first | exact .here _ _ | assumption | apply Pick.there)⟩, ?_⟩
            refine p_one 12 rfl (by kernel_rfl) ?_
            refine t_store (v := (.agg _)) Try.sizeOf28 hS (by repeat first | exact .here _ _ | assumption | apply Pick.there) rfl rfl rfl rfl rfl rfl (fun w hS => ?_)
            replace hS := hS.recast (congrArg (blkA g4 28) (rset_full (vs := (stM s).cells) rfl))
            refine t_nil ?_
            refine ⟨.inl (by kernel_rfl), ?_⟩
            refine p_end (by kernel_rfl) ?_
            refine c_seq ?_
            refine c_seq ?_
            refine c_region ?_
            refine t_q (q_load1 Try.isAgg79 rfl (hS.cell (by repeat first | exact .here _ _ | assumption | apply Pick.there) rfl)) ?_
            refine t_call Try.call40 (voBad hS (by repeat first | exact .here _ _ | assumption | apply Pick.there)) rfl ?_
            rintro e w ⟨rfl, hS⟩
            refine ⟨_, rfl, ?_⟩
            refine t_nil ?_
            refine c_cond rfl ?_ ?_
            · intro hc7
              have hD := vrd_bad (s := s) hc7
              refine c_seq ?_
              refine c_region ?_
              refine t_q (q_build (qs := [(0, 1), (1, 1), (2, 1), (3, 1), (4, 1)]) [(.int _ _), (.int _ _), (.int _ _), (.int _ _), (.int _ _)] Try.zeroValue28 Try.runUnderlying28 ⟨rfl, Try.sizeOf3, rfl, Try.sizeOf3, rfl, Try.sizeOf3, rfl, Try.sizeOf26, rfl, Try.sizeOf3, trivial⟩ rfl rfl) ?_
              refine t_store (v := (.agg _)) Try.sizeOf28 hS (by repeat first | exact .here _ _ | assumption | apply Pick.there) rfl rfl rfl rfl rfl rfl (fun w hS => ?_)
              replace hS := hS.recast (congrArg (blkA g2 28) (rset_full (vs := (⟨0, 0, 0, 0, 0⟩ : StV).cells) rfl))
              refine t_nil ?_
              refine c_ret ?_
              refine r_one rfl (res1_cellN Try.isAgg28 Try.sizeOf28 rfl (hS.blk (by repeat first | exact .here _ _ | assumption | apply Pick.there)) rfl) ?_
              rw [hD]
              exact ⟨rfl, (((((hS.pick (A := blkA g4 28 _) (by repeat first | exact .here _ _ | assumption | apply Pick.there)).drop.pick (A := blkA g2 28 _) (by repeat first | exact .here _ _ | assumption | apply Pick.there)).drop.pick (A := blkA g1 79 [.pointer (some ⟨g, 0, none⟩)]) (by repeat first | exact .here _ _ | assumption | apply Pick.there)).drop.pick (A := K) (by repeat first | exact .here _ _ | assumption | apply Pick.there)).pick (A := rdO W K 149 g _) (by repeat first | exact .here _ _ | assumption | apply Pick.there))⟩
            · intro hc7
              have hD := vrd_ok (s := s) hc7
              refine c_skip ?_
              refine c_seq ?_
              refine c_region ?_
              refine t_q (q_cast (v' := .agg (stM s).cells.toArray) (q_load_blk Try.isAgg28 Try.sizeOf28 rfl (hS.blk (by repeat first | exact .here _ _ | assumption | apply Pick.there)) rfl) (by rfl)) ?_
              refine t_store (v := (.agg _)) Try.sizeOf28 hS (by repeat first | exact .here _ _ | assumption | apply Pick.there) rfl rfl rfl rfl rfl rfl (fun w hS => ?_)
              replace hS := hS.recast (congrArg (blkA g2 28) (rset_full (vs := (stM s).cells) rfl))
              refine t_nil ?_
              refine c_ret ?_
              refine r_one rfl (res1_cellN Try.isAgg28 Try.sizeOf28 rfl (hS.blk (by repeat first | exact .here _ _ | assumption | apply Pick.there)) rfl) ?_
              rw [hD]
              exact ⟨rfl, (((((hS.pick (A := blkA g4 28 _) (by repeat first | exact .here _ _ | assumption | apply Pick.there)).drop.pick (A := blkA g2 28 _) (by repeat first | exact .here _ _ | assumption | apply Pick.there)).drop.pick (A := blkA g1 79 [.pointer (some ⟨g, 0, none⟩)]) (by repeat first | exact .here _ _ | assumption | apply Pick.there)).drop.pick (A := K) (by repeat first | exact .here _ _ | assumption | apply Pick.there)).pick (A := rdO W K 149 g _) (by repeat first | exact .here _ _ | assumption | apply Pick.there))⟩
          ·
            refine t_alloc Try.zeroValue28 rfl hS (fun g4 w hS => ?_)
            refine t_nil ?_
            refine ⟨.inr ⟨_, hS.pick (by repeat first | exact .here _ _ | assumption | apply Pick.there)⟩, ?_⟩
            refine p_one 9 rfl (by kernel_rfl) ?_
            refine t_callv Try.call87 rfl (vnumo4 (s := s) (((hS.pick (A := K) (by repeat first | exact .here _ _ | assumption | apply Pick.there)).pick (A := blkA g1 79 [.pointer (some ⟨g, 0, none⟩)]) (by repeat first | exact .here _ _ | assumption | apply Pick.there)).pick (A := rdO W K 149 g _) (by repeat first | exact .here _ _ | assumption | apply Pick.there))) rfl ?_
            rintro e w ⟨rfl, hS⟩
            refine ⟨_, rfl, ?_⟩
            refine t_nil ?_
            refine ⟨.inr ⟨_, hS.pick (by repeat first | exact .here _ _ | assumption | apply Pick.there)⟩, ?_⟩
            refine p_q hap hsel 10 rfl rfl ⟨_, hS.pick (by repeat first | exact .here _ _ | assumption | apply Pick.there)⟩ (fun w hI => q_build (qs := [(0, 1), (1, 1), (2, 1), (3, 1), (4, 1)]) [.int .i64 (v0 s).1, .int .i64 (v1 s).1, .int .i64 (v2 s).1, .int .u64 ((v3 s).1 : Int), .int .i64 (v4 s).1] Try.zeroValue28 Try.runUnderlying28 ⟨rfl, Try.sizeOf3, rfl, Try.sizeOf3, rfl, Try.sizeOf3, rfl, Try.sizeOf26, rfl, Try.sizeOf3, trivial⟩ rfl rfl) ?_
            refine p_one 12 rfl (by kernel_rfl) ?_
            refine t_store (v := (.agg _)) Try.sizeOf28 hS (by repeat first | exact .here _ _ | assumption | apply Pick.there) rfl rfl rfl rfl rfl rfl (fun w hS => ?_)
            replace hS := hS.recast (congrArg (blkA g4 28) (rset_full (vs := (stM s).cells) rfl))
            refine t_nil ?_
            refine ⟨.inl (by kernel_rfl), ?_⟩
            refine p_end (by kernel_rfl) ?_
            refine c_seq ?_
            refine c_seq ?_
            refine c_region ?_
            refine t_q (q_load1 Try.isAgg79 rfl (hS.cell (by repeat first | exact .here _ _ | assumption | apply Pick.there) rfl)) ?_
            refine t_call Try.call40 (voBad hS (by repeat first | exact .here _ _ | assumption | apply Pick.there)) rfl ?_
            rintro e w ⟨rfl, hS⟩
            refine ⟨_, rfl, ?_⟩
            refine t_nil ?_
            refine c_cond rfl ?_ ?_
            · intro hc10
              have hD := vrd_bad (s := s) hc10
              refine c_seq ?_
              refine c_region ?_
              refine t_q (q_build (qs := [(0, 1), (1, 1), (2, 1), (3, 1), (4, 1)]) [(.int _ _), (.int _ _), (.int _ _), (.int _ _), (.int _ _)] Try.zeroValue28 Try.runUnderlying28 ⟨rfl, Try.sizeOf3, rfl, Try.sizeOf3, rfl, Try.sizeOf3, rfl, Try.sizeOf26, rfl, Try.sizeOf3, trivial⟩ rfl rfl) ?_
              refine t_store (v := (.agg _)) Try.sizeOf28 hS (by repeat first | exact .here _ _ | assumption | apply Pick.there) rfl rfl rfl rfl rfl rfl (fun w hS => ?_)
              replace hS := hS.recast (congrArg (blkA g2 28) (rset_full (vs := (⟨0, 0, 0, 0, 0⟩ : StV).cells) rfl))
              refine t_nil ?_
              refine c_ret ?_
              refine r_one rfl (res1_cellN Try.isAgg28 Try.sizeOf28 rfl (hS.blk (by repeat first | exact .here _ _ | assumption | apply Pick.there)) rfl) ?_
              rw [hD]
              exact ⟨rfl, (((((hS.pick (A := blkA g4 28 _) (by repeat first | exact .here _ _ | assumption | apply Pick.there)).drop.pick (A := blkA g2 28 _) (by repeat first | exact .here _ _ | assumption | apply Pick.there)).drop.pick (A := blkA g1 79 [.pointer (some ⟨g, 0, none⟩)]) (by repeat first | exact .here _ _ | assumption | apply Pick.there)).drop.pick (A := K) (by repeat first | exact .here _ _ | assumption | apply Pick.there)).pick (A := rdO W K 149 g _) (by repeat first | exact .here _ _ | assumption | apply Pick.there))⟩
            · intro hc10
              have hD := vrd_ok (s := s) hc10
              refine c_skip ?_
              refine c_seq ?_
              refine c_region ?_
              refine t_q (q_cast (v' := .agg (stM s).cells.toArray) (q_load_blk Try.isAgg28 Try.sizeOf28 rfl (hS.blk (by repeat first | exact .here _ _ | assumption | apply Pick.there)) rfl) (by rfl)) ?_
              refine t_store (v := (.agg _)) Try.sizeOf28 hS (by repeat first | exact .here _ _ | assumption | apply Pick.there) rfl rfl rfl rfl rfl rfl (fun w hS => ?_)
              replace hS := hS.recast (congrArg (blkA g2 28) (rset_full (vs := (stM s).cells) rfl))
              refine t_nil ?_
              refine c_ret ?_
              refine r_one rfl (res1_cellN Try.isAgg28 Try.sizeOf28 rfl (hS.blk (by repeat first | exact .here _ _ | assumption | apply Pick.there)) rfl) ?_
              rw [hD]
              exact ⟨rfl, (((((hS.pick (A := blkA g4 28 _) (by repeat first | exact .here _ _ | assumption | apply Pick.there)).drop.pick (A := blkA g2 28 _) (by repeat first | exact .here _ _ | assumption | apply Pick.there)).drop.pick (A := blkA g1 79 [.pointer (some ⟨g, 0, none⟩)]) (by repeat first | exact .here _ _ | assumption | apply Pick.there)).drop.pick (A := K) (by repeat first | exact .here _ _ | assumption | apply Pick.there)).pick (A := rdO W K 149 g _) (by repeat first | exact .here _ _ | assumption | apply Pick.there))⟩
        ·
          refine t_alloc Try.zeroValue28 rfl hS (fun g4 w hS => ?_)
          refine t_nil ?_
          refine ⟨.inr ⟨_, hS.pick (by repeat first | exact .here _ _ | assumption | apply Pick.there)⟩, ?_⟩
          refine p_one 7 rfl (by kernel_rfl) ?_
          refine t_call Try.call89 (vnato3 (s := s) (((hS.pick (A := K) (by repeat first | exact .here _ _ | assumption | apply Pick.there)).pick (A := blkA g1 79 [.pointer (some ⟨g, 0, none⟩)]) (by repeat first | exact .here _ _ | assumption | apply Pick.there)).pick (A := rdO W K 149 g _) (by repeat first | exact .here _ _ | assumption | apply Pick.there))) rfl ?_
          rintro e w ⟨rfl, hS⟩
          refine ⟨_, rfl, ?_⟩
          refine t_nil ?_
          refine ⟨.inr ⟨_, hS.pick (by repeat first | exact .here _ _ | assumption | apply Pick.there)⟩, ?_⟩
          refine p_one 9 rfl (by kernel_rfl) ?_
          refine t_callv Try.call87 rfl (vnumo4 (s := s) (((hS.pick (A := K) (by repeat first | exact .here _ _ | assumption | apply Pick.there)).pick (A := blkA g1 79 [.pointer (some ⟨g, 0, none⟩)]) (by repeat first | exact .here _ _ | assumption | apply Pick.there)).pick (A := rdO W K 149 g _) (by repeat first | exact .here _ _ | assumption | apply Pick.there))) rfl ?_
          rintro e w ⟨rfl, hS⟩
          refine ⟨_, rfl, ?_⟩
          refine t_nil ?_
          refine ⟨.inr ⟨_, hS.pick (by repeat first | exact .here _ _ | assumption | apply Pick.there)⟩, ?_⟩
          refine p_q hap hsel 10 rfl rfl ⟨_, hS.pick (by repeat first | exact .here _ _ | assumption | apply Pick.there)⟩ (fun w hI => q_build (qs := [(0, 1), (1, 1), (2, 1), (3, 1), (4, 1)]) [.int .i64 (v0 s).1, .int .i64 (v1 s).1, .int .i64 (v2 s).1, .int .u64 ((v3 s).1 : Int), .int .i64 (v4 s).1] Try.zeroValue28 Try.runUnderlying28 ⟨rfl, Try.sizeOf3, rfl, Try.sizeOf3, rfl, Try.sizeOf3, rfl, Try.sizeOf26, rfl, Try.sizeOf3, trivial⟩ rfl rfl) ?_
          refine p_one 12 rfl (by kernel_rfl) ?_
          refine t_store (v := (.agg _)) Try.sizeOf28 hS (by repeat first | exact .here _ _ | assumption | apply Pick.there) rfl rfl rfl rfl rfl rfl (fun w hS => ?_)
          replace hS := hS.recast (congrArg (blkA g4 28) (rset_full (vs := (stM s).cells) rfl))
          refine t_nil ?_
          refine ⟨.inl (by kernel_rfl), ?_⟩
          refine p_end (by kernel_rfl) ?_
          refine c_seq ?_
          refine c_seq ?_
          refine c_region ?_
          refine t_q (q_load1 Try.isAgg79 rfl (hS.cell (by repeat first | exact .here _ _ | assumption | apply Pick.there) rfl)) ?_
          refine t_call Try.call40 (voBad hS (by repeat first | exact .here _ _ | assumption | apply Pick.there)) rfl ?_
          rintro e w ⟨rfl, hS⟩
          refine ⟨_, rfl, ?_⟩
          refine t_nil ?_
          refine c_cond rfl ?_ ?_
          · intro hc14
            have hD := vrd_bad (s := s) hc14
            refine c_seq ?_
            refine c_region ?_
            refine t_q (q_build (qs := [(0, 1), (1, 1), (2, 1), (3, 1), (4, 1)]) [(.int _ _), (.int _ _), (.int _ _), (.int _ _), (.int _ _)] Try.zeroValue28 Try.runUnderlying28 ⟨rfl, Try.sizeOf3, rfl, Try.sizeOf3, rfl, Try.sizeOf3, rfl, Try.sizeOf26, rfl, Try.sizeOf3, trivial⟩ rfl rfl) ?_
            refine t_store (v := (.agg _)) Try.sizeOf28 hS (by repeat first | exact .here _ _ | assumption | apply Pick.there) rfl rfl rfl rfl rfl rfl (fun w hS => ?_)
            replace hS := hS.recast (congrArg (blkA g2 28) (rset_full (vs := (⟨0, 0, 0, 0, 0⟩ : StV).cells) rfl))
            refine t_nil ?_
            refine c_ret ?_
            refine r_one rfl (res1_cellN Try.isAgg28 Try.sizeOf28 rfl (hS.blk (by repeat first | exact .here _ _ | assumption | apply Pick.there)) rfl) ?_
            rw [hD]
            exact ⟨rfl, (((((hS.pick (A := blkA g4 28 _) (by repeat first | exact .here _ _ | assumption | apply Pick.there)).drop.pick (A := blkA g2 28 _) (by repeat first | exact .here _ _ | assumption | apply Pick.there)).drop.pick (A := blkA g1 79 [.pointer (some ⟨g, 0, none⟩)]) (by repeat first | exact .here _ _ | assumption | apply Pick.there)).drop.pick (A := K) (by repeat first | exact .here _ _ | assumption | apply Pick.there)).pick (A := rdO W K 149 g _) (by repeat first | exact .here _ _ | assumption | apply Pick.there))⟩
          · intro hc14
            have hD := vrd_ok (s := s) hc14
            refine c_skip ?_
            refine c_seq ?_
            refine c_region ?_
            refine t_q (q_cast (v' := .agg (stM s).cells.toArray) (q_load_blk Try.isAgg28 Try.sizeOf28 rfl (hS.blk (by repeat first | exact .here _ _ | assumption | apply Pick.there)) rfl) (by rfl)) ?_
            refine t_store (v := (.agg _)) Try.sizeOf28 hS (by repeat first | exact .here _ _ | assumption | apply Pick.there) rfl rfl rfl rfl rfl rfl (fun w hS => ?_)
            replace hS := hS.recast (congrArg (blkA g2 28) (rset_full (vs := (stM s).cells) rfl))
            refine t_nil ?_
            refine c_ret ?_
            refine r_one rfl (res1_cellN Try.isAgg28 Try.sizeOf28 rfl (hS.blk (by repeat first | exact .here _ _ | assumption | apply Pick.there)) rfl) ?_
            rw [hD]
            exact ⟨rfl, (((((hS.pick (A := blkA g4 28 _) (by repeat first | exact .here _ _ | assumption | apply Pick.there)).drop.pick (A := blkA g2 28 _) (by repeat first | exact .here _ _ | assumption | apply Pick.there)).drop.pick (A := blkA g1 79 [.pointer (some ⟨g, 0, none⟩)]) (by repeat first | exact .here _ _ | assumption | apply Pick.there)).drop.pick (A := K) (by repeat first | exact .here _ _ | assumption | apply Pick.there)).pick (A := rdO W K 149 g _) (by repeat first | exact .here _ _ | assumption | apply Pick.there))⟩
      ·
        refine t_alloc Try.zeroValue28 rfl hS (fun g4 w hS => ?_)
        refine t_nil ?_
        refine ⟨.inr ⟨_, hS.pick (by repeat first | exact .here _ _ | assumption | apply Pick.there)⟩, ?_⟩
        refine p_one 5 rfl (by kernel_rfl) ?_
        refine t_callv Try.call87 rfl (vnumo2 (s := s) (((hS.pick (A := K) (by repeat first | exact .here _ _ | assumption | apply Pick.there)).pick (A := blkA g1 79 [.pointer (some ⟨g, 0, none⟩)]) (by repeat first | exact .here _ _ | assumption | apply Pick.there)).pick (A := rdO W K 149 g _) (by repeat first | exact .here _ _ | assumption | apply Pick.there))) rfl ?_
        rintro e w ⟨rfl, hS⟩
        refine ⟨_, rfl, ?_⟩
        refine t_nil ?_
        refine ⟨.inr ⟨_, hS.pick (by repeat first | exact .here _ _ | assumption | apply Pick.there)⟩, ?_⟩
        refine p_one 7 rfl (by kernel_rfl) ?_
        refine t_call Try.call89 (vnato3 (s := s) (((hS.pick (A := K) (by repeat first | exact .here _ _ | assumption | apply Pick.there)).pick (A := blkA g1 79 [.pointer (some ⟨g, 0, none⟩)]) (by repeat first | exact .here _ _ | assumption | apply Pick.there)).pick (A := rdO W K 149 g _) (by repeat first | exact .here _ _ | assumption | apply Pick.there))) rfl ?_
        rintro e w ⟨rfl, hS⟩
        refine ⟨_, rfl, ?_⟩
        refine t_nil ?_
        refine ⟨.inr ⟨_, hS.pick (by repeat first | exact .here _ _ | assumption | apply Pick.there)⟩, ?_⟩
        refine p_one 9 rfl (by kernel_rfl) ?_
        refine t_callv Try.call87 rfl (vnumo4 (s := s) (((hS.pick (A := K) (by repeat first | exact .here _ _ | assumption | apply Pick.there)).pick (A := blkA g1 79 [.pointer (some ⟨g, 0, none⟩)]) (by repeat first | exact .here _ _ | assumption | apply Pick.there)).pick (A := rdO W K 149 g _) (by repeat first | exact .here _ _ | assumption | apply Pick.there))) rfl ?_
        rintro e w ⟨rfl, hS⟩
        refine ⟨_, rfl, ?_⟩
        refine t_nil ?_
        refine ⟨.inr ⟨_, hS.pick (by repeat first | exact .here _ _ | assumption | apply Pick.there)⟩, ?_⟩
        refine p_q hap hsel 10 rfl rfl ⟨_, hS.pick (by repeat first | exact .here _ _ | assumption | apply Pick.there)⟩ (fun w hI => q_build (qs := [(0, 1), (1, 1), (2, 1), (3, 1), (4, 1)]) [.int .i64 (v0 s).1, .int .i64 (v1 s).1, .int .i64 (v2 s).1, .int .u64 ((v3 s).1 : Int), .int .i64 (v4 s).1] Try.zeroValue28 Try.runUnderlying28 ⟨rfl, Try.sizeOf3, rfl, Try.sizeOf3, rfl, Try.sizeOf3, rfl, Try.sizeOf26, rfl, Try.sizeOf3, trivial⟩ rfl rfl) ?_
        refine p_one 12 rfl (by kernel_rfl) ?_
        refine t_store (v := (.agg _)) Try.sizeOf28 hS (by repeat first | exact .here _ _ | assumption | apply Pick.there) rfl rfl rfl rfl rfl rfl (fun w hS => ?_)
        replace hS := hS.recast (congrArg (blkA g4 28) (rset_full (vs := (stM s).cells) rfl))
        refine t_nil ?_
        refine ⟨.inl (by kernel_rfl), ?_⟩
        refine p_end (by kernel_rfl) ?_
        refine c_seq ?_
        refine c_seq ?_
        refine c_region ?_
        refine t_q (q_load1 Try.isAgg79 rfl (hS.cell (by repeat first | exact .here _ _ | assumption | apply Pick.there) rfl)) ?_
        refine t_call Try.call40 (voBad hS (by repeat first | exact .here _ _ | assumption | apply Pick.there)) rfl ?_
        rintro e w ⟨rfl, hS⟩
        refine ⟨_, rfl, ?_⟩
        refine t_nil ?_
        refine c_cond rfl ?_ ?_
        · intro hc19
          have hD := vrd_bad (s := s) hc19
          refine c_seq ?_
          refine c_region ?_
          refine t_q (q_build (qs := [(0, 1), (1, 1), (2, 1), (3, 1), (4, 1)]) [(.int _ _), (.int _ _), (.int _ _), (.int _ _), (.int _ _)] Try.zeroValue28 Try.runUnderlying28 ⟨rfl, Try.sizeOf3, rfl, Try.sizeOf3, rfl, Try.sizeOf3, rfl, Try.sizeOf26, rfl, Try.sizeOf3, trivial⟩ rfl rfl) ?_
          refine t_store (v := (.agg _)) Try.sizeOf28 hS (by repeat first | exact .here _ _ | assumption | apply Pick.there) rfl rfl rfl rfl rfl rfl (fun w hS => ?_)
          replace hS := hS.recast (congrArg (blkA g2 28) (rset_full (vs := (⟨0, 0, 0, 0, 0⟩ : StV).cells) rfl))
          refine t_nil ?_
          refine c_ret ?_
          refine r_one rfl (res1_cellN Try.isAgg28 Try.sizeOf28 rfl (hS.blk (by repeat first | exact .here _ _ | assumption | apply Pick.there)) rfl) ?_
          rw [hD]
          exact ⟨rfl, (((((hS.pick (A := blkA g4 28 _) (by repeat first | exact .here _ _ | assumption | apply Pick.there)).drop.pick (A := blkA g2 28 _) (by repeat first | exact .here _ _ | assumption | apply Pick.there)).drop.pick (A := blkA g1 79 [.pointer (some ⟨g, 0, none⟩)]) (by repeat first | exact .here _ _ | assumption | apply Pick.there)).drop.pick (A := K) (by repeat first | exact .here _ _ | assumption | apply Pick.there)).pick (A := rdO W K 149 g _) (by repeat first | exact .here _ _ | assumption | apply Pick.there))⟩
        · intro hc19
          have hD := vrd_ok (s := s) hc19
          refine c_skip ?_
          refine c_seq ?_
          refine c_region ?_
          refine t_q (q_cast (v' := .agg (stM s).cells.toArray) (q_load_blk Try.isAgg28 Try.sizeOf28 rfl (hS.blk (by repeat first | exact .here _ _ | assumption | apply Pick.there)) rfl) (by rfl)) ?_
          refine t_store (v := (.agg _)) Try.sizeOf28 hS (by repeat first | exact .here _ _ | assumption | apply Pick.there) rfl rfl rfl rfl rfl rfl (fun w hS => ?_)
          replace hS := hS.recast (congrArg (blkA g2 28) (rset_full (vs := (stM s).cells) rfl))
          refine t_nil ?_
          refine c_ret ?_
          refine r_one rfl (res1_cellN Try.isAgg28 Try.sizeOf28 rfl (hS.blk (by repeat first | exact .here _ _ | assumption | apply Pick.there)) rfl) ?_
          rw [hD]
          exact ⟨rfl, (((((hS.pick (A := blkA g4 28 _) (by repeat first | exact .here _ _ | assumption | apply Pick.there)).drop.pick (A := blkA g2 28 _) (by repeat first | exact .here _ _ | assumption | apply Pick.there)).drop.pick (A := blkA g1 79 [.pointer (some ⟨g, 0, none⟩)]) (by repeat first | exact .here _ _ | assumption | apply Pick.there)).drop.pick (A := K) (by repeat first | exact .here _ _ | assumption | apply Pick.there)).pick (A := rdO W K 149 g _) (by repeat first | exact .here _ _ | assumption | apply Pick.there))⟩
    ·
      refine t_alloc Try.zeroValue28 rfl hS (fun g4 w hS => ?_)
      refine t_nil ?_
      refine ⟨.inr ⟨_, hS.pick (by repeat first | exact .here _ _ | assumption | apply Pick.there)⟩, ?_⟩
      refine p_one 3 rfl (by kernel_rfl) ?_
      refine t_callv Try.call87 rfl (vnumo1 (s := s) (((hS.pick (A := K) (by repeat first | exact .here _ _ | assumption | apply Pick.there)).pick (A := blkA g1 79 [.pointer (some ⟨g, 0, none⟩)]) (by repeat first | exact .here _ _ | assumption | apply Pick.there)).pick (A := rdO W K 149 g _) (by repeat first | exact .here _ _ | assumption | apply Pick.there))) rfl ?_
      rintro e w ⟨rfl, hS⟩
      refine ⟨_, rfl, ?_⟩
      refine t_nil ?_
      refine ⟨.inr ⟨_, hS.pick (by repeat first | exact .here _ _ | assumption | apply Pick.there)⟩, ?_⟩
      refine p_one 5 rfl (by kernel_rfl) ?_
      refine t_callv Try.call87 rfl (vnumo2 (s := s) (((hS.pick (A := K) (by repeat first | exact .here _ _ | assumption | apply Pick.there)).pick (A := blkA g1 79 [.pointer (some ⟨g, 0, none⟩)]) (by repeat first | exact .here _ _ | assumption | apply Pick.there)).pick (A := rdO W K 149 g _) (by repeat first | exact .here _ _ | assumption | apply Pick.there))) rfl ?_
      rintro e w ⟨rfl, hS⟩
      refine ⟨_, rfl, ?_⟩
      refine t_nil ?_
      refine ⟨.inr ⟨_, hS.pick (by repeat first | exact .here _ _ | assumption | apply Pick.there)⟩, ?_⟩
      refine p_one 7 rfl (by kernel_rfl) ?_
      refine t_call Try.call89 (vnato3 (s := s) (((hS.pick (A := K) (by repeat first | exact .here _ _ | assumption | apply Pick.there)).pick (A := blkA g1 79 [.pointer (some ⟨g, 0, none⟩)]) (by repeat first | exact .here _ _ | assumption | apply Pick.there)).pick (A := rdO W K 149 g _) (by repeat first | exact .here _ _ | assumption | apply Pick.there))) rfl ?_
      rintro e w ⟨rfl, hS⟩
      refine ⟨_, rfl, ?_⟩
      refine t_nil ?_
      refine ⟨.inr ⟨_, hS.pick (by repeat first | exact .here _ _ | assumption | apply Pick.there)⟩, ?_⟩
      refine p_one 9 rfl (by kernel_rfl) ?_
      refine t_callv Try.call87 rfl (vnumo4 (s := s) (((hS.pick (A := K) (by repeat first | exact .here _ _ | assumption | apply Pick.there)).pick (A := blkA g1 79 [.pointer (some ⟨g, 0, none⟩)]) (by repeat first | exact .here _ _ | assumption | apply Pick.there)).pick (A := rdO W K 149 g _) (by repeat first | exact .here _ _ | assumption | apply Pick.there))) rfl ?_
      rintro e w ⟨rfl, hS⟩
      refine ⟨_, rfl, ?_⟩
      refine t_nil ?_
      refine ⟨.inr ⟨_, hS.pick (by repeat first | exact .here _ _ | assumption | apply Pick.there)⟩, ?_⟩
      refine p_q hap hsel 10 rfl rfl ⟨_, hS.pick (by repeat first | exact .here _ _ | assumption | apply Pick.there)⟩ (fun w hI => q_build (qs := [(0, 1), (1, 1), (2, 1), (3, 1), (4, 1)]) [.int .i64 (v0 s).1, .int .i64 (v1 s).1, .int .i64 (v2 s).1, .int .u64 ((v3 s).1 : Int), .int .i64 (v4 s).1] Try.zeroValue28 Try.runUnderlying28 ⟨rfl, Try.sizeOf3, rfl, Try.sizeOf3, rfl, Try.sizeOf3, rfl, Try.sizeOf26, rfl, Try.sizeOf3, trivial⟩ rfl rfl) ?_
      refine p_one 12 rfl (by kernel_rfl) ?_
      refine t_store (v := (.agg _)) Try.sizeOf28 hS (by repeat first | exact .here _ _ | assumption | apply Pick.there) rfl rfl rfl rfl rfl rfl (fun w hS => ?_)
      replace hS := hS.recast (congrArg (blkA g4 28) (rset_full (vs := (stM s).cells) rfl))
      refine t_nil ?_
      refine ⟨.inl (by kernel_rfl), ?_⟩
      refine p_end (by kernel_rfl) ?_
      refine c_seq ?_
      refine c_seq ?_
      refine c_region ?_
      refine t_q (q_load1 Try.isAgg79 rfl (hS.cell (by repeat first | exact .here _ _ | assumption | apply Pick.there) rfl)) ?_
      refine t_call Try.call40 (voBad hS (by repeat first | exact .here _ _ | assumption | apply Pick.there)) rfl ?_
      rintro e w ⟨rfl, hS⟩
      refine ⟨_, rfl, ?_⟩
      refine t_nil ?_
      refine c_cond rfl ?_ ?_
      · intro hc25
        have hD := vrd_bad (s := s) hc25
        refine c_seq ?_
        refine c_region ?_
        refine t_q (q_build (qs := [(0, 1), (1, 1), (2, 1), (3, 1), (4, 1)]) [(.int _ _), (.int _ _), (.int _ _), (.int _ _), (.int _ _)] Try.zeroValue28 Try.runUnderlying28 ⟨rfl, Try.sizeOf3, rfl, Try.sizeOf3, rfl, Try.sizeOf3, rfl, Try.sizeOf26, rfl, Try.sizeOf3, trivial⟩ rfl rfl) ?_
        refine t_store (v := (.agg _)) Try.sizeOf28 hS (by repeat first | exact .here _ _ | assumption | apply Pick.there) rfl rfl rfl rfl rfl rfl (fun w hS => ?_)
        replace hS := hS.recast (congrArg (blkA g2 28) (rset_full (vs := (⟨0, 0, 0, 0, 0⟩ : StV).cells) rfl))
        refine t_nil ?_
        refine c_ret ?_
        refine r_one rfl (res1_cellN Try.isAgg28 Try.sizeOf28 rfl (hS.blk (by repeat first | exact .here _ _ | assumption | apply Pick.there)) rfl) ?_
        rw [hD]
        exact ⟨rfl, (((((hS.pick (A := blkA g4 28 _) (by repeat first | exact .here _ _ | assumption | apply Pick.there)).drop.pick (A := blkA g2 28 _) (by repeat first | exact .here _ _ | assumption | apply Pick.there)).drop.pick (A := blkA g1 79 [.pointer (some ⟨g, 0, none⟩)]) (by repeat first | exact .here _ _ | assumption | apply Pick.there)).drop.pick (A := K) (by repeat first | exact .here _ _ | assumption | apply Pick.there)).pick (A := rdO W K 149 g _) (by repeat first | exact .here _ _ | assumption | apply Pick.there))⟩
      · intro hc25
        have hD := vrd_ok (s := s) hc25
        refine c_skip ?_
        refine c_seq ?_
        refine c_region ?_
        refine t_q (q_cast (v' := .agg (stM s).cells.toArray) (q_load_blk Try.isAgg28 Try.sizeOf28 rfl (hS.blk (by repeat first | exact .here _ _ | assumption | apply Pick.there)) rfl) (by rfl)) ?_
        refine t_store (v := (.agg _)) Try.sizeOf28 hS (by repeat first | exact .here _ _ | assumption | apply Pick.there) rfl rfl rfl rfl rfl rfl (fun w hS => ?_)
        replace hS := hS.recast (congrArg (blkA g2 28) (rset_full (vs := (stM s).cells) rfl))
        refine t_nil ?_
        refine c_ret ?_
        refine r_one rfl (res1_cellN Try.isAgg28 Try.sizeOf28 rfl (hS.blk (by repeat first | exact .here _ _ | assumption | apply Pick.there)) rfl) ?_
        rw [hD]
        exact ⟨rfl, (((((hS.pick (A := blkA g4 28 _) (by repeat first | exact .here _ _ | assumption | apply Pick.there)).drop.pick (A := blkA g2 28 _) (by repeat first | exact .here _ _ | assumption | apply Pick.there)).drop.pick (A := blkA g1 79 [.pointer (some ⟨g, 0, none⟩)]) (by repeat first | exact .here _ _ | assumption | apply Pick.there)).drop.pick (A := K) (by repeat first | exact .here _ _ | assumption | apply Pick.there)).pick (A := rdO W K 149 g _) (by repeat first | exact .here _ _ | assumption | apply Pick.there))⟩
  ·
    refine t_alloc Try.zeroValue28 rfl hS (fun g4 w hS => ?_)
    refine t_nil ?_
    refine ⟨.inr ⟨_, hS.pick (by repeat first | exact .here _ _ | assumption | apply Pick.there)⟩, ?_⟩
    refine p_one 1 rfl (by kernel_rfl) ?_
    refine t_callv Try.call87 rfl (vnumo0 (s := s) (((hS.pick (A := K) (by repeat first | exact .here _ _ | assumption | apply Pick.there)).pick (A := blkA g1 79 [.pointer (some ⟨g, 0, none⟩)]) (by repeat first | exact .here _ _ | assumption | apply Pick.there)).pick (A := rdO W K 149 g _) (by repeat first | exact .here _ _ | assumption | apply Pick.there))) rfl ?_
    rintro e w ⟨rfl, hS⟩
    refine ⟨_, rfl, ?_⟩
    refine t_nil ?_
    refine ⟨.inr ⟨_, hS.pick (by repeat first | exact .here _ _ | assumption | apply Pick.there)⟩, ?_⟩
    refine p_one 3 rfl (by kernel_rfl) ?_
    refine t_callv Try.call87 rfl (vnumo1 (s := s) (((hS.pick (A := K) (by repeat first | exact .here _ _ | assumption | apply Pick.there)).pick (A := blkA g1 79 [.pointer (some ⟨g, 0, none⟩)]) (by repeat first | exact .here _ _ | assumption | apply Pick.there)).pick (A := rdO W K 149 g _) (by repeat first | exact .here _ _ | assumption | apply Pick.there))) rfl ?_
    rintro e w ⟨rfl, hS⟩
    refine ⟨_, rfl, ?_⟩
    refine t_nil ?_
    refine ⟨.inr ⟨_, hS.pick (by repeat first | exact .here _ _ | assumption | apply Pick.there)⟩, ?_⟩
    refine p_one 5 rfl (by kernel_rfl) ?_
    refine t_callv Try.call87 rfl (vnumo2 (s := s) (((hS.pick (A := K) (by repeat first | exact .here _ _ | assumption | apply Pick.there)).pick (A := blkA g1 79 [.pointer (some ⟨g, 0, none⟩)]) (by repeat first | exact .here _ _ | assumption | apply Pick.there)).pick (A := rdO W K 149 g _) (by repeat first | exact .here _ _ | assumption | apply Pick.there))) rfl ?_
    rintro e w ⟨rfl, hS⟩
    refine ⟨_, rfl, ?_⟩
    refine t_nil ?_
    refine ⟨.inr ⟨_, hS.pick (by repeat first | exact .here _ _ | assumption | apply Pick.there)⟩, ?_⟩
    refine p_one 7 rfl (by kernel_rfl) ?_
    refine t_call Try.call89 (vnato3 (s := s) (((hS.pick (A := K) (by repeat first | exact .here _ _ | assumption | apply Pick.there)).pick (A := blkA g1 79 [.pointer (some ⟨g, 0, none⟩)]) (by repeat first | exact .here _ _ | assumption | apply Pick.there)).pick (A := rdO W K 149 g _) (by repeat first | exact .here _ _ | assumption | apply Pick.there))) rfl ?_
    rintro e w ⟨rfl, hS⟩
    refine ⟨_, rfl, ?_⟩
    refine t_nil ?_
    refine ⟨.inr ⟨_, hS.pick (by repeat first | exact .here _ _ | assumption | apply Pick.there)⟩, ?_⟩
    refine p_one 9 rfl (by kernel_rfl) ?_
    refine t_callv Try.call87 rfl (vnumo4 (s := s) (((hS.pick (A := K) (by repeat first | exact .here _ _ | assumption | apply Pick.there)).pick (A := blkA g1 79 [.pointer (some ⟨g, 0, none⟩)]) (by repeat first | exact .here _ _ | assumption | apply Pick.there)).pick (A := rdO W K 149 g _) (by repeat first | exact .here _ _ | assumption | apply Pick.there))) rfl ?_
    rintro e w ⟨rfl, hS⟩
    refine ⟨_, rfl, ?_⟩
    refine t_nil ?_
    refine ⟨.inr ⟨_, hS.pick (by repeat first | exact .here _ _ | assumption | apply Pick.there)⟩, ?_⟩
    refine p_q hap hsel 10 rfl rfl ⟨_, hS.pick (by repeat first | exact .here _ _ | assumption | apply Pick.there)⟩ (fun w hI => q_build (qs := [(0, 1), (1, 1), (2, 1), (3, 1), (4, 1)]) [.int .i64 (v0 s).1, .int .i64 (v1 s).1, .int .i64 (v2 s).1, .int .u64 ((v3 s).1 : Int), .int .i64 (v4 s).1] Try.zeroValue28 Try.runUnderlying28 ⟨rfl, Try.sizeOf3, rfl, Try.sizeOf3, rfl, Try.sizeOf3, rfl, Try.sizeOf26, rfl, Try.sizeOf3, trivial⟩ rfl rfl) ?_
    refine p_one 12 rfl (by kernel_rfl) ?_
    refine t_store (v := (.agg _)) Try.sizeOf28 hS (by repeat first | exact .here _ _ | assumption | apply Pick.there) rfl rfl rfl rfl rfl rfl (fun w hS => ?_)
    replace hS := hS.recast (congrArg (blkA g4 28) (rset_full (vs := (stM s).cells) rfl))
    refine t_nil ?_
    refine ⟨.inl (by kernel_rfl), ?_⟩
    refine p_end (by kernel_rfl) ?_
    refine c_seq ?_
    refine c_seq ?_
    refine c_region ?_
    refine t_q (q_load1 Try.isAgg79 rfl (hS.cell (by repeat first | exact .here _ _ | assumption | apply Pick.there) rfl)) ?_
    refine t_call Try.call40 (voBad hS (by repeat first | exact .here _ _ | assumption | apply Pick.there)) rfl ?_
    rintro e w ⟨rfl, hS⟩
    refine ⟨_, rfl, ?_⟩
    refine t_nil ?_
    refine c_cond rfl ?_ ?_
    · intro hc32
      have hD := vrd_bad (s := s) hc32
      refine c_seq ?_
      refine c_region ?_
      refine t_q (q_build (qs := [(0, 1), (1, 1), (2, 1), (3, 1), (4, 1)]) [(.int _ _), (.int _ _), (.int _ _), (.int _ _), (.int _ _)] Try.zeroValue28 Try.runUnderlying28 ⟨rfl, Try.sizeOf3, rfl, Try.sizeOf3, rfl, Try.sizeOf3, rfl, Try.sizeOf26, rfl, Try.sizeOf3, trivial⟩ rfl rfl) ?_
      refine t_store (v := (.agg _)) Try.sizeOf28 hS (by repeat first | exact .here _ _ | assumption | apply Pick.there) rfl rfl rfl rfl rfl rfl (fun w hS => ?_)
      replace hS := hS.recast (congrArg (blkA g2 28) (rset_full (vs := (⟨0, 0, 0, 0, 0⟩ : StV).cells) rfl))
      refine t_nil ?_
      refine c_ret ?_
      refine r_one rfl (res1_cellN Try.isAgg28 Try.sizeOf28 rfl (hS.blk (by repeat first | exact .here _ _ | assumption | apply Pick.there)) rfl) ?_
      rw [hD]
      exact ⟨rfl, (((((hS.pick (A := blkA g4 28 _) (by repeat first | exact .here _ _ | assumption | apply Pick.there)).drop.pick (A := blkA g2 28 _) (by repeat first | exact .here _ _ | assumption | apply Pick.there)).drop.pick (A := blkA g1 79 [.pointer (some ⟨g, 0, none⟩)]) (by repeat first | exact .here _ _ | assumption | apply Pick.there)).drop.pick (A := K) (by repeat first | exact .here _ _ | assumption | apply Pick.there)).pick (A := rdO W K 149 g _) (by repeat first | exact .here _ _ | assumption | apply Pick.there))⟩
    · intro hc32
      have hD := vrd_ok (s := s) hc32
      refine c_skip ?_
      refine c_seq ?_
      refine c_region ?_
      refine t_q (q_cast (v' := .agg (stM s).cells.toArray) (q_load_blk Try.isAgg28 Try.sizeOf28 rfl (hS.blk (by repeat first | exact .here _ _ | assumption | apply Pick.there)) rfl) (by rfl)) ?_
      refine t_store (v := (.agg _)) Try.sizeOf28 hS (by repeat first | exact .here _ _ | assumption | apply Pick.there) rfl rfl rfl rfl rfl rfl (fun w hS => ?_)
      replace hS := hS.recast (congrArg (blkA g2 28) (rset_full (vs := (stM s).cells) rfl))
      refine t_nil ?_
      refine c_ret ?_
      refine r_one rfl (res1_cellN Try.isAgg28 Try.sizeOf28 rfl (hS.blk (by repeat first | exact .here _ _ | assumption | apply Pick.there)) rfl) ?_
      rw [hD]
      exact ⟨rfl, (((((hS.pick (A := blkA g4 28 _) (by repeat first | exact .here _ _ | assumption | apply Pick.there)).drop.pick (A := blkA g2 28 _) (by repeat first | exact .here _ _ | assumption | apply Pick.there)).drop.pick (A := blkA g1 79 [.pointer (some ⟨g, 0, none⟩)]) (by repeat first | exact .here _ _ | assumption | apply Pick.there)).drop.pick (A := K) (by repeat first | exact .here _ _ | assumption | apply Pick.there)).pick (A := rdO W K 149 g _) (by repeat first | exact .here _ _ | assumption | apply Pick.there))⟩
theorem qvn0 {w : World} {L R : List Asn} {g : Nat} {s : Rs} (hS : St W w L) (pk : Pick L (rdrA W 87 g s) R) : Calls Try.prog 90 #[.pointer (some ⟨g, 0, none⟩)] w fun e w' => e = .returned (.int .i64 (v0 s).1) ∧ St W w' (rdrA W 87 g (v0 s).2 :: R) := by unfold v0; exact qInt hS pk
theorem qvn1 {w : World} {L R : List Asn} {g : Nat} {s : Rs} (hS : St W w L) (pk : Pick L (rdrA W 87 g (v0 s).2) R) : Calls Try.prog 90 #[.pointer (some ⟨g, 0, none⟩)] w fun e w' => e = .returned (.int .i64 (v1 s).1) ∧ St W w' (rdrA W 87 g (v1 s).2 :: R) := by unfold v1; exact qInt hS pk
theorem qvn2 {w : World} {L R : List Asn} {g : Nat} {s : Rs} (hS : St W w L) (pk : Pick L (rdrA W 87 g (v1 s).2) R) : Calls Try.prog 90 #[.pointer (some ⟨g, 0, none⟩)] w fun e w' => e = .returned (.int .i64 (v2 s).1) ∧ St W w' (rdrA W 87 g (v2 s).2 :: R) := by unfold v2; exact qInt hS pk
theorem qvn4 {w : World} {L R : List Asn} {g : Nat} {s : Rs} (hS : St W w L) (pk : Pick L (rdrA W 87 g (v3 s).2) R) : Calls Try.prog 90 #[.pointer (some ⟨g, 0, none⟩)] w fun e w' => e = .returned (.int .i64 (v4 s).1) ∧ St W w' (rdrA W 87 g (v4 s).2 :: R) := by unfold v4; exact qInt hS pk
theorem qvn3 {w : World} {L R : List Asn} {g : Nat} {s : Rs} (hS : St W w L) (pk : Pick L (rdrA W 87 g (v2 s).2) R) : Calls Try.prog 91 #[.pointer (some ⟨g, 0, none⟩), .int .u64 18446744073709551615] w fun e w' => e = .returned (.int .u64 ((v3 s).1 : Int)) ∧ St W w' (rdrA W 87 g (v3 s).2 :: R) := by unfold v3; exact qNat_all hS pk
set_option maxHeartbeats 1000000 in
set_option maxRecDepth 100000 in
theorem qvread {w : World} {L R : List Asn} {g : Nat} {s : Rs} (hS : St W w L) (pk : Pick L (rdrA W 87 g s) R) : Calls Try.prog 38 #[.pointer (some ⟨g, 0, none⟩)] w fun e w' => e = .returned (.agg (vrd s).cells.toArray) ∧ St W w' (rdrA W 87 g (v4 s).2 :: R) := by
  replace hS := hS.pick pk
  clear pk
  refine calls_of_wpE (args := [_]) Try.func38 rfl rfl rfl ?_
  refine c_seq ?_
  refine c_region ?_
  refine t_alloc Try.zeroValue35 rfl hS (fun g2 w hS => ?_)
  refine t_nil ?_
  refine c_seq ?_
  refine c_region ?_
  refine t_alloc Try.zeroValue35 rfl hS (fun g3 w hS => ?_)
  refine t_nil ?_
  refine c_seq ?_
  refine c_region ?_
  refine t_q (q_mv (.pointer _) rfl) ?_
  refine t_call Try.call90 (qvn0 (s := s) hS (by repeat first | exact .here _ _ | assumption | apply Pick.there)) rfl ?_
  rintro e w ⟨rfl, hS⟩
  refine ⟨_, rfl, ?_⟩
  refine t_q (q_fieldAddr 0 Try.runUnderlying35 rfl Try.sizeOf3 (by decide) rfl rfl) ?_
  refine t_store (v := (.int _ _)) Try.sizeOf3 hS (by repeat first | exact .here _ _ | assumption | apply Pick.there) rfl rfl rfl rfl rfl rfl (fun w hS => ?_)
  replace hS := hS.recast (show blkA g3 35 _ = blkA g3 35 [.int .i64 (v0 s).1, .int .i64 0, .int .i64 0, .int .u64 0, .int .i64 0] from rfl)
  refine t_nil ?_
  refine c_seq ?_
  refine c_region ?_
  refine t_q (q_mv (.pointer _) rfl) ?_
  refine t_call Try.call90 (qvn1 (s := s) hS (by repeat first | exact .here _ _ | assumption | apply Pick.there)) rfl ?_
  rintro e w ⟨rfl, hS⟩
  refine ⟨_, rfl, ?_⟩
  refine t_q (q_fieldAddr 1 Try.runUnderlying35 rfl Try.sizeOf3 (by decide) rfl rfl) ?_
  refine t_store (v := (.int _ _)) Try.sizeOf3 hS (by repeat first | exact .here _ _ | assumption | apply Pick.there) rfl rfl rfl rfl rfl rfl (fun w hS => ?_)
  replace hS := hS.recast (show blkA g3 35 _ = blkA g3 35 [.int .i64 (v0 s).1, .int .i64 (v1 s).1, .int .i64 0, .int .u64 0, .int .i64 0] from rfl)
  refine t_nil ?_
  refine c_seq ?_
  refine c_region ?_
  refine t_q (q_mv (.pointer _) rfl) ?_
  refine t_call Try.call90 (qvn2 (s := s) hS (by repeat first | exact .here _ _ | assumption | apply Pick.there)) rfl ?_
  rintro e w ⟨rfl, hS⟩
  refine ⟨_, rfl, ?_⟩
  refine t_q (q_fieldAddr 2 Try.runUnderlying35 rfl Try.sizeOf3 (by decide) rfl rfl) ?_
  refine t_store (v := (.int _ _)) Try.sizeOf3 hS (by repeat first | exact .here _ _ | assumption | apply Pick.there) rfl rfl rfl rfl rfl rfl (fun w hS => ?_)
  replace hS := hS.recast (show blkA g3 35 _ = blkA g3 35 [.int .i64 (v0 s).1, .int .i64 (v1 s).1, .int .i64 (v2 s).1, .int .u64 0, .int .i64 0] from rfl)
  refine t_nil ?_
  refine c_seq ?_
  refine c_region ?_
  refine t_q (q_mv (.pointer _) rfl) ?_
  refine t_call Try.call91 (qvn3 (s := s) hS (by repeat first | exact .here _ _ | assumption | apply Pick.there)) rfl ?_
  rintro e w ⟨rfl, hS⟩
  refine ⟨_, rfl, ?_⟩
  refine t_q (q_fieldAddr 3 Try.runUnderlying35 rfl Try.sizeOf26 (by decide) rfl rfl) ?_
  refine t_store (v := (.int _ _)) Try.sizeOf26 hS (by repeat first | exact .here _ _ | assumption | apply Pick.there) rfl rfl rfl rfl rfl rfl (fun w hS => ?_)
  replace hS := hS.recast (show blkA g3 35 _ = blkA g3 35 [.int .i64 (v0 s).1, .int .i64 (v1 s).1, .int .i64 (v2 s).1, .int .u64 ((v3 s).1 : Int), .int .i64 0] from rfl)
  refine t_nil ?_
  refine c_seq ?_
  refine c_region ?_
  refine t_q (q_mv (.pointer _) rfl) ?_
  refine t_call Try.call90 (qvn4 (s := s) hS (by repeat first | exact .here _ _ | assumption | apply Pick.there)) rfl ?_
  rintro e w ⟨rfl, hS⟩
  refine ⟨_, rfl, ?_⟩
  refine t_q (q_fieldAddr 4 Try.runUnderlying35 rfl Try.sizeOf3 (by decide) rfl rfl) ?_
  refine t_store (v := (.int _ _)) Try.sizeOf3 hS (by repeat first | exact .here _ _ | assumption | apply Pick.there) rfl rfl rfl rfl rfl rfl (fun w hS => ?_)
  replace hS := hS.recast (show blkA g3 35 _ = blkA g3 35 [.int .i64 (v0 s).1, .int .i64 (v1 s).1, .int .i64 (v2 s).1, .int .u64 ((v3 s).1 : Int), .int .i64 (v4 s).1] from rfl)
  refine t_nil ?_
  refine c_seq ?_
  refine c_seq ?_
  obtain ⟨A1, c1, hR1, hc1, hS⟩ := (hS.pick (A := rdrA W 87 g (v4 s).2) (by repeat first | exact .here _ _ | assumption | apply Pick.there)).rdr
  refine c_region ?_
  refine t_q (q_mv (.pointer _) rfl) ?_
  refine t_q (q_nilCheck rfl) ?_
  refine t_q (q_fieldAddr 1 Try.runUnderlying87 rfl Try.sizeOf4 (by decide) rfl rfl) ?_
  refine t_q (q_load1 Try.isAgg4 rfl (hS.cell (by repeat first | exact .here _ _ | assumption | apply Pick.there) rfl)) ?_
  refine t_nil ?_
  refine c_cond rfl ?_ ?_
  · intro hc7
    have hD := vrd_bad (s := s) hc7
    refine c_seq ?_
    refine c_region ?_
    refine t_q (q_build (qs := [(0, 1), (1, 1), (2, 1), (3, 1), (4, 1)]) [(.int _ _), (.int _ _), (.int _ _), (.int _ _), (.int _ _)] Try.zeroValue35 Try.runUnderlying35 ⟨rfl, Try.sizeOf3, rfl, Try.sizeOf3, rfl, Try.sizeOf3, rfl, Try.sizeOf26, rfl, Try.sizeOf3, trivial⟩ rfl rfl) ?_
    refine t_store (v := (.agg _)) Try.sizeOf35 hS (by repeat first | exact .here _ _ | assumption | apply Pick.there) rfl rfl rfl rfl rfl rfl (fun w hS => ?_)
    replace hS := hS.recast (congrArg (blkA g2 35) (rset_full (vs := (⟨0, 0, 0, 0, 0⟩ : StV).cells) rfl))
    refine t_nil ?_
    refine c_ret ?_
    refine r_one rfl (res1_cellN Try.isAgg35 Try.sizeOf35 rfl (hS.blk (by repeat first | exact .here _ _ | assumption | apply Pick.there)) rfl) ?_
    rw [hD]
    exact ⟨rfl, ((((hS.pick (A := blkA g3 35 _) (by repeat first | exact .here _ _ | assumption | apply Pick.there)).drop.pick (A := blkA g2 35 _) (by repeat first | exact .here _ _ | assumption | apply Pick.there)).drop.pick (A := blkA g 87 _) (by repeat first | exact .here _ _ | assumption | apply Pick.there))).unrdr (s := (v4 s).2) rfl rfl hR1 hc1⟩
  · intro hc7
    have hD := vrd_ok (s := s) hc7
    refine c_skip ?_
    refine c_seq ?_
    refine c_region ?_
    refine t_q (q_cast (v' := .agg (stM s).cells.toArray) (q_load_blk Try.isAgg35 Try.sizeOf35 rfl (hS.blk (by repeat first | exact .here _ _ | assumption | apply Pick.there)) rfl) (by rfl)) ?_
    refine t_store (v := (.agg _)) Try.sizeOf35 hS (by repeat first | exact .here _ _ | assumption | apply Pick.there) rfl rfl rfl rfl rfl rfl (fun w hS => ?_)
    replace hS := hS.recast (congrArg (blkA g2 35) (rset_full (vs := (stM s).cells) rfl))
    refine t_nil ?_
    refine c_ret ?_
    refine r_one rfl (res1_cellN Try.isAgg35 Try.sizeOf35 rfl (hS.blk (by repeat first | exact .here _ _ | assumption | apply Pick.there)) rfl) ?_
    rw [hD]
    exact ⟨rfl, ((((hS.pick (A := blkA g3 35 _) (by repeat first | exact .here _ _ | assumption | apply Pick.there)).drop.pick (A := blkA g2 35 _) (by repeat first | exact .here _ _ | assumption | apply Pick.there)).drop.pick (A := blkA g 87 _) (by repeat first | exact .here _ _ | assumption | apply Pick.there))).unrdr (s := (v4 s).2) rfl rfl hR1 hc1⟩
end Go.Proofs.Ytmgobaojioaioaa
