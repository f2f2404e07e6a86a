/- The document's table of acks: an ack more, a version less. -/
import Derived.Test.YtmgobaojioaioaaAm
namespace Go.Proofs.Ytmgobaojioaioaa
open Go Go.RowKit Go.Lib
variable {W : World}
theorem rowRdA {w : World} {Q R : List Asn} {A : Option Addr} {m c : Nat} {L : AckL} (hS : St W w Q) (pk : Pick Q (rowA 199 2 A m c (L.flatMap ackC)) R) (hm : m = L.length) : RdA w A L := hS.rowRdL pk hm (fun _ => rfl)
set_option maxRecDepth 100000 in
theorem add2_calls {A : Option Addr} {c : Nat} {L : AckL} {n : Int} (hR : RdA W A L) {r v : Int} (hm : L.length ≤ 1000000) : Calls Try.prog 109 #[.agg #[.int .i64 n, .slice A L.length c], .int .i64 r, .int .i64 v] W fun e w' => (((0 ≤ r ∧ r < n) ∧ (1 ≤ v ∧ v ≤ 32)) ∧ ∃ A' m c', e = .returned (.tuple #[.agg #[.int .i64 n, .slice A' m c'], .int .i64 0]) ∧ m = (L ++ [(r, v)]).length ∧ St W w' [rowA 199 2 A' m c' ((L ++ [(r, v)]).flatMap ackC)]) ∨ (¬ ((0 ≤ r ∧ r < n) ∧ (1 ≤ v ∧ v ≤ 32)) ∧ e = .returned (.tuple #[.agg #[.int .i64 n, .slice A L.length c], .int .i64 2]) ∧ St W w' []) := by
  have hS := St.init W
  refine calls_of_wpE (args := [_, _, _]) Try.func109 rfl rfl rfl ?_
  refine c_seq ?_
  refine c_region ?_
  refine t_box (v := (.agg _)) rfl rfl hS (fun g3 w hS => ?_)
  refine t_alloc Try.zeroValue39 rfl hS (fun g6 w hS => ?_)
  refine t_q (q_assign) ?_
  refine t_nil ?_
  refine c_seq ?_
  refine c_seq ?_
  refine c_region ?_
  refine t_q (q_mv (.int _ _) rfl) ?_
  refine t_q (q_lss rfl rfl) ?_
  refine t_q (q_mv (.bool _) rfl) ?_
  refine t_case 10 rfl ?_ ?_
  · intro hg2
    have hg2d := of_decide_eq_true hg2
    refine t_no rfl rfl (by rw [hg2]; decide) ?_
    refine t_no rfl rfl (by rw [hg2]; decide) ?_
    refine t_no rfl rfl (by rw [hg2]; decide) ?_
    refine t_no rfl rfl (by rw [hg2]; decide) ?_
    refine t_q (q_pick_t rfl hg2) ?_
    refine t_q (q_mv (.bool _) rfl) ?_
    refine t_no rfl rfl (by decide) ?_
    refine t_no rfl rfl (by decide) ?_
    refine t_no rfl rfl (by decide) ?_
    refine t_q (q_pick_t rfl rfl) ?_
    refine t_nil ?_
    refine c_cond_t rfl rfl ?_
    have hc : ¬ ((0 ≤ r ∧ r < n) ∧ (1 ≤ v ∧ v ≤ 32)) := by
      intro hh
      first | omega | exact absurd hh.2 (not_dec_t ‹(!decide (1 ≤ v ∧ v ≤ 32)) = true›)
    refine c_seq ?_
    refine c_region ?_
    refine t_q (q_load_blk Try.isAgg39 Try.sizeOf39 rfl (hS.blk (by repeat first | exact .here _ _ | assumption | apply Pick.there)) rfl) ?_
    refine t_store (v := (.agg _)) Try.sizeOf39 hS (by repeat first | exact .here _ _ | assumption | apply Pick.there) rfl rfl rfl rfl rfl rfl (fun w hS => ?_)
    refine t_q (q_assign) ?_
    refine t_nil ?_
    refine c_ret ?_
    refine r_two rfl (res1_cellN Try.isAgg39 Try.sizeOf39 rfl (hS.blk (by repeat first | exact .here _ _ | assumption | apply Pick.there)) rfl) rfl ?_
    first
      | exact .inr ⟨hc, rfl, hS.nil⟩
      | (refine .inl ⟨hc, _, _, _, rfl, ?_, ((hS.pick (A := rowA 199 2 A32 _ c32 _) (by repeat first | exact .here _ _ | assumption | apply Pick.there)).recast (congrArg (rowA 199 2 _ _ _) ?_)).swap.swap⟩
         · simp
         · rw [List.flatMap_append, ← flat_range (cells := ackC) L]; rfl)
  · intro hg2
    have hg2d := of_decide_eq_false hg2
    refine t_yes rfl rfl hg2 ?_
    refine t_q (q_mv (.int _ _) rfl) ?_
    refine t_yes rfl rfl hg2 ?_
    refine t_q (q_fieldAddr 0 Try.runUnderlying39 rfl Try.sizeOf3 (by decide) rfl rfl) ?_
    refine t_yes rfl rfl hg2 ?_
    refine t_q (q_load1 Try.isAgg3 rfl (hS.cell (by repeat first | exact .here _ _ | assumption | apply Pick.there) rfl)) ?_
    refine t_yes rfl rfl hg2 ?_
    refine t_q (q_geq rfl rfl) ?_
    refine t_q (q_pick_f rfl hg2) ?_
    refine t_q (q_mv (.bool _) rfl) ?_
    refine t_case 16 rfl ?_ ?_
    · intro hg4
      have hg4d := of_decide_eq_true hg4
      refine t_no rfl rfl (by rw [hg4]; decide) ?_
      refine t_no rfl rfl (by rw [hg4]; decide) ?_
      refine t_no rfl rfl (by rw [hg4]; decide) ?_
      refine t_q (q_pick_t rfl hg4) ?_
      refine t_nil ?_
      refine c_cond_t rfl rfl ?_
      have hc : ¬ ((0 ≤ r ∧ r < n) ∧ (1 ≤ v ∧ v ≤ 32)) := by
        intro hh
        first | omega | exact absurd hh.2 (not_dec_t ‹(!decide (1 ≤ v ∧ v ≤ 32)) = true›)
      refine c_seq ?_
      refine c_region ?_
      refine t_q (q_load_blk Try.isAgg39 Try.sizeOf39 rfl (hS.blk (by repeat first | exact .here _ _ | assumption | apply Pick.there)) rfl) ?_
      refine t_store (v := (.agg _)) Try.sizeOf39 hS (by repeat first | exact .here _ _ | assumption | apply Pick.there) rfl rfl rfl rfl rfl rfl (fun w hS => ?_)
      refine t_q (q_assign) ?_
      refine t_nil ?_
      refine c_ret ?_
      refine r_two rfl (res1_cellN Try.isAgg39 Try.sizeOf39 rfl (hS.blk (by repeat first | exact .here _ _ | assumption | apply Pick.there)) rfl) rfl ?_
      first
        | exact .inr ⟨hc, rfl, hS.nil⟩
        | (refine .inl ⟨hc, _, _, _, rfl, ?_, ((hS.pick (A := rowA 199 2 A32 _ c32 _) (by repeat first | exact .here _ _ | assumption | apply Pick.there)).recast (congrArg (rowA 199 2 _ _ _) ?_)).swap.swap⟩
           · simp
           · rw [List.flatMap_append, ← flat_range (cells := ackC) L]; rfl)
    · intro hg4
      have hg4d := of_decide_eq_false hg4
      refine t_yes rfl rfl hg4 ?_
      refine t_q (q_mv (.int _ _) rfl) ?_
      refine t_yes rfl rfl hg4 ?_
      refine t_call Try.call126 (afine_calls) rfl ?_
      rintro e w ⟨rfl, hT⟩
      refine ⟨_, rfl, ?_⟩
      replace hS := hS.after hT
      refine t_yes rfl rfl hg4 ?_
      refine t_q (q_not rfl) ?_
      refine t_q (q_pick_f rfl hg4) ?_
      refine t_nil ?_
      refine c_cond rfl ?_ ?_
      · intro hc6
        have hc : ¬ ((0 ≤ r ∧ r < n) ∧ (1 ≤ v ∧ v ≤ 32)) := by
          intro hh
          first | omega | exact absurd hh.2 (not_dec_t ‹(!decide (1 ≤ v ∧ v ≤ 32)) = true›)
        refine c_seq ?_
        refine c_region ?_
        refine t_q (q_load_blk Try.isAgg39 Try.sizeOf39 rfl (hS.blk (by repeat first | exact .here _ _ | assumption | apply Pick.there)) rfl) ?_
        refine t_store (v := (.agg _)) Try.sizeOf39 hS (by repeat first | exact .here _ _ | assumption | apply Pick.there) rfl rfl rfl rfl rfl rfl (fun w hS => ?_)
        refine t_q (q_assign) ?_
        refine t_nil ?_
        refine c_ret ?_
        refine r_two rfl (res1_cellN Try.isAgg39 Try.sizeOf39 rfl (hS.blk (by repeat first | exact .here _ _ | assumption | apply Pick.there)) rfl) rfl ?_
        first
          | exact .inr ⟨hc, rfl, hS.nil⟩
          | (refine .inl ⟨hc, _, _, _, rfl, ?_, ((hS.pick (A := rowA 199 2 A32 _ c32 _) (by repeat first | exact .here _ _ | assumption | apply Pick.there)).recast (congrArg (rowA 199 2 _ _ _) ?_)).swap.swap⟩
             · simp
             · rw [List.flatMap_append, ← flat_range (cells := ackC) L]; rfl)
      · intro hc6
        have hc : (0 ≤ r ∧ r < n) ∧ (1 ≤ v ∧ v ≤ 32) := ⟨by omega, not_dec_f ‹(!decide (1 ≤ v ∧ v ≤ 32)) = false›⟩
        refine c_skip ?_
        refine c_seq ?_
        refine c_draw ?_
        refine d_keep (blkA g3 39 [.int .i64 n, .slice A L.length c]) 14 [0, 1, 2, 3, 4, 5, 6, 7, 8, 9, 10, 11, 12, 13] [0, 1, 2, 3, 4, 5, 6, 7, 8, 9, 10, 11, 12, 13] hS rfl (by kernel_rfl) (by kernel_rfl) (by kernel_rfl) (by kernel_rfl) (fun hap hsel w hS => ?_)
        refine p_q hap hsel 0 rfl rfl ⟨_, hS.pick (by repeat first | exact .here _ _ | assumption | apply Pick.there)⟩ (fun w hI => q_fieldAddr 0 Try.runUnderlying39 rfl Try.sizeOf3 (by decide) rfl rfl) ?_
        refine p_q hap hsel 1 rfl rfl ⟨_, hS.pick (by repeat first | exact .here _ _ | assumption | apply Pick.there)⟩ (fun w hI => q_load1 Try.isAgg3 rfl (hI.choose_spec.cell (by repeat first | exact .here _ _ | assumption | apply Pick.there) rfl)) ?_
        refine p_q hap hsel 3 rfl rfl ⟨_, hS.pick (by repeat first | exact .here _ _ | assumption | apply Pick.there)⟩ (fun w hI => q_fieldAddr 1 Try.runUnderlying39 rfl Try.sizeOf37 (by decide) rfl rfl) ?_
        refine p_q hap hsel 4 rfl rfl ⟨_, hS.pick (by repeat first | exact .here _ _ | assumption | apply Pick.there)⟩ (fun w hI => q_load1 Try.isAgg37 rfl (hI.choose_spec.cell (by repeat first | exact .here _ _ | assumption | apply Pick.there) rfl)) ?_
        refine p_q hap hsel 6 rfl rfl ⟨_, hS.pick (by repeat first | exact .here _ _ | assumption | apply Pick.there)⟩ (fun w hI => q_mv (.int _ _) rfl) ?_
        refine p_q hap hsel 7 rfl rfl ⟨_, hS.pick (by repeat first | exact .here _ _ | assumption | apply Pick.there)⟩ (fun w hI => q_mv (.int _ _) rfl) ?_
        refine p_q hap hsel 8 rfl rfl ⟨_, hS.pick (by repeat first | exact .here _ _ | assumption | apply Pick.there)⟩ (fun w hI => q_build (qs := [(0, 1), (1, 1)]) [(.int _ _), (.int _ _)] Try.zeroValue199 Try.runUnderlying199 ⟨rfl, Try.sizeOf3, rfl, Try.sizeOf3, trivial⟩ rfl rfl) ?_
        refine p_two 2 9 rfl rfl (by kernel_rfl) ?_ ?_
        ·
          refine t_buildSlice Try.runUnderlying37 Try.sizeOf199 Try.zeroValue199 rfl rfl (by intro v hv; simp at hv; try (first | (subst hv; rfl) | (rcases hv with rfl | rfl <;> rfl))) (by decide) (by decide) hS (fun g24 w hS => ?_)
          refine t_nil ?_
          refine ⟨.inr ⟨_, hS.pick (by repeat first | exact .here _ _ | assumption | apply Pick.there)⟩, ?_⟩
          refine p_two 5 9 rfl rfl (by kernel_rfl) ?_ ?_
          ·
            refine t_append (size := 2) (bytes := 16) Try.underlying37 (info_of Try.type199) rfl rfl rfl rfl (by decide) hS (by repeat first | exact .here _ _ | assumption | apply Pick.there) (hR.st hS) rfl rfl (fun _ _ => rfl) (by unfold maxLen; omega) (by omega) (fun A27 c27 w hS => ?_)
            refine t_nil ?_
            refine ⟨.inr ⟨_, hS.pick (by repeat first | exact .here _ _ | assumption | apply Pick.there)⟩, ?_⟩
            refine p_one 9 rfl (by kernel_rfl) ?_
            refine t_buildSlice Try.runUnderlying37 Try.sizeOf199 Try.zeroValue199 rfl rfl (by intro v hv; simp at hv; try (first | (subst hv; rfl) | (rcases hv with rfl | rfl <;> rfl))) (by decide) (by decide) hS (fun g31 w hS => ?_)
            refine t_nil ?_
            refine ⟨.inr ⟨_, hS.pick (by repeat first | exact .here _ _ | assumption | apply Pick.there)⟩, ?_⟩
            refine p_one 10 rfl (by kernel_rfl) ?_
            refine t_append_own (size := 2) (bytes := 16) Try.underlying37 (info_of Try.type199) rfl rfl rfl rfl (by decide) hS (by repeat first | exact .here _ _ | assumption | apply Pick.there) (by repeat first | exact .here _ _ | assumption | apply Pick.there) rfl rfl (by first | exact allOne_bv _ | exact allOne_ints _ _ | rfl) (by unfold maxLen; omega) (by omega) (fun A32 c32 w hS => ?_)
            refine t_nil ?_
            refine ⟨.inr ⟨_, hS.pick (by repeat first | exact .here _ _ | assumption | apply Pick.there)⟩, ?_⟩
            refine p_q hap hsel 11 rfl rfl ⟨_, hS.pick (by repeat first | exact .here _ _ | assumption | apply Pick.there)⟩ (fun w hI => q_build (qs := [(0, 1), (1, 1)]) [(.int _ _), (.slice _ _ _)] Try.zeroValue39 Try.runUnderlying39 ⟨rfl, Try.sizeOf3, rfl, Try.sizeOf37, trivial⟩ rfl rfl) ?_
            refine p_one 12 rfl (by kernel_rfl) ?_
            refine t_store (v := (.agg _)) Try.sizeOf39 hS (by repeat first | exact .here _ _ | assumption | apply Pick.there) rfl rfl rfl rfl rfl rfl (fun w hS => ?_)
            refine t_nil ?_
            refine ⟨.inr ⟨_, hS.pick (by repeat first | exact .here _ _ | assumption | apply Pick.there)⟩, ?_⟩
            refine p_q hap hsel 13 rfl rfl ⟨_, hS.pick (by repeat first | exact .here _ _ | assumption | apply Pick.there)⟩ (fun w hI => q_assign) ?_
            refine p_end (by kernel_rfl) ?_
            refine c_ret ?_
            refine r_two rfl (res1_cellN Try.isAgg39 Try.sizeOf39 rfl (hS.blk (by repeat first | exact .here _ _ | assumption | apply Pick.there)) rfl) rfl ?_
            first
              | exact .inr ⟨hc, rfl, hS.nil⟩
              | (refine .inl ⟨hc, _, _, _, rfl, ?_, ((hS.pick (A := rowA 199 2 A32 _ c32 _) (by repeat first | exact .here _ _ | assumption | apply Pick.there)).recast (congrArg (rowA 199 2 _ _ _) ?_)).swap.swap⟩
                 · simp
                 · rw [List.flatMap_append, ← flat_range (cells := ackC) L]; rfl)
          ·
            refine t_buildSlice Try.runUnderlying37 Try.sizeOf199 Try.zeroValue199 rfl rfl (by intro v hv; simp at hv; try (first | (subst hv; rfl) | (rcases hv with rfl | rfl <;> rfl))) (by decide) (by decide) hS (fun g31 w hS => ?_)
            refine t_nil ?_
            refine ⟨.inr ⟨_, hS.pick (by repeat first | exact .here _ _ | assumption | apply Pick.there)⟩, ?_⟩
            refine p_one 5 rfl (by kernel_rfl) ?_
            refine t_append (size := 2) (bytes := 16) Try.underlying37 (info_of Try.type199) rfl rfl rfl rfl (by decide) hS (by repeat first | exact .here _ _ | assumption | apply Pick.there) (hR.st hS) rfl rfl (fun _ _ => rfl) (by unfold maxLen; omega) (by omega) (fun A27 c27 w hS => ?_)
            refine t_nil ?_
            refine ⟨.inr ⟨_, hS.pick (by repeat first | exact .here _ _ | assumption | apply Pick.there)⟩, ?_⟩
            refine p_one 10 rfl (by kernel_rfl) ?_
            refine t_append_own (size := 2) (bytes := 16) Try.underlying37 (info_of Try.type199) rfl rfl rfl rfl (by decide) hS (by repeat first | exact .here _ _ | assumption | apply Pick.there) (by repeat first | exact .here _ _ | assumption | apply Pick.there) rfl rfl (by first | exact allOne_bv _ | exact allOne_ints _ _ | rfl) (by unfold maxLen; omega) (by omega) (fun A32 c32 w hS => ?_)
            refine t_nil ?_
            refine ⟨.inr ⟨_, hS.pick (by repeat first | exact .here _ _ | assumption | apply Pick.there)⟩, ?_⟩
            refine p_q hap hsel 11 rfl rfl ⟨_, hS.pick (by repeat first | exact .here _ _ | assumption | apply Pick.there)⟩ (fun w hI => q_build (qs := [(0, 1), (1, 1)]) [(.int _ _), (.slice _ _ _)] Try.zeroValue39 Try.runUnderlying39 ⟨rfl, Try.sizeOf3, rfl, Try.sizeOf37, trivial⟩ rfl rfl) ?_
            refine p_one 12 rfl (by kernel_rfl) ?_
            refine t_store (v := (.agg _)) Try.sizeOf39 hS (by repeat first | exact .here _ _ | assumption | apply Pick.there) rfl rfl rfl rfl rfl rfl (fun w hS => ?_)
            refine t_nil ?_
            refine ⟨.inr ⟨_, hS.pick (by repeat first | exact .here _ _ | assumption | apply Pick.there)⟩, ?_⟩
            refine p_q hap hsel 13 rfl rfl ⟨_, hS.pick (by repeat first | exact .here _ _ | assumption | apply Pick.there)⟩ (fun w hI => q_assign) ?_
            refine p_end (by kernel_rfl) ?_
            refine c_ret ?_
            refine r_two rfl (res1_cellN Try.isAgg39 Try.sizeOf39 rfl (hS.blk (by repeat first | exact .here _ _ | assumption | apply Pick.there)) rfl) rfl ?_
            first
              | exact .inr ⟨hc, rfl, hS.nil⟩
              | (refine .inl ⟨hc, _, _, _, rfl, ?_, ((hS.pick (A := rowA 199 2 A32 _ c32 _) (by repeat first | exact .here _ _ | assumption | apply Pick.there)).recast (congrArg (rowA 199 2 _ _ _) ?_)).swap.swap⟩
                 · simp
                 · rw [List.flatMap_append, ← flat_range (cells := ackC) L]; rfl)
        ·
          refine t_buildSlice Try.runUnderlying37 Try.sizeOf199 Try.zeroValue199 rfl rfl (by intro v hv; simp at hv; try (first | (subst hv; rfl) | (rcases hv with rfl | rfl <;> rfl))) (by decide) (by decide) hS (fun g31 w hS => ?_)
          refine t_nil ?_
          refine ⟨.inr ⟨_, hS.pick (by repeat first | exact .here _ _ | assumption | apply Pick.there)⟩, ?_⟩
          refine p_one 2 rfl (by kernel_rfl) ?_
          refine t_buildSlice Try.runUnderlying37 Try.sizeOf199 Try.zeroValue199 rfl rfl (by intro v hv; simp at hv; try (first | (subst hv; rfl) | (rcases hv with rfl | rfl <;> rfl))) (by decide) (by decide) hS (fun g24 w hS => ?_)
          refine t_nil ?_
          refine ⟨.inr ⟨_, hS.pick (by repeat first | exact .here _ _ | assumption | apply Pick.there)⟩, ?_⟩
          refine p_one 5 rfl (by kernel_rfl) ?_
          refine t_append (size := 2) (bytes := 16) Try.underlying37 (info_of Try.type199) rfl rfl rfl rfl (by decide) hS (by repeat first | exact .here _ _ | assumption | apply Pick.there) (hR.st hS) rfl rfl (fun _ _ => rfl) (by unfold maxLen; omega) (by omega) (fun A27 c27 w hS => ?_)
          refine t_nil ?_
          refine ⟨.inr ⟨_, hS.pick (by repeat first | exact .here _ _ | assumption | apply Pick.there)⟩, ?_⟩
          refine p_one 10 rfl (by kernel_rfl) ?_
          refine t_append_own (size := 2) (bytes := 16) Try.underlying37 (info_of Try.type199) rfl rfl rfl rfl (by decide) hS (by repeat first | exact .here _ _ | assumption | apply Pick.there) (by repeat first | exact .here _ _ | assumption | apply Pick.there) rfl rfl (by first | exact allOne_bv _ | exact allOne_ints _ _ | rfl) (by unfold maxLen; omega) (by omega) (fun A32 c32 w hS => ?_)
          refine t_nil ?_
          refine ⟨.inr ⟨_, hS.pick (by repeat first | exact .here _ _ | assumption | apply Pick.there)⟩, ?_⟩
          refine p_q hap hsel 11 rfl rfl ⟨_, hS.pick (by repeat first | exact .here _ _ | assumption | apply Pick.there)⟩ (fun w hI => q_build (qs := [(0, 1), (1, 1)]) [(.int _ _), (.slice _ _ _)] Try.zeroValue39 Try.runUnderlying39 ⟨rfl, Try.sizeOf3, rfl, Try.sizeOf37, trivial⟩ rfl rfl) ?_
          refine p_one 12 rfl (by kernel_rfl) ?_
          refine t_store (v := (.agg _)) Try.sizeOf39 hS (by repeat first | exact .here _ _ | assumption | apply Pick.there) rfl rfl rfl rfl rfl rfl (fun w hS => ?_)
          refine t_nil ?_
          refine ⟨.inr ⟨_, hS.pick (by repeat first | exact .here _ _ | assumption | apply Pick.there)⟩, ?_⟩
          refine p_q hap hsel 13 rfl rfl ⟨_, hS.pick (by repeat first | exact .here _ _ | assumption | apply Pick.there)⟩ (fun w hI => q_assign) ?_
          refine p_end (by kernel_rfl) ?_
          refine c_ret ?_
          refine r_two rfl (res1_cellN Try.isAgg39 Try.sizeOf39 rfl (hS.blk (by repeat first | exact .here _ _ | assumption | apply Pick.there)) rfl) rfl ?_
          first
            | exact .inr ⟨hc, rfl, hS.nil⟩
            | (refine .inl ⟨hc, _, _, _, rfl, ?_, ((hS.pick (A := rowA 199 2 A32 _ c32 _) (by repeat first | exact .here _ _ | assumption | apply Pick.there)).recast (congrArg (rowA 199 2 _ _ _) ?_)).swap.swap⟩
               · simp
               · rw [List.flatMap_append, ← flat_range (cells := ackC) L]; rfl)
-- drop2_calls: no such function here
end Go.Proofs.Ytmgobaojioaioaa
