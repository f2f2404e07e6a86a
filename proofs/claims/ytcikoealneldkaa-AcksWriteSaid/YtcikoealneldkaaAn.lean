/- The document's table of acks: an ack more, a version less. -/
import Derived.Test.YtcikoealneldkaaAm
namespace Go.Proofs.Ytcikoealneldkaa
open Go Go.RowKit Go.Lib
variable {W : World}
theorem dropL_snoc {L : AckL} {j : Nat} {v : Int} (h : j < L.length) : dropL (L.take (j + 1)) v = dropL (L.take j) v ++ (if (L.getD j default).2 ≠ v then [L.getD j default] else []) := by
  rw [List.take_succ_eq_append_getElem h, dropL, List.filter_append, List.getD_eq_getElem?_getD, List.getElem?_eq_getElem h]
  congr 1
  by_cases hv : L[j].2 = v <;> simp [hv]
theorem dropL_len (L : AckL) (v : Int) : (dropL L v).length ≤ L.length := List.length_filter_le _ _
theorem rowRdA {w : World} {Q R : List Asn} {A : Option Addr} {m c : Nat} {L : AckL} (hS : St W w Q) (pk : Pick Q (rowA 189 2 A m c (L.flatMap ackC)) R) (hm : m = L.length) : RdA w A L := hS.rowRdL pk hm (fun _ => rfl)

set_option maxRecDepth 100000 in
theorem add2_calls {A : Option Addr} {c : Nat} {L : AckL} {n : Int} (hR : RdA W A L) {r v : Int} (hm : L.length ≤ 1000000) : Calls Try.prog 36 #[.agg #[.int .i64 n, .slice A L.length c], .int .i64 r, .int .i64 v] W fun e w' => (((0 ≤ r ∧ r < n) ∧ (1 ≤ v ∧ v ≤ 32)) ∧ ∃ A' m c', e = .returned (.tuple #[.agg #[.int .i64 n, .slice A' m c'], .int .i64 0]) ∧ m = (L ++ [(r, v)]).length ∧ St W w' [rowA 189 2 A' m c' ((L ++ [(r, v)]).flatMap ackC)]) ∨ (¬ ((0 ≤ r ∧ r < n) ∧ (1 ≤ v ∧ v ≤ 32)) ∧ e = .returned (.tuple #[.agg #[.int .i64 n, .slice A L.length c], .int .i64 2]) ∧ St W w' []) := by
  have hS := St.init W
  refine calls_of_wpE (args := [_, _, _]) Try.func36 rfl rfl rfl ?_
  refine c_seq ?_
  refine c_region ?_
  refine t_box (v := (.agg _)) rfl rfl hS (fun g3 w hS => ?_)
  refine t_alloc Try.zeroValue35 rfl hS (fun g6 w hS => ?_)
  refine t_q (q_assign) ?_
  refine t_nil ?_
  refine c_seq ?_
  refine c_seq ?_
  refine c_region ?_
  refine t_q (q_mv (.int _ _) rfl) ?_
  refine t_q (q_lss rfl rfl) ?_
  refine t_q (q_mv (.bool _) rfl) ?_
  refine t_case 10 rfl ?_ ?_
  · intro hg2
    have hg2d := of_decide_eq_true hg2
    refine t_no rfl rfl (by rw [hg2]; decide) ?_
    refine t_no rfl rfl (by rw [hg2]; decide) ?_
    refine t_no rfl rfl (by rw [hg2]; decide) ?_
    refine t_no rfl rfl (by rw [hg2]; decide) ?_
    refine t_q (q_pick_t rfl hg2) ?_
    refine t_q (q_mv (.bool _) rfl) ?_
    refine t_no rfl rfl (by decide) ?_
    refine t_no rfl rfl (by decide) ?_
    refine t_no rfl rfl (by decide) ?_
    refine t_q (q_pick_t rfl rfl) ?_
    refine t_nil ?_
    refine c_cond_t rfl rfl ?_
    have hc : ¬ ((0 ≤ r ∧ r < n) ∧ (1 ≤ v ∧ v ≤ 32)) := by
      intro hh
      first | omega | exact absurd hh.2 (not_dec_t ‹(!decide (1 ≤ v ∧ v ≤ 32)) = true›)
    refine c_seq ?_
    refine c_region ?_
    refine t_q (q_load_blk Try.isAgg35 Try.sizeOf35 rfl (hS.blk (by repeat first | exact .here _ _ | assumption | apply Pick.there)) rfl) ?_
    refine t_store (v := (.agg _)) Try.sizeOf35 hS (by repeat first | exact .here _ _ | assumption | apply Pick.there) rfl rfl rfl rfl rfl rfl (fun w hS => ?_)
    refine t_q (q_assign) ?_
    refine t_nil ?_
    refine c_ret ?_
    refine r_two rfl (res1_cellN Try.isAgg35 Try.sizeOf35 rfl (hS.blk (by repeat first | exact .here _ _ | assumption | apply Pick.there)) rfl) rfl ?_
    first
      | exact .inr ⟨hc, rfl, hS.nil⟩
      | (refine .inl ⟨hc, _, _, _, rfl, ?_, ((hS.pick (A := rowA 189 2 A32 _ c32 _) (by repeat first | exact .here _ _ | assumption | apply Pick.there)).recast (congrArg (rowA 189 2 _ _ _) ?_)).swap.swap⟩
         · simp
         · rw [List.flatMap_append, ← flat_range (cells := ackC) L]; rfl)
  · intro hg2
    have hg2d := of_decide_eq_false hg2
    refine t_yes rfl rfl hg2 ?_
    refine t_q (q_mv (.int _ _) rfl) ?_
    refine t_yes rfl rfl hg2 ?_
    refine t_q (q_fieldAddr 0 Try.runUnderlying35 rfl Try.sizeOf3 (by decide) rfl rfl) ?_
    refine t_yes rfl rfl hg2 ?_
    refine t_q (q_load1 Try.isAgg3 rfl (hS.cell (by repeat first | exact .here _ _ | assumption | apply Pick.there) rfl)) ?_
    refine t_yes rfl rfl hg2 ?_
    refine t_q (q_geq rfl rfl) ?_
    refine t_q (q_pick_f rfl hg2) ?_
    refine t_q (q_mv (.bool _) rfl) ?_
    refine t_case 16 rfl ?_ ?_
    · intro hg4
      have hg4d := of_decide_eq_true hg4
      refine t_no rfl rfl (by rw [hg4]; decide) ?_
      refine t_no rfl rfl (by rw [hg4]; decide) ?_
      refine t_no rfl rfl (by rw [hg4]; decide) ?_
      refine t_q (q_pick_t rfl hg4) ?_
      refine t_nil ?_
      refine c_cond_t rfl rfl ?_
      have hc : ¬ ((0 ≤ r ∧ r < n) ∧ (1 ≤ v ∧ v ≤ 32)) := by
        intro hh
        first | omega | exact absurd hh.2 (not_dec_t ‹(!decide (1 ≤ v ∧ v ≤ 32)) = true›)
      refine c_seq ?_
      refine c_region ?_
      refine t_q (q_load_blk Try.isAgg35 Try.sizeOf35 rfl (hS.blk (by repeat first | exact .here _ _ | assumption | apply Pick.there)) rfl) ?_
      refine t_store (v := (.agg _)) Try.sizeOf35 hS (by repeat first | exact .here _ _ | assumption | apply Pick.there) rfl rfl rfl rfl rfl rfl (fun w hS => ?_)
      refine t_q (q_assign) ?_
      refine t_nil ?_
      refine c_ret ?_
      refine r_two rfl (res1_cellN Try.isAgg35 Try.sizeOf35 rfl (hS.blk (by repeat first | exact .here _ _ | assumption | apply Pick.there)) rfl) rfl ?_
      first
        | exact .inr ⟨hc, rfl, hS.nil⟩
        | (refine .inl ⟨hc, _, _, _, rfl, ?_, ((hS.pick (A := rowA 189 2 A32 _ c32 _) (by repeat first | exact .here _ _ | assumption | apply Pick.there)).recast (congrArg (rowA 189 2 _ _ _) ?_)).swap.swap⟩
           · simp
           · rw [List.flatMap_append, ← flat_range (cells := ackC) L]; rfl)
    · intro hg4
      have hg4d := of_decide_eq_false hg4
      refine t_yes rfl rfl hg4 ?_
      refine t_q (q_mv (.int _ _) rfl) ?_
      refine t_yes rfl rfl hg4 ?_
      refine t_call Try.call136 (fine_calls) rfl ?_
      rintro e w ⟨rfl, hT⟩
      refine ⟨_, rfl, ?_⟩
      replace hS := hS.after hT
      refine t_yes rfl rfl hg4 ?_
      refine t_q (q_not rfl) ?_
      refine t_q (q_pick_f rfl hg4) ?_
      refine t_nil ?_
      refine c_cond rfl ?_ ?_
      · intro hc6
        have hc : ¬ ((0 ≤ r ∧ r < n) ∧ (1 ≤ v ∧ v ≤ 32)) := by
          intro hh
          first | omega | exact absurd hh.2 (not_dec_t ‹(!decide (1 ≤ v ∧ v ≤ 32)) = true›)
        refine c_seq ?_
        refine c_region ?_
        refine t_q (q_load_blk Try.isAgg35 Try.sizeOf35 rfl (hS.blk (by repeat first | exact .here _ _ | assumption | apply Pick.there)) rfl) ?_
        refine t_store (v := (.agg _)) Try.sizeOf35 hS (by repeat first | exact .here _ _ | assumption | apply Pick.there) rfl rfl rfl rfl rfl rfl (fun w hS => ?_)
        refine t_q (q_assign) ?_
        refine t_nil ?_
        refine c_ret ?_
        refine r_two rfl (res1_cellN Try.isAgg35 Try.sizeOf35 rfl (hS.blk (by repeat first | exact .here _ _ | assumption | apply Pick.there)) rfl) rfl ?_
        first
          | exact .inr ⟨hc, rfl, hS.nil⟩
          | (refine .inl ⟨hc, _, _, _, rfl, ?_, ((hS.pick (A := rowA 189 2 A32 _ c32 _) (by repeat first | exact .here _ _ | assumption | apply Pick.there)).recast (congrArg (rowA 189 2 _ _ _) ?_)).swap.swap⟩
             · simp
             · rw [List.flatMap_append, ← flat_range (cells := ackC) L]; rfl)
      · intro hc6
        have hc : (0 ≤ r ∧ r < n) ∧ (1 ≤ v ∧ v ≤ 32) := ⟨by omega, not_dec_f ‹(!decide (1 ≤ v ∧ v ≤ 32)) = false›⟩
        refine c_skip ?_
        refine c_seq ?_
        refine c_draw ?_
        refine d_keep (blkA g3 35 [.int .i64 n, .slice A L.length c]) 14 [0, 1, 2, 3, 4, 5, 6, 7, 8, 9, 10, 11, 12, 13] [0, 1, 2, 3, 4, 5, 6, 7, 8, 9, 10, 11, 12, 13] hS rfl (by kernel_rfl) (by kernel_rfl) (by kernel_rfl) (by kernel_rfl) (fun hap hsel w hS => ?_)
        refine p_q hap hsel 0 rfl rfl ⟨_, hS.pick (by repeat first | exact .here _ _ | assumption | apply Pick.there)⟩ (fun w hI => q_fieldAddr 0 Try.runUnderlying35 rfl Try.sizeOf3 (by decide) rfl rfl) ?_
        refine p_q hap hsel 1 rfl rfl ⟨_, hS.pick (by repeat first | exact .here _ _ | assumption | apply Pick.there)⟩ (fun w hI => q_load1 Try.isAgg3 rfl (hI.choose_spec.cell (by repeat first | exact .here _ _ | assumption | apply Pick.there) rfl)) ?_
        refine p_q hap hsel 3 rfl rfl ⟨_, hS.pick (by repeat first | exact .here _ _ | assumption | apply Pick.there)⟩ (fun w hI => q_fieldAddr 1 Try.runUnderlying35 rfl Try.sizeOf33 (by decide) rfl rfl) ?_
        refine p_q hap hsel 4 rfl rfl ⟨_, hS.pick (by repeat first | exact .here _ _ | assumption | apply Pick.there)⟩ (fun w hI => q_load1 Try.isAgg33 rfl (hI.choose_spec.cell (by repeat first | exact .here _ _ | assumption | apply Pick.there) rfl)) ?_
        refine p_q hap hsel 6 rfl rfl ⟨_, hS.pick (by repeat first | exact .here _ _ | assumption | apply Pick.there)⟩ (fun w hI => q_mv (.int _ _) rfl) ?_
        refine p_q hap hsel 7 rfl rfl ⟨_, hS.pick (by repeat first | exact .here _ _ | assumption | apply Pick.there)⟩ (fun w hI => q_mv (.int _ _) rfl) ?_
        refine p_q hap hsel 8 rfl rfl ⟨_, hS.pick (by repeat first | exact .here _ _ | assumption | apply Pick.there)⟩ (fun w hI => q_build (qs := [(0, 1), (1, 1)]) [(.int _ _), (.int _ _)] Try.zeroValue189 Try.runUnderlying189 ⟨rfl, Try.sizeOf3, rfl, Try.sizeOf3, trivial⟩ rfl rfl) ?_
        refine p_two 2 9 rfl rfl (by kernel_rfl) ?_ ?_
        ·
          refine t_buildSlice Try.runUnderlying33 Try.sizeOf189 Try.zeroValue189 rfl rfl (by intro v hv; simp at hv; try (first | (subst hv; rfl) | (rcases hv with rfl | rfl <;> rfl))) (by decide) (by decide) hS (fun g24 w hS => ?_)
          refine t_nil ?_
          refine ⟨.inr ⟨_, hS.pick (by repeat first | exact .here _ _ | assumption | apply Pick.there)⟩, ?_⟩
          refine p_two 5 9 rfl rfl (by kernel_rfl) ?_ ?_
          ·
            refine t_append (size := 2) (bytes := 16) Try.underlying33 (info_of Try.type189) rfl rfl rfl rfl (by decide) hS (by repeat first | exact .here _ _ | assumption | apply Pick.there) (hR.st hS) rfl rfl (fun _ _ => rfl) (by unfold maxLen; omega) (by omega) (fun A27 c27 w hS => ?_)
            refine t_nil ?_
            refine ⟨.inr ⟨_, hS.pick (by repeat first | exact .here _ _ | assumption | apply Pick.there)⟩, ?_⟩
            refine p_one 9 rfl (by kernel_rfl) ?_
            refine t_buildSlice Try.runUnderlying33 Try.sizeOf189 Try.zeroValue189 rfl rfl (by intro v hv; simp at hv; try (first | (subst hv; rfl) | (rcases hv with rfl | rfl <;> rfl))) (by decide) (by decide) hS (fun g31 w hS => ?_)
            refine t_nil ?_
            refine ⟨.inr ⟨_, hS.pick (by repeat first | exact .here _ _ | assumption | apply Pick.there)⟩, ?_⟩
            refine p_one 10 rfl (by kernel_rfl) ?_
            refine t_append_own (size := 2) (bytes := 16) Try.underlying33 (info_of Try.type189) rfl rfl rfl rfl (by decide) hS (by repeat first | exact .here _ _ | assumption | apply Pick.there) (by repeat first | exact .here _ _ | assumption | apply Pick.there) rfl rfl (by first | exact allOne_bv _ | exact allOne_ints _ _ | rfl) (by unfold maxLen; omega) (by omega) (fun A32 c32 w hS => ?_)
            refine t_nil ?_
            refine ⟨.inr ⟨_, hS.pick (by repeat first | exact .here _ _ | assumption | apply Pick.there)⟩, ?_⟩
            refine p_q hap hsel 11 rfl rfl ⟨_, hS.pick (by repeat first | exact .here _ _ | assumption | apply Pick.there)⟩ (fun w hI => q_build (qs := [(0, 1), (1, 1)]) [(.int _ _), (.slice _ _ _)] Try.zeroValue35 Try.runUnderlying35 ⟨rfl, Try.sizeOf3, rfl, Try.sizeOf33, trivial⟩ rfl rfl) ?_
            refine p_one 12 rfl (by kernel_rfl) ?_
            refine t_store (v := (.agg _)) Try.sizeOf35 hS (by repeat first | exact .here _ _ | assumption | apply Pick.there) rfl rfl rfl rfl rfl rfl (fun w hS => ?_)
            refine t_nil ?_
            refine ⟨.inr ⟨_, hS.pick (by repeat first | exact .here _ _ | assumption | apply Pick.there)⟩, ?_⟩
            refine p_q hap hsel 13 rfl rfl ⟨_, hS.pick (by repeat first | exact .here _ _ | assumption | apply Pick.there)⟩ (fun w hI => q_assign) ?_
            refine p_end (by kernel_rfl) ?_
            refine c_ret ?_
            refine r_two rfl (res1_cellN Try.isAgg35 Try.sizeOf35 rfl (hS.blk (by repeat first | exact .here _ _ | assumption | apply Pick.there)) rfl) rfl ?_
            first
              | exact .inr ⟨hc, rfl, hS.nil⟩
              | (refine .inl ⟨hc, _, _, _, rfl, ?_, ((hS.pick (A := rowA 189 2 A32 _ c32 _) (by repeat first | exact .here _ _ | assumption | apply Pick.there)).recast (congrArg (rowA 189 2 _ _ _) ?_)).swap.swap⟩
                 · simp
                 · rw [List.flatMap_append, ← flat_range (cells := ackC) L]; rfl)
          ·
            refine t_buildSlice Try.runUnderlying33 Try.sizeOf189 Try.zeroValue189 rfl rfl (by intro v hv; simp at hv; try (first | (subst hv; rfl) | (rcases hv with rfl | rfl <;> rfl))) (by decide) (by decide) hS (fun g31 w hS => ?_)
            refine t_nil ?_
            refine ⟨.inr ⟨_, hS.pick (by repeat first | exact .here _ _ | assumption | apply Pick.there)⟩, ?_⟩
            refine p_one 5 rfl (by kernel_rfl) ?_
            refine t_append (size := 2) (bytes := 16) Try.underlying33 (info_of Try.type189) rfl rfl rfl rfl (by decide) hS (by repeat first | exact .here _ _ | assumption | apply Pick.there) (hR.st hS) rfl rfl (fun _ _ => rfl) (by unfold maxLen; omega) (by omega) (fun A27 c27 w hS => ?_)
            refine t_nil ?_
            refine ⟨.inr ⟨_, hS.pick (by repeat first | exact .here _ _ | assumption | apply Pick.there)⟩, ?_⟩
            refine p_one 10 rfl (by kernel_rfl) ?_
            refine t_append_own (size := 2) (bytes := 16) Try.underlying33 (info_of Try.type189) rfl rfl rfl rfl (by decide) hS (by repeat first | exact .here _ _ | assumption | apply Pick.there) (by repeat first | exact .here _ _ | assumption | apply Pick.there) rfl rfl (by first | exact allOne_bv _ | exact allOne_ints _ _ | rfl) (by unfold maxLen; omega) (by omega) (fun A32 c32 w hS => ?_)
            refine t_nil ?_
            refine ⟨.inr ⟨_, hS.pick (by repeat first | exact .here _ _ | assumption | apply Pick.there)⟩, ?_⟩
            refine p_q hap hsel 11 rfl rfl ⟨_, hS.pick (by repeat first | exact .here _ _ | assumption | apply Pick.there)⟩ (fun w hI => q_build (qs := [(0, 1), (1, 1)]) [(.int _ _), (.slice _ _ _)] Try.zeroValue35 Try.runUnderlying35 ⟨rfl, Try.sizeOf3, rfl, Try.sizeOf33, trivial⟩ rfl rfl) ?_
            refine p_one 12 rfl (by kernel_rfl) ?_
            refine t_store (v := (.agg _)) Try.sizeOf35 hS (by repeat first | exact .here _ _ | assumption | apply Pick.there) rfl rfl rfl rfl rfl rfl (fun w hS => ?_)
            refine t_nil ?_
            refine ⟨.inr ⟨_, hS.pick (by repeat first | exact .here _ _ | assumption | apply Pick.there)⟩, ?_⟩
            refine p_q hap hsel 13 rfl rfl ⟨_, hS.pick (by repeat first | exact .here _ _ | assumption | apply Pick.there)⟩ (fun w hI => q_assign) ?_
            refine p_end (by kernel_rfl) ?_
            refine c_ret ?_
            refine r_two rfl (res1_cellN Try.isAgg35 Try.sizeOf35 rfl (hS.blk (by repeat first | exact .here _ _ | assumption | apply Pick.there)) rfl) rfl ?_
            first
              | exact .inr ⟨hc, rfl, hS.nil⟩
              | (refine .inl ⟨hc, _, _, _, rfl, ?_, ((hS.pick (A := rowA 189 2 A32 _ c32 _) (by repeat first | exact .here _ _ | assumption | apply Pick.there)).recast (congrArg (rowA 189 2 _ _ _) ?_)).swap.swap⟩
                 · simp
                 · rw [List.flatMap_append, ← flat_range (cells := ackC) L]; rfl)
        ·
          refine t_buildSlice Try.runUnderlying33 Try.sizeOf189 Try.zeroValue189 rfl rfl (by intro v hv; simp at hv; try (first | (subst hv; rfl) | (rcases hv with rfl | rfl <;> rfl))) (by decide) (by decide) hS (fun g31 w hS => ?_)
          refine t_nil ?_
          refine ⟨.inr ⟨_, hS.pick (by repeat first | exact .here _ _ | assumption | apply Pick.there)⟩, ?_⟩
          refine p_one 2 rfl (by kernel_rfl) ?_
          refine t_buildSlice Try.runUnderlying33 Try.sizeOf189 Try.zeroValue189 rfl rfl (by intro v hv; simp at hv; try (first | (subst hv; rfl) | (rcases hv with rfl | rfl <;> rfl))) (by decide) (by decide) hS (fun g24 w hS => ?_)
          refine t_nil ?_
          refine ⟨.inr ⟨_, hS.pick (by repeat first | exact .here _ _ | assumption | apply Pick.there)⟩, ?_⟩
          refine p_one 5 rfl (by kernel_rfl) ?_
          refine t_append (size := 2) (bytes := 16) Try.underlying33 (info_of Try.type189) rfl rfl rfl rfl (by decide) hS (by repeat first | exact .here _ _ | assumption | apply Pick.there) (hR.st hS) rfl rfl (fun _ _ => rfl) (by unfold maxLen; omega) (by omega) (fun A27 c27 w hS => ?_)
          refine t_nil ?_
          refine ⟨.inr ⟨_, hS.pick (by repeat first | exact .here _ _ | assumption | apply Pick.there)⟩, ?_⟩
          refine p_one 10 rfl (by kernel_rfl) ?_
          refine t_append_own (size := 2) (bytes := 16) Try.underlying33 (info_of Try.type189) rfl rfl rfl rfl (by decide) hS (by repeat first | exact .here _ _ | assumption | apply Pick.there) (by repeat first | exact .here _ _ | assumption | apply Pick.there) rfl rfl (by first | exact allOne_bv _ | exact allOne_ints _ _ | rfl) (by unfold maxLen; omega) (by omega) (fun A32 c32 w hS => ?_)
          refine t_nil ?_
          refine ⟨.inr ⟨_, hS.pick (by repeat first | exact .here _ _ | assumption | apply Pick.there)⟩, ?_⟩
          refine p_q hap hsel 11 rfl rfl ⟨_, hS.pick (by repeat first | exact .here _ _ | assumption | apply Pick.there)⟩ (fun w hI => q_build (qs := [(0, 1), (1, 1)]) [(.int _ _), (.slice _ _ _)] Try.zeroValue35 Try.runUnderlying35 ⟨rfl, Try.sizeOf3, rfl, Try.sizeOf33, trivial⟩ rfl rfl) ?_
          refine p_one 12 rfl (by kernel_rfl) ?_
          refine t_store (v := (.agg _)) Try.sizeOf35 hS (by repeat first | exact .here _ _ | assumption | apply Pick.there) rfl rfl rfl rfl rfl rfl (fun w hS => ?_)
          refine t_nil ?_
          refine ⟨.inr ⟨_, hS.pick (by repeat first | exact .here _ _ | assumption | apply Pick.there)⟩, ?_⟩
          refine p_q hap hsel 13 rfl rfl ⟨_, hS.pick (by repeat first | exact .here _ _ | assumption | apply Pick.there)⟩ (fun w hI => q_assign) ?_
          refine p_end (by kernel_rfl) ?_
          refine c_ret ?_
          refine r_two rfl (res1_cellN Try.isAgg35 Try.sizeOf35 rfl (hS.blk (by repeat first | exact .here _ _ | assumption | apply Pick.there)) rfl) rfl ?_
          first
            | exact .inr ⟨hc, rfl, hS.nil⟩
            | (refine .inl ⟨hc, _, _, _, rfl, ?_, ((hS.pick (A := rowA 189 2 A32 _ c32 _) (by repeat first | exact .here _ _ | assumption | apply Pick.there)).recast (congrArg (rowA 189 2 _ _ _) ?_)).swap.swap⟩
               · simp
               · rw [List.flatMap_append, ← flat_range (cells := ackC) L]; rfl)
set_option maxRecDepth 100000 in
theorem drop2_calls {A : Option Addr} {c : Nat} {L : AckL} {n : Int} (hR : RdA W A L) {v : Int} (hm : L.length ≤ 1000000) : Calls Try.prog 34 #[.agg #[.int .i64 n, .slice A L.length c], .int .i64 v] W fun e w' => ∃ A' m c', e = .returned (.agg #[.int .i64 n, .slice A' m c']) ∧ m = (dropL L v).length ∧ St W w' [rowA 189 2 A' m c' ((dropL L v).flatMap ackC)] := by
  have hS := St.init W
  refine calls_of_wpE (args := [_, _]) Try.func34 rfl rfl rfl ?_
  refine c_seq ?_
  refine c_region ?_
  refine t_box (v := (.agg _)) rfl rfl hS (fun g2 w hS => ?_)
  refine t_alloc Try.zeroValue35 rfl hS (fun g4 w hS => ?_)
  refine t_nil ?_
  refine c_seq ?_
  refine c_region ?_
  refine t_q (q_fieldAddr 0 Try.runUnderlying35 rfl Try.sizeOf3 (by decide) rfl rfl) ?_
  refine t_q (q_load1 Try.isAgg3 rfl (hS.cell (by repeat first | exact .here _ _ | assumption | apply Pick.there) rfl)) ?_
  refine t_q (q_build (qs := [(0, 1), (1, 1)]) [(.int _ _), (.slice _ _ _)] Try.zeroValue35 Try.runUnderlying35 ⟨rfl, Try.sizeOf3, rfl, Try.sizeOf33, trivial⟩ rfl rfl) ?_
  refine t_alloc Try.zeroValue35 rfl hS (fun g5 w hS => ?_)
  refine t_store (v := (.agg _)) Try.sizeOf35 hS (by repeat first | exact .here _ _ | assumption | apply Pick.there) rfl rfl rfl rfl rfl rfl (fun w hS => ?_)
  refine t_nil ?_
  refine c_seq ?_
  refine c_seq ?_
  refine c_region ?_
  refine t_q (q_assign) ?_
  refine t_nil ?_
  refine c_block ?_
  refine c_loop [6, 10, 11, 12, 13, 14, 15, 16, 17, 18, 19, 20, 21, 22, 23, 24, 25, 26, 27, 28, 29, 30, 31, 32, 33, 34] (fun k σ w => ∃ (j : Nat) (A' : Option Addr) (m c' : Nat), σ 6 = .int .i64 (j : Int) ∧ j ≤ L.length ∧ L.length - j ≤ k ∧ m = (dropL (L.take j) v).length ∧ St W w [blkA g5 35 [.int .i64 n, .slice A' m c'], rowA 189 2 A' m c' ((dropL (L.take j) v).flatMap ackC), blkA g4 35 [.int .i64 0, .slice none 0 0], blkA g2 35 [.int .i64 n, .slice A L.length c]]) (L.length) rfl (⟨0, none, 0, 0, rfl, by omega, by omega, rfl, (hS.nilrow 189 2).pick (.there (.here _ _))⟩) ?_
  skip
  rintro k σ w ⟨j, A', m, c', h6, hj, hk, hmm, hS⟩
  refine c_know 6 h6 ?_
  clear h6
  have hdl := dropL_len (L.take j) v
  rw [List.length_take] at hdl
  refine c_seq ?_
  refine c_seq ?_
  refine c_region ?_
  refine t_q (q_mv (.int _ _) rfl) ?_
  refine t_q (q_fieldAddr 1 Try.runUnderlying35 rfl Try.sizeOf33 (by decide) rfl rfl) ?_
  refine t_q (q_load1 Try.isAgg33 rfl (hS.cell (by repeat first | exact .here _ _ | assumption | apply Pick.there) rfl)) ?_
  refine t_q (q_len_slice Try.runUnderlying33 rfl) ?_
  refine t_q (q_lss rfl rfl) ?_
  refine t_nil ?_
  refine c_cond rfl ?_ ?_
  · intro hc2
    have hc2d := of_decide_eq_true hc2
    have hjl : j < L.length := by omega
    refine c_skip ?_
    refine c_seq ?_
    refine c_block ?_
    refine c_seq ?_
    refine c_region ?_
    refine t_q (q_fieldAddr 1 Try.runUnderlying35 rfl Try.sizeOf33 (by decide) rfl rfl) ?_
    refine t_q (q_load1 Try.isAgg33 rfl (hS.cell (by repeat first | exact .here _ _ | assumption | apply Pick.there) rfl)) ?_
    refine t_q (q_mv (.int _ _) rfl) ?_
    first | refine t_index_nat Try.runUnderlying33 Try.sizeOf189 (hR.st hS) rfl rfl (by omega) (fun ad3 hl3 hx3 => ?_) | refine t_index Try.runUnderlying33 Try.sizeOf189 (hR.st hS) rfl rfl (by omega) (fun ad3 hl3 hx3 => ?_)
    refine t_q (q_fieldAddr 1 Try.runUnderlying189 rfl Try.sizeOf3 (by decide) rfl rfl) ?_
    refine t_q (q_load1 Try.isAgg3 rfl (hx3 1 _ rfl)) ?_
    refine t_q (q_mv (.int _ _) rfl) ?_
    refine t_q (q_neq rfl rfl) ?_
    refine t_nil ?_
    refine c_cond rfl ?_ ?_
    · intro hc5
      have hc5d := of_decide_eq_true hc5
      refine c_draw ?_
      refine d_keep2 (blkA g5 35 [.int .i64 n, .slice A' m c']) (blkA g2 35 [.int .i64 n, .slice A L.length c]) 11 [0, 1, 2, 3, 4, 5, 6, 7, 8, 9, 10] [0, 1, 2, 3, 4, 5, 6, 7, 8, 9, 10] hS rfl (by kernel_rfl) (by kernel_rfl) (by kernel_rfl) (by kernel_rfl) (fun hap hsel w hS => ?_)
      refine p_q hap hsel 0 rfl rfl ⟨_, ((hS.pick (A := blkA g2 35 [.int .i64 n, .slice A L.length c]) (by repeat first | exact .here _ _ | assumption | apply Pick.there)).pick (A := blkA g5 35 [.int .i64 n, .slice A' m c']) (by repeat first | exact .here _ _ | assumption | apply Pick.there))⟩ (fun w hI => q_fieldAddr 1 Try.runUnderlying35 rfl Try.sizeOf33 (by decide) rfl rfl) ?_
      refine p_q hap hsel 1 rfl rfl ⟨_, ((hS.pick (A := blkA g2 35 [.int .i64 n, .slice A L.length c]) (by repeat first | exact .here _ _ | assumption | apply Pick.there)).pick (A := blkA g5 35 [.int .i64 n, .slice A' m c']) (by repeat first | exact .here _ _ | assumption | apply Pick.there))⟩ (fun w hI => q_load1 Try.isAgg33 rfl (hI.choose_spec.cell (by repeat first | exact .here _ _ | assumption | apply Pick.there) rfl)) ?_
      refine p_q hap hsel 2 rfl rfl ⟨_, ((hS.pick (A := blkA g2 35 [.int .i64 n, .slice A L.length c]) (by repeat first | exact .here _ _ | assumption | apply Pick.there)).pick (A := blkA g5 35 [.int .i64 n, .slice A' m c']) (by repeat first | exact .here _ _ | assumption | apply Pick.there))⟩ (fun w hI => q_fieldAddr 1 Try.runUnderlying35 rfl Try.sizeOf33 (by decide) rfl rfl) ?_
      refine p_q hap hsel 3 rfl rfl ⟨_, ((hS.pick (A := blkA g2 35 [.int .i64 n, .slice A L.length c]) (by repeat first | exact .here _ _ | assumption | apply Pick.there)).pick (A := blkA g5 35 [.int .i64 n, .slice A' m c']) (by repeat first | exact .here _ _ | assumption | apply Pick.there))⟩ (fun w hI => q_load1 Try.isAgg33 rfl (hI.choose_spec.cell (by repeat first | exact .here _ _ | assumption | apply Pick.there) rfl)) ?_
      refine p_q hap hsel 4 rfl rfl ⟨_, ((hS.pick (A := blkA g2 35 [.int .i64 n, .slice A L.length c]) (by repeat first | exact .here _ _ | assumption | apply Pick.there)).pick (A := blkA g5 35 [.int .i64 n, .slice A' m c']) (by repeat first | exact .here _ _ | assumption | apply Pick.there))⟩ (fun w hI => q_mv (.int _ _) rfl) ?_
      refine p_index hap hsel 5 rfl rfl ⟨_, ((hS.pick (A := blkA g2 35 [.int .i64 n, .slice A L.length c]) (by repeat first | exact .here _ _ | assumption | apply Pick.there)).pick (A := blkA g5 35 [.int .i64 n, .slice A' m c']) (by repeat first | exact .here _ _ | assumption | apply Pick.there))⟩ Try.runUnderlying33 Try.sizeOf189 (fun w hI => hR.st hI.choose_spec) rfl rfl (by omega) (fun ad6 hl6 hx6 => ?_)
      refine p_q hap hsel 6 rfl rfl ⟨_, ((hS.pick (A := blkA g2 35 [.int .i64 n, .slice A L.length c]) (by repeat first | exact .here _ _ | assumption | apply Pick.there)).pick (A := blkA g5 35 [.int .i64 n, .slice A' m c']) (by repeat first | exact .here _ _ | assumption | apply Pick.there))⟩ (fun w hI => q_loadN Try.isAgg189 Try.sizeOf189 rfl hl6 (hx6 w hI)) ?_
      refine p_one 7 rfl (by kernel_rfl) ?_
      refine t_buildSlice Try.runUnderlying33 Try.sizeOf189 Try.zeroValue189 rfl rfl (by intro v hv; simp at hv; try (first | (subst hv; rfl) | (rcases hv with rfl | rfl <;> rfl))) (by decide) (by decide) hS (fun g32 w hS => ?_)
      refine t_nil ?_
      refine ⟨.inr ⟨_, ((hS.pick (A := blkA g2 35 [.int .i64 n, .slice A L.length c]) (by repeat first | exact .here _ _ | assumption | apply Pick.there)).pick (A := blkA g5 35 [.int .i64 n, .slice A' m c']) (by repeat first | exact .here _ _ | assumption | apply Pick.there))⟩, ?_⟩
      refine p_one 8 rfl (by kernel_rfl) ?_
      refine t_append_own (size := 2) (bytes := 16) Try.underlying33 (info_of Try.type189) rfl rfl rfl rfl (by decide) hS (by repeat first | exact .here _ _ | assumption | apply Pick.there) (by repeat first | exact .here _ _ | assumption | apply Pick.there) rfl rfl (by first | exact allOne_bv _ | exact allOne_ints _ _ | rfl) (by unfold maxLen; omega) (by omega) (fun A33 c33 w hS => ?_)
      refine t_nil ?_
      refine ⟨.inr ⟨_, ((hS.pick (A := blkA g2 35 [.int .i64 n, .slice A L.length c]) (by repeat first | exact .here _ _ | assumption | apply Pick.there)).pick (A := blkA g5 35 [.int .i64 n, .slice A' m c']) (by repeat first | exact .here _ _ | assumption | apply Pick.there))⟩, ?_⟩
      refine p_q hap hsel 9 rfl rfl ⟨_, ((hS.pick (A := blkA g2 35 [.int .i64 n, .slice A L.length c]) (by repeat first | exact .here _ _ | assumption | apply Pick.there)).pick (A := blkA g5 35 [.int .i64 n, .slice A' m c']) (by repeat first | exact .here _ _ | assumption | apply Pick.there))⟩ (fun w hI => q_fieldAddr 1 Try.runUnderlying35 rfl Try.sizeOf33 (by decide) rfl rfl) ?_
      refine p_one 10 rfl (by kernel_rfl) ?_
      refine t_store (v := (.slice _ _ _)) Try.sizeOf33 hS (by repeat first | exact .here _ _ | assumption | apply Pick.there) rfl rfl rfl rfl rfl rfl (fun w hS => ?_)
      refine t_nil ?_
      refine ⟨.inl (by kernel_rfl), ?_⟩
      refine p_end (by kernel_rfl) ?_
      refine c_region ?_
      refine t_q (q_mv (.int _ _) rfl) ?_
      refine t_q (q_add_i64 rfl rfl (by omega)) ?_
      refine t_q (q_as (.int _ _) rfl) ?_
      refine t_nil ?_
      have hsn := dropL_snoc (L := L) (v := v) hjl
      first
        | (rw [if_pos (show (L.getD j default).2 ≠ v by omega)] at hsn
           refine ⟨k - 1, by omega, j + 1, _, _, _, rfl, by omega, by omega, ?_, ((((hS.pick (A := blkA g2 35 _) (by repeat first | exact .here _ _ | assumption | apply Pick.there)).pick (A := blkA g4 35 _) (by repeat first | exact .here _ _ | assumption | apply Pick.there)).pick (A := rowA 189 2 A33 _ c33 _) (by repeat first | exact .here _ _ | assumption | apply Pick.there)).recast (congrArg (rowA 189 2 _ _ _) ?_)).pick (A := blkA g5 35 _) (by repeat first | exact .here _ _ | assumption | apply Pick.there)⟩
           · rw [hsn, List.length_append]; simp only [List.length_cons, List.length_nil]; omega
           · rw [hsn, List.flatMap_append]; rfl)
        | (rw [if_neg (show ¬ (L.getD j default).2 ≠ v by omega), List.append_nil] at hsn
           exact ⟨k - 1, by omega, j + 1, A', m, c', rfl, by omega, by omega, by rw [hsn]; exact hmm, by rw [hsn]; exact hS⟩)
    · intro hc5
      have hc5d := of_decide_eq_false hc5
      refine c_skip ?_
      refine c_region ?_
      refine t_q (q_mv (.int _ _) rfl) ?_
      refine t_q (q_add_i64 rfl rfl (by omega)) ?_
      refine t_q (q_as (.int _ _) rfl) ?_
      refine t_nil ?_
      have hsn := dropL_snoc (L := L) (v := v) hjl
      first
        | (rw [if_pos (show (L.getD j default).2 ≠ v by omega)] at hsn
           refine ⟨k - 1, by omega, j + 1, _, _, _, rfl, by omega, by omega, ?_, ((((hS.pick (A := blkA g2 35 _) (by repeat first | exact .here _ _ | assumption | apply Pick.there)).pick (A := blkA g4 35 _) (by repeat first | exact .here _ _ | assumption | apply Pick.there)).pick (A := rowA 189 2 A33 _ c33 _) (by repeat first | exact .here _ _ | assumption | apply Pick.there)).recast (congrArg (rowA 189 2 _ _ _) ?_)).pick (A := blkA g5 35 _) (by repeat first | exact .here _ _ | assumption | apply Pick.there)⟩
           · rw [hsn, List.length_append]; simp only [List.length_cons, List.length_nil]; omega
           · rw [hsn, List.flatMap_append]; rfl)
        | (rw [if_neg (show ¬ (L.getD j default).2 ≠ v by omega), List.append_nil] at hsn
           exact ⟨k - 1, by omega, j + 1, A', m, c', rfl, by omega, by omega, by rw [hsn]; exact hmm, by rw [hsn]; exact hS⟩)
  · intro hc2
    have hc2d := of_decide_eq_false hc2
    refine c_exit ?_
    refine ite_t rfl ?_
    refine c_seq ?_
    refine c_region ?_
    refine t_q (q_load_blk Try.isAgg35 Try.sizeOf35 rfl (hS.blk (by repeat first | exact .here _ _ | assumption | apply Pick.there)) rfl) ?_
    refine t_store (v := (.agg _)) Try.sizeOf35 hS (by repeat first | exact .here _ _ | assumption | apply Pick.there) rfl rfl rfl rfl rfl rfl (fun w hS => ?_)
    refine t_nil ?_
    refine c_ret ?_
    refine r_one rfl (res1_cellN Try.isAgg35 Try.sizeOf35 rfl (hS.blk (by repeat first | exact .here _ _ | assumption | apply Pick.there)) rfl) ?_
    obtain rfl : j = L.length := by omega
    rw [List.take_length] at hmm hS
    exact ⟨_, _, _, rfl, hmm, (hS.pick (A := rowA 189 2 A' m c' _) (by repeat first | exact .here _ _ | assumption | apply Pick.there)).swap.swap.swap⟩
end Go.Proofs.Ytcikoealneldkaa
