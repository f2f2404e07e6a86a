/- Disks: the document's own: the other calls, crashes. -/
import Derived.Test.YtcikoealneldkaaDg
namespace Go.Proofs.Ytcikoealneldkaa
open Go Go.RowKit Go.Lib
variable {W : World}
theorem take0_rd {w : World} {A : Option Addr} {bs : List UInt8} (h : RdB w A bs) (m : Nat) : RdB w A (bs.take m) := fun hn => by
  have hl : (bs.take m).length ≤ bs.length := by rw [List.length_take]; omega
  obtain ⟨ad, hA, hlt, hc⟩ := h (by omega)
  refine ⟨ad, hA, hlt, fun i hi => ?_⟩
  have e : bsf (bs.take m) i = bsf bs i := by
    rw [List.length_take] at hi
    unfold bsf
    rw [List.getD_eq_getElem?_getD, List.getD_eq_getElem?_getD, List.getElem?_take, if_pos (by omega)]
  rw [e]
  exact hc i (by omega)
theorem sl0 {A : Option Addr} {c n m : Nat} (hA : A.map (·.add 0) = A) (hm : m = n) : Value.slice (if c = 0 then A else A.map (·.add (0 * 1))) (n - 0) (c - 0) = .slice A m c := by
  rw [Nat.zero_mul, hA, Nat.sub_zero, Nat.sub_zero, hm]
  split <;> rfl
attribute [local irreducible] blkA rowA rdrA rowC packA fcells qtl dtl dskA qdkA
set_option maxHeartbeats 1000000 in
set_option maxRecDepth 100000 in
theorem qoth_calls {w : World} {L R : List Asn} {g : Nat} {d : Dk} (hS : St W w L) (pk : Pick L (qdkA g d) R) {i k n : Int} (hG : DGood d) (hc : d.calls ≤ 1000000000) (hk : k = 1 ∨ k = 2 ∨ k = 3) : Calls Try.prog 194 #[.pointer (some ⟨g, 0, none⟩), .int .i64 k, .int .i64 i, .int .i64 n] w fun e w' => e = .returned (.int .i64 (tnE d i (otE d i k n))) ∧ St W w' (qdkA g (tnD d i (otE d i k n) (otF d i k n)) :: R) := by
  replace hS := hS.pick pk
  clear pk
  obtain ⟨rw, hS⟩ := hS.qdk
  refine calls_of_wpE (args := [_, _, _, _]) Try.func194 rfl rfl rfl ?_
  refine c_seq ?_
  refine c_region ?_
  refine t_q (q_assign) ?_
  refine t_nil ?_
  refine c_seq ?_
  refine c_seq ?_
  refine c_region ?_
  refine t_q (q_mv (.pointer _) rfl) ?_
  refine t_q (q_nilCheck rfl) ?_
  refine t_q (q_fieldAddr 65 Try.runUnderlying210 rfl Try.sizeOf4 (by decide) rfl rfl) ?_
  refine t_q (q_load1 Try.isAgg4 rfl (hS.cell (by repeat first | exact .here _ _ | assumption | apply Pick.there) ((fc_tl 1).trans (qtl_1 d)))) ?_
  refine t_nil ?_
  refine c_cond rfl ?_ ?_
  · intro hc2
    have hgn := hc2
    refine c_seq ?_
    refine c_region ?_
    refine t_q (q_assign) ?_
    refine t_nil ?_
    refine c_ret ?_
    refine r_one rfl rfl ?_
    first
      | (obtain ⟨e1, e2, _⟩ := tn_gone (i := i) (c := (otE d i k n)) (F := (otF d i k n)) hgn; rw [e1, e2]; exact ⟨rfl, hS.unqdk⟩)
      | (rcases hx with hro | ⟨hri, hc2⟩
         · obtain ⟨e1, e2, _⟩ := tn_out (c := (otE d i k n)) (F := (otF d i k n)) hgn hro; rw [e1, e2]; exact ⟨rfl, hS.unqdk⟩
         · obtain ⟨e1, e2, _⟩ := tn_bad (c := (otE d i k n)) (F := (otF d i k n)) hgn hri (by rw [hc2]; decide); rw [e1, e2, hc2]; exact ⟨rfl, hS.unqdk⟩)
      | (obtain ⟨e1, e2, _⟩ := tn_fuse (F := (otF d i k n)) hgn hri hcd hfu; rw [e1, e2]; exact ⟨rfl, hS.unqdk⟩)
      | (obtain ⟨e1, e2, _⟩ := tn_ok (F := (otF d i k n)) hgn hri hcd hfu; rw [e1, e2, hOF]; exact ⟨rfl, hS⟩)
  · intro hc2
    have hgn := hc2
    refine c_skip ?_
    refine c_seq ?_
    refine c_seq ?_
    have hlen := hG.len i.toNat
    have hsyn := hG.sync i.toNat
    refine c_region ?_
    refine t_q (q_mv (.int _ _) rfl) ?_
    refine t_call Try.call195 (qis_calls) rfl ?_
    rintro e w ⟨rfl, hT⟩
    refine ⟨_, rfl, ?_⟩
    replace hS := hS.after hT
    refine t_q (q_not rfl) ?_
    refine t_q (q_mv (.bool _) rfl) ?_
    refine t_case 16 rfl ?_ ?_
    · intro hg4
      refine t_no rfl rfl (by rw [(congrArg not (not_back hg4))]; decide) ?_
      refine t_no rfl rfl (by rw [(congrArg not (not_back hg4))]; decide) ?_
      refine t_no rfl rfl (by rw [(congrArg not (not_back hg4))]; decide) ?_
      refine t_nu rfl rfl ?_
      refine t_nu rfl rfl ?_
      refine t_nu rfl rfl ?_
      refine t_nu rfl rfl ?_
      refine t_nu rfl rfl ?_
      refine t_nu rfl rfl ?_
      refine t_nu rfl rfl ?_
      refine t_nu rfl rfl ?_
      refine t_nu rfl rfl ?_
      refine t_nu rfl rfl ?_
      refine t_nu rfl rfl ?_
      refine t_nu rfl rfl ?_
      refine t_nu rfl rfl ?_
      refine t_nu rfl rfl ?_
      refine t_no rfl rfl (by rw [(congrArg not (not_back hg4))]; decide) ?_
      refine t_q (q_pick_t rfl (congrArg not (not_back hg4))) ?_
      refine t_nil ?_
      refine c_cond_t rfl rfl ?_
      have hx : (i < 0 ∨ 32 ≤ i) ∨ ((0 ≤ i ∧ i < 32) ∧ otE d i k n = 2) := by
        by_cases hq : 0 ≤ i ∧ i < 32
        · right
          first
            | exact ⟨hq, by unfold otE; rw [if_pos (by omega)]; unfold cuE; rw [if_pos (by omega)]⟩
            | (exfalso; have h := (show (!decide (0 ≤ i ∧ i < 32)) = true by assumption); simp [hq] at h)
        · left; omega
      refine c_seq ?_
      refine c_region ?_
      refine t_q (q_assign) ?_
      refine t_nil ?_
      refine c_ret ?_
      refine r_one rfl rfl ?_
      first
        | (obtain ⟨e1, e2, _⟩ := tn_gone (i := i) (c := (otE d i k n)) (F := (otF d i k n)) hgn; rw [e1, e2]; exact ⟨rfl, hS.unqdk⟩)
        | (rcases hx with hro | ⟨hri, hc2⟩
           · obtain ⟨e1, e2, _⟩ := tn_out (c := (otE d i k n)) (F := (otF d i k n)) hgn hro; rw [e1, e2]; exact ⟨rfl, hS.unqdk⟩
           · obtain ⟨e1, e2, _⟩ := tn_bad (c := (otE d i k n)) (F := (otF d i k n)) hgn hri (by rw [hc2]; decide); rw [e1, e2, hc2]; exact ⟨rfl, hS.unqdk⟩)
        | (obtain ⟨e1, e2, _⟩ := tn_fuse (F := (otF d i k n)) hgn hri hcd hfu; rw [e1, e2]; exact ⟨rfl, hS.unqdk⟩)
        | (obtain ⟨e1, e2, _⟩ := tn_ok (F := (otF d i k n)) hgn hri hcd hfu; rw [e1, e2, hOF]; exact ⟨rfl, hS⟩)
    · intro hg4
      refine t_yes rfl rfl (congrArg not (not_back hg4)) ?_
      refine t_q (q_mv (.int _ _) rfl) ?_
      refine t_yes rfl rfl (congrArg not (not_back hg4)) ?_
      refine t_q (q_eql rfl rfl) ?_
      refine t_yes rfl rfl (congrArg not (not_back hg4)) ?_
      refine t_q (q_mv (.bool _) rfl) ?_
      refine t_case 19 rfl ?_ ?_
      · intro hg6
        have hg6d := of_decide_eq_true hg6
        refine t_yes rfl rfl hg6 ?_
        refine t_q (q_mv (.int _ _) rfl) ?_
        refine t_yes rfl rfl hg6 ?_
        refine t_q (q_lss rfl rfl) ?_
        refine t_yes rfl rfl hg6 ?_
        refine t_q (q_mv (.bool _) rfl) ?_
        refine t_case 22 rfl ?_ ?_
        · intro hg8
          have hg8d := of_decide_eq_true hg8
          refine t_no rfl rfl (by rw [hg8]; decide) ?_
          refine t_no rfl rfl (by rw [hg8]; decide) ?_
          refine t_no rfl rfl (by rw [hg8]; decide) ?_
          refine t_no rfl rfl (by rw [hg8]; decide) ?_
          refine t_no rfl rfl (by rw [hg8]; decide) ?_
          refine t_no rfl rfl (by rw [hg8]; decide) ?_
          refine t_no rfl rfl (by rw [hg8]; decide) ?_
          refine t_no rfl rfl (by rw [hg8]; decide) ?_
          refine t_no rfl rfl (by rw [hg8]; decide) ?_
          refine t_no rfl rfl (by rw [hg8]; decide) ?_
          refine t_yes rfl rfl hg6 ?_
          refine t_q (q_pick_t rfl hg8) ?_
          refine t_yes rfl rfl (congrArg not (not_back hg4)) ?_
          refine t_q (q_pick_t rfl hg6) ?_
          refine t_q (q_pick_f rfl (congrArg not (not_back hg4))) ?_
          refine t_nil ?_
          refine c_cond_t rfl rfl ?_
          have hx : (i < 0 ∨ 32 ≤ i) ∨ ((0 ≤ i ∧ i < 32) ∧ otE d i k n = 2) := by
            by_cases hq : 0 ≤ i ∧ i < 32
            · right
              first
                | exact ⟨hq, by unfold otE; rw [if_pos (by omega)]; unfold cuE; rw [if_pos (by omega)]⟩
                | (exfalso; have h := (show (!decide (0 ≤ i ∧ i < 32)) = true by assumption); simp [hq] at h)
            · left; omega
          refine c_seq ?_
          refine c_region ?_
          refine t_q (q_assign) ?_
          refine t_nil ?_
          refine c_ret ?_
          refine r_one rfl rfl ?_
          first
            | (obtain ⟨e1, e2, _⟩ := tn_gone (i := i) (c := (otE d i k n)) (F := (otF d i k n)) hgn; rw [e1, e2]; exact ⟨rfl, hS.unqdk⟩)
            | (rcases hx with hro | ⟨hri, hc2⟩
               · obtain ⟨e1, e2, _⟩ := tn_out (c := (otE d i k n)) (F := (otF d i k n)) hgn hro; rw [e1, e2]; exact ⟨rfl, hS.unqdk⟩
               · obtain ⟨e1, e2, _⟩ := tn_bad (c := (otE d i k n)) (F := (otF d i k n)) hgn hri (by rw [hc2]; decide); rw [e1, e2, hc2]; exact ⟨rfl, hS.unqdk⟩)
            | (obtain ⟨e1, e2, _⟩ := tn_fuse (F := (otF d i k n)) hgn hri hcd hfu; rw [e1, e2]; exact ⟨rfl, hS.unqdk⟩)
            | (obtain ⟨e1, e2, _⟩ := tn_ok (F := (otF d i k n)) hgn hri hcd hfu; rw [e1, e2, hOF]; exact ⟨rfl, hS⟩)
        · intro hg8
          have hg8d := of_decide_eq_false hg8
          refine t_yes rfl rfl hg8 ?_
          refine t_q (q_mv (.int _ _) rfl) ?_
          refine t_yes rfl rfl hg8 ?_
          refine t_q (q_mv (.pointer _) rfl) ?_
          refine t_yes rfl rfl hg8 ?_
          refine t_q (q_mv (.int _ _) rfl) ?_
          refine t_yes rfl rfl hg8 ?_
          refine t_q (q_nilCheck rfl) ?_
          refine t_yes rfl rfl hg8 ?_
          refine t_q (q_fieldAddr 0 Try.runUnderlying210 rfl Try.sizeOf208 (by decide) rfl rfl) ?_
          refine t_yes rfl rfl hg8 ?_
          first | refine t_q (q_arr_nat Try.runUnderlying208 Try.sizeOf207 rfl rfl (by have h := of_decide_eq_true (not_back (show (!decide (0 ≤ i ∧ i < 32)) = false by assumption)); omega)) ?_ | refine t_q (q_arr Try.runUnderlying208 Try.sizeOf207 rfl rfl (by have h := of_decide_eq_true (not_back (show (!decide (0 ≤ i ∧ i < 32)) = false by assumption)); omega)) ?_
          refine t_yes rfl rfl hg8 ?_
          refine t_q (q_fieldAddr 0 Try.runUnderlying207 rfl Try.sizeOf48 (by decide) rfl rfl) ?_
          refine t_yes rfl rfl hg8 ?_
          refine t_q (q_load1 Try.isAgg48 rfl (hS.cell (by repeat first | exact .here _ _ | assumption | apply Pick.there) (fc_b (i := i.toNat) (by have h := of_decide_eq_true (not_back (show (!decide (0 ≤ i ∧ i < 32)) = false by assumption)); omega)))) ?_
          refine t_yes rfl rfl hg8 ?_
          refine t_q (q_len_slice Try.runUnderlying48 rfl) ?_
          refine t_yes rfl rfl hg8 ?_
          refine t_q (q_gtr rfl rfl) ?_
          refine t_yes rfl rfl hg6 ?_
          refine t_q (q_pick_f rfl hg8) ?_
          refine t_yes rfl rfl (congrArg not (not_back hg4)) ?_
          refine t_q (q_pick_t rfl hg6) ?_
          refine t_q (q_pick_f rfl (congrArg not (not_back hg4))) ?_
          refine t_nil ?_
          refine c_cond rfl ?_ ?_
          · intro hc11
            have hc11d := of_decide_eq_true hc11
            have hx : (i < 0 ∨ 32 ≤ i) ∨ ((0 ≤ i ∧ i < 32) ∧ otE d i k n = 2) := by
              by_cases hq : 0 ≤ i ∧ i < 32
              · right
                first
                  | exact ⟨hq, by unfold otE; rw [if_pos (by omega)]; unfold cuE; rw [if_pos (by omega)]⟩
                  | (exfalso; have h := (show (!decide (0 ≤ i ∧ i < 32)) = true by assumption); simp [hq] at h)
              · left; omega
            refine c_seq ?_
            refine c_region ?_
            refine t_q (q_assign) ?_
            refine t_nil ?_
            refine c_ret ?_
            refine r_one rfl rfl ?_
            first
              | (obtain ⟨e1, e2, _⟩ := tn_gone (i := i) (c := (otE d i k n)) (F := (otF d i k n)) hgn; rw [e1, e2]; exact ⟨rfl, hS.unqdk⟩)
              | (rcases hx with hro | ⟨hri, hc2⟩
                 · obtain ⟨e1, e2, _⟩ := tn_out (c := (otE d i k n)) (F := (otF d i k n)) hgn hro; rw [e1, e2]; exact ⟨rfl, hS.unqdk⟩
                 · obtain ⟨e1, e2, _⟩ := tn_bad (c := (otE d i k n)) (F := (otF d i k n)) hgn hri (by rw [hc2]; decide); rw [e1, e2, hc2]; exact ⟨rfl, hS.unqdk⟩)
              | (obtain ⟨e1, e2, _⟩ := tn_fuse (F := (otF d i k n)) hgn hri hcd hfu; rw [e1, e2]; exact ⟨rfl, hS.unqdk⟩)
              | (obtain ⟨e1, e2, _⟩ := tn_ok (F := (otF d i k n)) hgn hri hcd hfu; rw [e1, e2, hOF]; exact ⟨rfl, hS⟩)
          · intro hc11
            have hc11d := of_decide_eq_false hc11
            have hri : 0 ≤ i ∧ i < 32 := of_decide_eq_true (not_back (show (!decide (0 ≤ i ∧ i < 32)) = false by assumption))
            have hi : i.toNat < 32 := by omega
            have hcd : otE d i k n = 0 := by
              unfold otE
              by_cases h2 : k = 2
              · rw [if_pos h2]; unfold cuE; rw [if_neg (by omega)]
              · rw [if_neg h2]
            refine c_skip ?_
            refine c_seq ?_
            refine c_seq ?_
            refine c_region ?_
            refine t_q (q_mv (.pointer _) rfl) ?_
            refine t_call Try.call196 (qgoes_calls hS (by repeat first | exact .here _ _ | assumption | apply Pick.there) hgn hG.fuse ⟨hG.calls, hc⟩) rfl ?_
            rintro e w ⟨rfl, hS⟩
            refine ⟨_, rfl, ?_⟩
            refine t_nil ?_
            refine c_cond rfl ?_ ?_
            · intro hc13
              have hfu : d.fuse = 0 := of_decide_eq_true hc13
              refine c_seq ?_
              refine c_region ?_
              refine t_q (q_assign) ?_
              refine t_nil ?_
              refine c_ret ?_
              refine r_one rfl rfl ?_
              first
                | (obtain ⟨e1, e2, _⟩ := tn_gone (i := i) (c := (otE d i k n)) (F := (otF d i k n)) hgn; rw [e1, e2]; exact ⟨rfl, hS.unqdk⟩)
                | (rcases hx with hro | ⟨hri, hc2⟩
                   · obtain ⟨e1, e2, _⟩ := tn_out (c := (otE d i k n)) (F := (otF d i k n)) hgn hro; rw [e1, e2]; exact ⟨rfl, hS.unqdk⟩
                   · obtain ⟨e1, e2, _⟩ := tn_bad (c := (otE d i k n)) (F := (otF d i k n)) hgn hri (by rw [hc2]; decide); rw [e1, e2, hc2]; exact ⟨rfl, hS.unqdk⟩)
                | (obtain ⟨e1, e2, _⟩ := tn_fuse (F := (otF d i k n)) hgn hri hcd hfu; rw [e1, e2]; exact ⟨rfl, hS.unqdk⟩)
                | (obtain ⟨e1, e2, _⟩ := tn_ok (F := (otF d i k n)) hgn hri hcd hfu; rw [e1, e2, hOF]; exact ⟨rfl, hS⟩)
            · intro hc13
              have hfu : d.fuse ≠ 0 := of_decide_eq_false hc13
              refine c_skip ?_
              refine c_seq ?_
              refine c_seq ?_
              refine c_region ?_
              refine t_q (q_mv (.int _ _) rfl) ?_
              refine t_nil ?_
              refine c_block ?_
              refine c_seq ?_
              refine c_region ?_
              refine t_q (q_eql rfl rfl) ?_
              refine t_q (q_as (.bool _) rfl) ?_
              refine t_nil ?_
              refine c_cond rfl ?_ ?_
              · intro hc15
                have hc15d := of_decide_eq_true hc15
                have hOF : otF d i k n = syF d.F i.toNat := by unfold otF; rw [if_pos (by omega)]
                refine c_draw ?_
                refine d_quiet 15 [0, 1, 2, 3, 4, 5, 6, 7, 8, 9, 10, 11, 12, 13, 14] [0, 1, 2, 3, 4, 5, 6, 7, 8, 9, 10, 11, 12, 13, 14] hS rfl (by kernel_rfl) (by kernel_rfl) (by kernel_rfl) (by kernel_rfl) (fun hap hsel w hS => ?_)
                refine p_q hap hsel 0 rfl rfl hS (fun w hS => q_mv (.pointer _) rfl) ?_
                refine p_q hap hsel 1 rfl rfl hS (fun w hS => q_mv (.int _ _) rfl) ?_
                refine p_q hap hsel 2 rfl rfl hS (fun w hS => q_mv (.pointer _) rfl) ?_
                refine p_q hap hsel 3 rfl rfl hS (fun w hS => q_mv (.int _ _) rfl) ?_
                refine p_q hap hsel 4 rfl rfl hS (fun w hS => q_nilCheck rfl) ?_
                refine p_q hap hsel 5 rfl rfl hS (fun w hS => q_fieldAddr 0 Try.runUnderlying210 rfl Try.sizeOf208 (by decide) rfl rfl) ?_
                first | refine p_q hap hsel 6 rfl rfl hS (fun w hS => q_arr_nat Try.runUnderlying208 Try.sizeOf207 rfl rfl (by omega)) ?_ | refine p_q hap hsel 6 rfl rfl hS (fun w hS => q_arr Try.runUnderlying208 Try.sizeOf207 rfl rfl (by omega)) ?_
                refine p_q hap hsel 7 rfl rfl hS (fun w hS => q_fieldAddr 0 Try.runUnderlying207 rfl Try.sizeOf48 (by decide) rfl rfl) ?_
                refine p_q hap hsel 8 rfl rfl hS (fun w hS => q_load1 Try.isAgg48 rfl (hS.cell (by repeat first | exact .here _ _ | assumption | apply Pick.there) (fc_b hi))) ?_
                refine p_q hap hsel 9 rfl rfl hS (fun w hS => q_len_slice Try.runUnderlying48 rfl) ?_
                refine p_q hap hsel 10 rfl rfl hS (fun w hS => q_nilCheck rfl) ?_
                refine p_q hap hsel 11 rfl rfl hS (fun w hS => q_fieldAddr 0 Try.runUnderlying210 rfl Try.sizeOf208 (by decide) rfl rfl) ?_
                first | refine p_q hap hsel 12 rfl rfl hS (fun w hS => q_arr_nat Try.runUnderlying208 Try.sizeOf207 rfl rfl (by omega)) ?_ | refine p_q hap hsel 12 rfl rfl hS (fun w hS => q_arr Try.runUnderlying208 Try.sizeOf207 rfl rfl (by omega)) ?_
                refine p_q hap hsel 13 rfl rfl hS (fun w hS => q_fieldAddr 1 Try.runUnderlying207 rfl Try.sizeOf3 (by decide) rfl rfl) ?_
                refine p_one 14 rfl (by kernel_rfl) ?_
                refine t_store (v := (.int _ _)) Try.sizeOf3 hS (by repeat first | exact .here _ _ | assumption | apply Pick.there) rfl rfl rfl rfl rfl (Nat.ble_eq_true_of_le (by show 0 + i.toNat * 2 + 1 + 1 ≤ (fcells _ _ ++ _).length; rw [List.length_append, fcells_len]; omega)) (fun w hS => ?_)
                refine t_nil ?_
                refine ⟨.inl (by kernel_rfl), ?_⟩
                refine p_end (by kernel_rfl) ?_
                refine c_seq ?_
                first
                  | (replace hS := (hS.pick (A := blkA g 210 _) (by repeat first | exact .here _ _ | assumption | apply Pick.there)).recast (congrArg (blkA g 210 ·) (st_s (n := (d.F i.toNat).1.length) hi rfl))
                     replace hS := ((((hS.pick (A := packA _) (by repeat first | exact .here _ _ | assumption | apply Pick.there))).file hi).unfile hi (d.F i.toNat).1.length).pick (A := blkA g 210 _) (by repeat first | exact .here _ _ | assumption | apply Pick.there)
                     replace hS := hS.unqdkF)
                  | (have e2 : min ((d.F i.toNat).2 : Int) n = ((min (d.F i.toNat).2 n.toNat : Nat) : Int) := by omega
                     rw [e2] at hS
                     replace hS := (hS.pick (A := rowC 5 (rw i.toNat).1 (rw i.toNat).2 _) (by repeat first | exact .here _ _ | assumption | apply Pick.there)).drop
                     replace hS := (hS.pick (A := blkA g 210 _) (by repeat first | exact .here _ _ | assumption | apply Pick.there)).recast (congrArg (blkA g 210 ·) (st_2 (b := ((d.F i.toNat).1.take n.toNat)) hi (by rfl) rfl))
                     replace hS := ((((hS.pick (A := packA _) (by repeat first | exact .here _ _ | assumption | apply Pick.there)).pick (A := rowC 5 A75 c75 _) (by repeat first | exact .here _ _ | assumption | apply Pick.there))).unfile hi (min (d.F i.toNat).2 n.toNat)).pick (A := blkA g 210 _) (by repeat first | exact .here _ _ | assumption | apply Pick.there)
                     replace hS := hS.unqdkF)
                  | (replace hS := (((hS.pick (A := packA _) (by repeat first | exact .here _ _ | assumption | apply Pick.there))).file hi).drop
                     replace hS := (hS.pick (A := blkA g 210 _) (by repeat first | exact .here _ _ | assumption | apply Pick.there)).recast (congrArg (blkA g 210 ·) (st_2 (n := 0) (b := []) hi rfl rfl))
                     replace hS := ((((hS.pick (A := packA _) (by repeat first | exact .here _ _ | assumption | apply Pick.there))).rowC_nil 5).unfile hi 0).pick (A := blkA g 210 _) (by repeat first | exact .here _ _ | assumption | apply Pick.there)
                     replace hS := hS.unqdkF)
                refine c_region ?_
                refine t_q (q_assign) ?_
                refine t_nil ?_
                refine c_ret ?_
                refine r_one rfl rfl ?_
                first
                  | (obtain ⟨e1, e2, _⟩ := tn_gone (i := i) (c := (otE d i k n)) (F := (otF d i k n)) hgn; rw [e1, e2]; exact ⟨rfl, hS.unqdk⟩)
                  | (rcases hx with hro | ⟨hri, hc2⟩
                     · obtain ⟨e1, e2, _⟩ := tn_out (c := (otE d i k n)) (F := (otF d i k n)) hgn hro; rw [e1, e2]; exact ⟨rfl, hS.unqdk⟩
                     · obtain ⟨e1, e2, _⟩ := tn_bad (c := (otE d i k n)) (F := (otF d i k n)) hgn hri (by rw [hc2]; decide); rw [e1, e2, hc2]; exact ⟨rfl, hS.unqdk⟩)
                  | (obtain ⟨e1, e2, _⟩ := tn_fuse (F := (otF d i k n)) hgn hri hcd hfu; rw [e1, e2]; exact ⟨rfl, hS.unqdk⟩)
                  | (obtain ⟨e1, e2, _⟩ := tn_ok (F := (otF d i k n)) hgn hri hcd hfu; rw [e1, e2, hOF]; exact ⟨rfl, hS⟩)
              · intro hc15
                have hc15d := of_decide_eq_false hc15
                refine c_seq ?_
                refine c_region ?_
                refine t_q (q_eql rfl rfl) ?_
                refine t_q (q_as (.bool _) rfl) ?_
                refine t_nil ?_
                refine c_cond rfl ?_ ?_
                · intro hc19
                  have hc19d := of_decide_eq_true hc19
                  have hOF : otF d i k n = cuF d.F i.toNat n := by unfold otF; rw [if_neg (by omega), if_pos (by omega)]
                  replace hS := (hS.pick (A := packA (filesL d.F rw)) (by repeat first | exact .here _ _ | assumption | apply Pick.there)).file hi
                  have hle := (hS.rowC_le (.here _ _)).1
                  have hAd := hS.rowC_add (.here _ _)
                  have hnn : 0 ≤ n ∧ n ≤ ((d.F i.toNat).1.length : Int) := by
                    rw [show otE d i k n = cuE d.F i.toNat n by unfold otE; rw [if_pos (by omega)]] at hcd
                    unfold cuE at hcd
                    split at hcd
                    · cases hcd
                    · omega
                  have hcl1 : n.toNat = ((d.F i.toNat).1.take n.toNat).length := by rw [List.length_take]; omega
                  refine c_draw ?_
                  refine d_keep (blkA g 210 (fcells d.F rw ++ qtl d.blow)) 27 [0, 1, 2, 3, 4, 5, 6, 7, 8, 9, 10, 11, 12, 13, 14, 15, 16, 17, 18, 19, 20, 21, 22, 23, 24, 25, 26] [0, 1, 2, 3, 4, 5, 6, 7, 8, 9, 10, 11, 12, 13, 14, 15, 16, 17, 18, 19, 20, 21, 22, 23, 24, 25, 26] hS rfl (by kernel_rfl) (by kernel_rfl) (by kernel_rfl) (by kernel_rfl) (fun hap hsel w hS => ?_)
                  refine p_q hap hsel 0 rfl rfl ⟨_, hS.pick (by repeat first | exact .here _ _ | assumption | apply Pick.there)⟩ (fun w hI => q_mv (.pointer _) rfl) ?_
                  refine p_q hap hsel 1 rfl rfl ⟨_, hS.pick (by repeat first | exact .here _ _ | assumption | apply Pick.there)⟩ (fun w hI => q_mv (.int _ _) rfl) ?_
                  refine p_q hap hsel 3 rfl rfl ⟨_, hS.pick (by repeat first | exact .here _ _ | assumption | apply Pick.there)⟩ (fun w hI => q_mv (.pointer _) rfl) ?_
                  refine p_q hap hsel 4 rfl rfl ⟨_, hS.pick (by repeat first | exact .here _ _ | assumption | apply Pick.there)⟩ (fun w hI => q_mv (.int _ _) rfl) ?_
                  refine p_q hap hsel 5 rfl rfl ⟨_, hS.pick (by repeat first | exact .here _ _ | assumption | apply Pick.there)⟩ (fun w hI => q_nilCheck rfl) ?_
                  refine p_q hap hsel 6 rfl rfl ⟨_, hS.pick (by repeat first | exact .here _ _ | assumption | apply Pick.there)⟩ (fun w hI => q_fieldAddr 0 Try.runUnderlying210 rfl Try.sizeOf208 (by decide) rfl rfl) ?_
                  first | refine p_q hap hsel 7 rfl rfl ⟨_, hS.pick (by repeat first | exact .here _ _ | assumption | apply Pick.there)⟩ (fun w hI => q_arr_nat Try.runUnderlying208 Try.sizeOf207 rfl rfl (by omega)) ?_ | refine p_q hap hsel 7 rfl rfl ⟨_, hS.pick (by repeat first | exact .here _ _ | assumption | apply Pick.there)⟩ (fun w hI => q_arr Try.runUnderlying208 Try.sizeOf207 rfl rfl (by omega)) ?_
                  refine p_q hap hsel 8 rfl rfl ⟨_, hS.pick (by repeat first | exact .here _ _ | assumption | apply Pick.there)⟩ (fun w hI => q_fieldAddr 0 Try.runUnderlying207 rfl Try.sizeOf48 (by decide) rfl rfl) ?_
                  refine p_q hap hsel 9 rfl rfl ⟨_, hS.pick (by repeat first | exact .here _ _ | assumption | apply Pick.there)⟩ (fun w hI => q_load1 Try.isAgg48 rfl (hI.choose_spec.cell (by repeat first | exact .here _ _ | assumption | apply Pick.there) (fc_b hi))) ?_
                  refine p_q hap hsel 10 rfl rfl ⟨_, hS.pick (by repeat first | exact .here _ _ | assumption | apply Pick.there)⟩ (fun w hI => q_mv (.int _ _) rfl) ?_
                  refine p_q hap hsel 11 rfl rfl ⟨_, hS.pick (by repeat first | exact .here _ _ | assumption | apply Pick.there)⟩ (fun w hI => (q_cast (v' := .slice (rw i.toNat).1 ((d.F i.toNat).1.take n.toNat).length (rw i.toNat).2) (q_slice Try.runUnderlying48 Try.sizeOf5 rfl ⟨_, _, rfl, by omega, by omega, rfl⟩ rfl) (sl0 hAd hcl1.symm))) ?_
                  refine p_q hap hsel 13 rfl rfl ⟨_, hS.pick (by repeat first | exact .here _ _ | assumption | apply Pick.there)⟩ (fun w hI => q_mv (.pointer _) rfl) ?_
                  refine p_q hap hsel 14 rfl rfl ⟨_, hS.pick (by repeat first | exact .here _ _ | assumption | apply Pick.there)⟩ (fun w hI => q_mv (.int _ _) rfl) ?_
                  refine p_q hap hsel 15 rfl rfl ⟨_, hS.pick (by repeat first | exact .here _ _ | assumption | apply Pick.there)⟩ (fun w hI => q_nilCheck rfl) ?_
                  refine p_q hap hsel 16 rfl rfl ⟨_, hS.pick (by repeat first | exact .here _ _ | assumption | apply Pick.there)⟩ (fun w hI => q_fieldAddr 0 Try.runUnderlying210 rfl Try.sizeOf208 (by decide) rfl rfl) ?_
                  first | refine p_q hap hsel 17 rfl rfl ⟨_, hS.pick (by repeat first | exact .here _ _ | assumption | apply Pick.there)⟩ (fun w hI => q_arr_nat Try.runUnderlying208 Try.sizeOf207 rfl rfl (by omega)) ?_ | refine p_q hap hsel 17 rfl rfl ⟨_, hS.pick (by repeat first | exact .here _ _ | assumption | apply Pick.there)⟩ (fun w hI => q_arr Try.runUnderlying208 Try.sizeOf207 rfl rfl (by omega)) ?_
                  refine p_q hap hsel 18 rfl rfl ⟨_, hS.pick (by repeat first | exact .here _ _ | assumption | apply Pick.there)⟩ (fun w hI => q_fieldAddr 1 Try.runUnderlying207 rfl Try.sizeOf3 (by decide) rfl rfl) ?_
                  refine p_q hap hsel 19 rfl rfl ⟨_, hS.pick (by repeat first | exact .here _ _ | assumption | apply Pick.there)⟩ (fun w hI => q_load1 Try.isAgg3 rfl (hI.choose_spec.cell (by repeat first | exact .here _ _ | assumption | apply Pick.there) (fc_s hi))) ?_
                  refine p_q hap hsel 20 rfl rfl ⟨_, hS.pick (by repeat first | exact .here _ _ | assumption | apply Pick.there)⟩ (fun w hI => q_mv (.int _ _) rfl) ?_
                  refine p_q hap hsel 21 rfl rfl ⟨_, hS.pick (by repeat first | exact .here _ _ | assumption | apply Pick.there)⟩ (fun w hI => q_min rfl rfl) ?_
                  refine p_q hap hsel 23 rfl rfl ⟨_, hS.pick (by repeat first | exact .here _ _ | assumption | apply Pick.there)⟩ (fun w hI => q_nilCheck rfl) ?_
                  refine p_q hap hsel 24 rfl rfl ⟨_, hS.pick (by repeat first | exact .here _ _ | assumption | apply Pick.there)⟩ (fun w hI => q_fieldAddr 0 Try.runUnderlying210 rfl Try.sizeOf208 (by decide) rfl rfl) ?_
                  refine p_one 2 rfl (by kernel_rfl) ?_
                  refine t_build_bytes [] Try.runUnderlying48 Try.sizeOf5 Try.zeroValue5 rfl rfl (by simp) (by decide) hS (fun g65 w hS => ?_)
                  replace hS := hS.toC (bs := []) rfl
                  refine t_nil ?_
                  refine ⟨.inr ⟨_, hS.pick (by repeat first | exact .here _ _ | assumption | apply Pick.there)⟩, ?_⟩
                  refine p_one 12 rfl (by kernel_rfl) ?_
                  refine t_append_C Try.underlying48 (info_of Try.type5) rfl rfl rfl hS (.here _ _) (take0_rd (hS.drop.rowC_rd (by repeat first | exact .here _ _ | assumption | apply Pick.there)) n.toNat) rfl rfl rfl rfl (by simp; omega) (fun A75 c75 w hS => ?_)
                  replace hS := hS.recast (congrArg (rowC 5 A75 c75) (List.nil_append ((d.F i.toNat).1.take n.toNat)))
                  refine t_nil ?_
                  refine ⟨.inr ⟨_, hS.pick (by repeat first | exact .here _ _ | assumption | apply Pick.there)⟩, ?_⟩
                  refine p_q hap hsel 22 rfl rfl ⟨_, hS.pick (by repeat first | exact .here _ _ | assumption | apply Pick.there)⟩ (fun w hI => q_build (qs := [(0, 1), (1, 1)]) [(.slice _ _ _), (.int _ _)] Try.zeroValue207 Try.runUnderlying207 ⟨rfl, Try.sizeOf48, rfl, Try.sizeOf3, trivial⟩ rfl rfl) ?_
                  first | refine p_q hap hsel 25 rfl rfl ⟨_, hS.pick (by repeat first | exact .here _ _ | assumption | apply Pick.there)⟩ (fun w hI => q_arr_nat Try.runUnderlying208 Try.sizeOf207 rfl rfl (by omega)) ?_ | refine p_q hap hsel 25 rfl rfl ⟨_, hS.pick (by repeat first | exact .here _ _ | assumption | apply Pick.there)⟩ (fun w hI => q_arr Try.runUnderlying208 Try.sizeOf207 rfl rfl (by omega)) ?_
                  refine p_one 26 rfl (by kernel_rfl) ?_
                  refine t_store (v := (.agg _)) Try.sizeOf207 hS (by repeat first | exact .here _ _ | assumption | apply Pick.there) rfl rfl rfl rfl rfl (Nat.ble_eq_true_of_le (by show 0 + i.toNat * 2 + 2 ≤ (fcells _ _ ++ _).length; rw [List.length_append, fcells_len]; omega)) (fun w hS => ?_)
                  refine t_nil ?_
                  refine ⟨.inl (by kernel_rfl), ?_⟩
                  refine p_end (by kernel_rfl) ?_
                  refine c_seq ?_
                  first
                    | (replace hS := (hS.pick (A := blkA g 210 _) (by repeat first | exact .here _ _ | assumption | apply Pick.there)).recast (congrArg (blkA g 210 ·) (st_s (n := (d.F i.toNat).1.length) hi rfl))
                       replace hS := ((((hS.pick (A := packA _) (by repeat first | exact .here _ _ | assumption | apply Pick.there))).file hi).unfile hi (d.F i.toNat).1.length).pick (A := blkA g 210 _) (by repeat first | exact .here _ _ | assumption | apply Pick.there)
                       replace hS := hS.unqdkF)
                    | (have e2 : min ((d.F i.toNat).2 : Int) n = ((min (d.F i.toNat).2 n.toNat : Nat) : Int) := by omega
                       rw [e2] at hS
                       replace hS := (hS.pick (A := rowC 5 (rw i.toNat).1 (rw i.toNat).2 _) (by repeat first | exact .here _ _ | assumption | apply Pick.there)).drop
                       replace hS := (hS.pick (A := blkA g 210 _) (by repeat first | exact .here _ _ | assumption | apply Pick.there)).recast (congrArg (blkA g 210 ·) (st_2 (b := ((d.F i.toNat).1.take n.toNat)) hi (by rfl) rfl))
                       replace hS := ((((hS.pick (A := packA _) (by repeat first | exact .here _ _ | assumption | apply Pick.there)).pick (A := rowC 5 A75 c75 _) (by repeat first | exact .here _ _ | assumption | apply Pick.there))).unfile hi (min (d.F i.toNat).2 n.toNat)).pick (A := blkA g 210 _) (by repeat first | exact .here _ _ | assumption | apply Pick.there)
                       replace hS := hS.unqdkF)
                    | (replace hS := (((hS.pick (A := packA _) (by repeat first | exact .here _ _ | assumption | apply Pick.there))).file hi).drop
                       replace hS := (hS.pick (A := blkA g 210 _) (by repeat first | exact .here _ _ | assumption | apply Pick.there)).recast (congrArg (blkA g 210 ·) (st_2 (n := 0) (b := []) hi rfl rfl))
                       replace hS := ((((hS.pick (A := packA _) (by repeat first | exact .here _ _ | assumption | apply Pick.there))).rowC_nil 5).unfile hi 0).pick (A := blkA g 210 _) (by repeat first | exact .here _ _ | assumption | apply Pick.there)
                       replace hS := hS.unqdkF)
                  refine c_region ?_
                  refine t_q (q_assign) ?_
                  refine t_nil ?_
                  refine c_ret ?_
                  refine r_one rfl rfl ?_
                  first
                    | (obtain ⟨e1, e2, _⟩ := tn_gone (i := i) (c := (otE d i k n)) (F := (otF d i k n)) hgn; rw [e1, e2]; exact ⟨rfl, hS.unqdk⟩)
                    | (rcases hx with hro | ⟨hri, hc2⟩
                       · obtain ⟨e1, e2, _⟩ := tn_out (c := (otE d i k n)) (F := (otF d i k n)) hgn hro; rw [e1, e2]; exact ⟨rfl, hS.unqdk⟩
                       · obtain ⟨e1, e2, _⟩ := tn_bad (c := (otE d i k n)) (F := (otF d i k n)) hgn hri (by rw [hc2]; decide); rw [e1, e2, hc2]; exact ⟨rfl, hS.unqdk⟩)
                    | (obtain ⟨e1, e2, _⟩ := tn_fuse (F := (otF d i k n)) hgn hri hcd hfu; rw [e1, e2]; exact ⟨rfl, hS.unqdk⟩)
                    | (obtain ⟨e1, e2, _⟩ := tn_ok (F := (otF d i k n)) hgn hri hcd hfu; rw [e1, e2, hOF]; exact ⟨rfl, hS⟩)
                · intro hc19
                  have hc19d := of_decide_eq_false hc19
                  have hOF : otF d i k n = drF d.F i.toNat := by unfold otF; rw [if_neg (by omega), if_neg (by omega)]
                  refine c_region ?_
                  refine t_q (q_mv (.pointer _) rfl) ?_
                  refine t_q (q_mv (.int _ _) rfl) ?_
                  refine t_q (q_build (qs := [(0, 1), (1, 1)]) [(.slice _ _ _), (.int _ _)] Try.zeroValue207 Try.runUnderlying207 ⟨rfl, Try.sizeOf48, rfl, Try.sizeOf3, trivial⟩ rfl rfl) ?_
                  refine t_q (q_nilCheck rfl) ?_
                  refine t_q (q_fieldAddr 0 Try.runUnderlying210 rfl Try.sizeOf208 (by decide) rfl rfl) ?_
                  first | refine t_q (q_arr_nat Try.runUnderlying208 Try.sizeOf207 rfl rfl (by omega)) ?_ | refine t_q (q_arr Try.runUnderlying208 Try.sizeOf207 rfl rfl (by omega)) ?_
                  refine t_store (v := (.agg _)) Try.sizeOf207 hS (by repeat first | exact .here _ _ | assumption | apply Pick.there) rfl rfl rfl rfl rfl (Nat.ble_eq_true_of_le (by show 0 + i.toNat * 2 + 2 ≤ (fcells _ _ ++ _).length; rw [List.length_append, fcells_len]; omega)) (fun w hS => ?_)
                  refine t_nil ?_
                  refine c_seq ?_
                  first
                    | (replace hS := (hS.pick (A := blkA g 210 _) (by repeat first | exact .here _ _ | assumption | apply Pick.there)).recast (congrArg (blkA g 210 ·) (st_s (n := (d.F i.toNat).1.length) hi rfl))
                       replace hS := ((((hS.pick (A := packA _) (by repeat first | exact .here _ _ | assumption | apply Pick.there))).file hi).unfile hi (d.F i.toNat).1.length).pick (A := blkA g 210 _) (by repeat first | exact .here _ _ | assumption | apply Pick.there)
                       replace hS := hS.unqdkF)
                    | (have e2 : min ((d.F i.toNat).2 : Int) n = ((min (d.F i.toNat).2 n.toNat : Nat) : Int) := by omega
                       rw [e2] at hS
                       replace hS := (hS.pick (A := rowC 5 (rw i.toNat).1 (rw i.toNat).2 _) (by repeat first | exact .here _ _ | assumption | apply Pick.there)).drop
                       replace hS := (hS.pick (A := blkA g 210 _) (by repeat first | exact .here _ _ | assumption | apply Pick.there)).recast (congrArg (blkA g 210 ·) (st_2 (b := ((d.F i.toNat).1.take n.toNat)) hi (by rfl) rfl))
                       replace hS := ((((hS.pick (A := packA _) (by repeat first | exact .here _ _ | assumption | apply Pick.there)).pick (A := rowC 5 A75 c75 _) (by repeat first | exact .here _ _ | assumption | apply Pick.there))).unfile hi (min (d.F i.toNat).2 n.toNat)).pick (A := blkA g 210 _) (by repeat first | exact .here _ _ | assumption | apply Pick.there)
                       replace hS := hS.unqdkF)
                    | (replace hS := (((hS.pick (A := packA _) (by repeat first | exact .here _ _ | assumption | apply Pick.there))).file hi).drop
                       replace hS := (hS.pick (A := blkA g 210 _) (by repeat first | exact .here _ _ | assumption | apply Pick.there)).recast (congrArg (blkA g 210 ·) (st_2 (n := 0) (b := []) hi rfl rfl))
                       replace hS := ((((hS.pick (A := packA _) (by repeat first | exact .here _ _ | assumption | apply Pick.there))).rowC_nil 5).unfile hi 0).pick (A := blkA g 210 _) (by repeat first | exact .here _ _ | assumption | apply Pick.there)
                       replace hS := hS.unqdkF)
                  refine c_region ?_
                  refine t_q (q_assign) ?_
                  refine t_nil ?_
                  refine c_ret ?_
                  refine r_one rfl rfl ?_
                  first
                    | (obtain ⟨e1, e2, _⟩ := tn_gone (i := i) (c := (otE d i k n)) (F := (otF d i k n)) hgn; rw [e1, e2]; exact ⟨rfl, hS.unqdk⟩)
                    | (rcases hx with hro | ⟨hri, hc2⟩
                       · obtain ⟨e1, e2, _⟩ := tn_out (c := (otE d i k n)) (F := (otF d i k n)) hgn hro; rw [e1, e2]; exact ⟨rfl, hS.unqdk⟩
                       · obtain ⟨e1, e2, _⟩ := tn_bad (c := (otE d i k n)) (F := (otF d i k n)) hgn hri (by rw [hc2]; decide); rw [e1, e2, hc2]; exact ⟨rfl, hS.unqdk⟩)
                    | (obtain ⟨e1, e2, _⟩ := tn_fuse (F := (otF d i k n)) hgn hri hcd hfu; rw [e1, e2]; exact ⟨rfl, hS.unqdk⟩)
                    | (obtain ⟨e1, e2, _⟩ := tn_ok (F := (otF d i k n)) hgn hri hcd hfu; rw [e1, e2, hOF]; exact ⟨rfl, hS⟩)
      · intro hg6
        have hg6d := of_decide_eq_false hg6
        refine t_no rfl rfl (by rw [hg6]; decide) ?_
        refine t_no rfl rfl (by rw [hg6]; decide) ?_
        refine t_no rfl rfl (by rw [hg6]; decide) ?_
        refine t_nu rfl rfl ?_
        refine t_nu rfl rfl ?_
        refine t_nu rfl rfl ?_
        refine t_nu rfl rfl ?_
        refine t_nu rfl rfl ?_
        refine t_nu rfl rfl ?_
        refine t_nu rfl rfl ?_
        refine t_nu rfl rfl ?_
        refine t_nu rfl rfl ?_
        refine t_nu rfl rfl ?_
        refine t_no rfl rfl (by rw [hg6]; decide) ?_
        refine t_yes rfl rfl (congrArg not (not_back hg4)) ?_
        refine t_q (q_pick_f rfl hg6) ?_
        refine t_q (q_pick_f rfl (congrArg not (not_back hg4))) ?_
        refine t_nil ?_
        refine c_cond_f rfl rfl ?_
        have hri : 0 ≤ i ∧ i < 32 := of_decide_eq_true (not_back (show (!decide (0 ≤ i ∧ i < 32)) = false by assumption))
        have hi : i.toNat < 32 := by omega
        have hcd : otE d i k n = 0 := by
          unfold otE
          by_cases h2 : k = 2
          · rw [if_pos h2]; unfold cuE; rw [if_neg (by omega)]
          · rw [if_neg h2]
        refine c_skip ?_
        refine c_seq ?_
        refine c_seq ?_
        refine c_region ?_
        refine t_q (q_mv (.pointer _) rfl) ?_
        refine t_call Try.call196 (qgoes_calls hS (by repeat first | exact .here _ _ | assumption | apply Pick.there) hgn hG.fuse ⟨hG.calls, hc⟩) rfl ?_
        rintro e w ⟨rfl, hS⟩
        refine ⟨_, rfl, ?_⟩
        refine t_nil ?_
        refine c_cond rfl ?_ ?_
        · intro hc25
          have hfu : d.fuse = 0 := of_decide_eq_true hc25
          refine c_seq ?_
          refine c_region ?_
          refine t_q (q_assign) ?_
          refine t_nil ?_
          refine c_ret ?_
          refine r_one rfl rfl ?_
          first
            | (obtain ⟨e1, e2, _⟩ := tn_gone (i := i) (c := (otE d i k n)) (F := (otF d i k n)) hgn; rw [e1, e2]; exact ⟨rfl, hS.unqdk⟩)
            | (rcases hx with hro | ⟨hri, hc2⟩
               · obtain ⟨e1, e2, _⟩ := tn_out (c := (otE d i k n)) (F := (otF d i k n)) hgn hro; rw [e1, e2]; exact ⟨rfl, hS.unqdk⟩
               · obtain ⟨e1, e2, _⟩ := tn_bad (c := (otE d i k n)) (F := (otF d i k n)) hgn hri (by rw [hc2]; decide); rw [e1, e2, hc2]; exact ⟨rfl, hS.unqdk⟩)
            | (obtain ⟨e1, e2, _⟩ := tn_fuse (F := (otF d i k n)) hgn hri hcd hfu; rw [e1, e2]; exact ⟨rfl, hS.unqdk⟩)
            | (obtain ⟨e1, e2, _⟩ := tn_ok (F := (otF d i k n)) hgn hri hcd hfu; rw [e1, e2, hOF]; exact ⟨rfl, hS⟩)
        · intro hc25
          have hfu : d.fuse ≠ 0 := of_decide_eq_false hc25
          refine c_skip ?_
          refine c_seq ?_
          refine c_seq ?_
          refine c_region ?_
          refine t_q (q_mv (.int _ _) rfl) ?_
          refine t_nil ?_
          refine c_block ?_
          refine c_seq ?_
          refine c_region ?_
          refine t_q (q_eql rfl rfl) ?_
          refine t_q (q_as (.bool _) rfl) ?_
          refine t_nil ?_
          refine c_cond rfl ?_ ?_
          · intro hc27
            have hc27d := of_decide_eq_true hc27
            have hOF : otF d i k n = syF d.F i.toNat := by unfold otF; rw [if_pos (by omega)]
            refine c_draw ?_
            refine d_quiet 15 [0, 1, 2, 3, 4, 5, 6, 7, 8, 9, 10, 11, 12, 13, 14] [0, 1, 2, 3, 4, 5, 6, 7, 8, 9, 10, 11, 12, 13, 14] hS rfl (by kernel_rfl) (by kernel_rfl) (by kernel_rfl) (by kernel_rfl) (fun hap hsel w hS => ?_)
            refine p_q hap hsel 0 rfl rfl hS (fun w hS => q_mv (.pointer _) rfl) ?_
            refine p_q hap hsel 1 rfl rfl hS (fun w hS => q_mv (.int _ _) rfl) ?_
            refine p_q hap hsel 2 rfl rfl hS (fun w hS => q_mv (.pointer _) rfl) ?_
            refine p_q hap hsel 3 rfl rfl hS (fun w hS => q_mv (.int _ _) rfl) ?_
            refine p_q hap hsel 4 rfl rfl hS (fun w hS => q_nilCheck rfl) ?_
            refine p_q hap hsel 5 rfl rfl hS (fun w hS => q_fieldAddr 0 Try.runUnderlying210 rfl Try.sizeOf208 (by decide) rfl rfl) ?_
            first | refine p_q hap hsel 6 rfl rfl hS (fun w hS => q_arr_nat Try.runUnderlying208 Try.sizeOf207 rfl rfl (by omega)) ?_ | refine p_q hap hsel 6 rfl rfl hS (fun w hS => q_arr Try.runUnderlying208 Try.sizeOf207 rfl rfl (by omega)) ?_
            refine p_q hap hsel 7 rfl rfl hS (fun w hS => q_fieldAddr 0 Try.runUnderlying207 rfl Try.sizeOf48 (by decide) rfl rfl) ?_
            refine p_q hap hsel 8 rfl rfl hS (fun w hS => q_load1 Try.isAgg48 rfl (hS.cell (by repeat first | exact .here _ _ | assumption | apply Pick.there) (fc_b hi))) ?_
            refine p_q hap hsel 9 rfl rfl hS (fun w hS => q_len_slice Try.runUnderlying48 rfl) ?_
            refine p_q hap hsel 10 rfl rfl hS (fun w hS => q_nilCheck rfl) ?_
            refine p_q hap hsel 11 rfl rfl hS (fun w hS => q_fieldAddr 0 Try.runUnderlying210 rfl Try.sizeOf208 (by decide) rfl rfl) ?_
            first | refine p_q hap hsel 12 rfl rfl hS (fun w hS => q_arr_nat Try.runUnderlying208 Try.sizeOf207 rfl rfl (by omega)) ?_ | refine p_q hap hsel 12 rfl rfl hS (fun w hS => q_arr Try.runUnderlying208 Try.sizeOf207 rfl rfl (by omega)) ?_
            refine p_q hap hsel 13 rfl rfl hS (fun w hS => q_fieldAddr 1 Try.runUnderlying207 rfl Try.sizeOf3 (by decide) rfl rfl) ?_
            refine p_one 14 rfl (by kernel_rfl) ?_
            refine t_store (v := (.int _ _)) Try.sizeOf3 hS (by repeat first | exact .here _ _ | assumption | apply Pick.there) rfl rfl rfl rfl rfl (Nat.ble_eq_true_of_le (by show 0 + i.toNat * 2 + 1 + 1 ≤ (fcells _ _ ++ _).length; rw [List.length_append, fcells_len]; omega)) (fun w hS => ?_)
            refine t_nil ?_
            refine ⟨.inl (by kernel_rfl), ?_⟩
            refine p_end (by kernel_rfl) ?_
            refine c_seq ?_
            first
              | (replace hS := (hS.pick (A := blkA g 210 _) (by repeat first | exact .here _ _ | assumption | apply Pick.there)).recast (congrArg (blkA g 210 ·) (st_s (n := (d.F i.toNat).1.length) hi rfl))
                 replace hS := ((((hS.pick (A := packA _) (by repeat first | exact .here _ _ | assumption | apply Pick.there))).file hi).unfile hi (d.F i.toNat).1.length).pick (A := blkA g 210 _) (by repeat first | exact .here _ _ | assumption | apply Pick.there)
                 replace hS := hS.unqdkF)
              | (have e2 : min ((d.F i.toNat).2 : Int) n = ((min (d.F i.toNat).2 n.toNat : Nat) : Int) := by omega
                 rw [e2] at hS
                 replace hS := (hS.pick (A := rowC 5 (rw i.toNat).1 (rw i.toNat).2 _) (by repeat first | exact .here _ _ | assumption | apply Pick.there)).drop
                 replace hS := (hS.pick (A := blkA g 210 _) (by repeat first | exact .here _ _ | assumption | apply Pick.there)).recast (congrArg (blkA g 210 ·) (st_2 (b := ((d.F i.toNat).1.take n.toNat)) hi (by rfl) rfl))
                 replace hS := ((((hS.pick (A := packA _) (by repeat first | exact .here _ _ | assumption | apply Pick.there)).pick (A := rowC 5 A75 c75 _) (by repeat first | exact .here _ _ | assumption | apply Pick.there))).unfile hi (min (d.F i.toNat).2 n.toNat)).pick (A := blkA g 210 _) (by repeat first | exact .here _ _ | assumption | apply Pick.there)
                 replace hS := hS.unqdkF)
              | (replace hS := (((hS.pick (A := packA _) (by repeat first | exact .here _ _ | assumption | apply Pick.there))).file hi).drop
                 replace hS := (hS.pick (A := blkA g 210 _) (by repeat first | exact .here _ _ | assumption | apply Pick.there)).recast (congrArg (blkA g 210 ·) (st_2 (n := 0) (b := []) hi rfl rfl))
                 replace hS := ((((hS.pick (A := packA _) (by repeat first | exact .here _ _ | assumption | apply Pick.there))).rowC_nil 5).unfile hi 0).pick (A := blkA g 210 _) (by repeat first | exact .here _ _ | assumption | apply Pick.there)
                 replace hS := hS.unqdkF)
            refine c_region ?_
            refine t_q (q_assign) ?_
            refine t_nil ?_
            refine c_ret ?_
            refine r_one rfl rfl ?_
            first
              | (obtain ⟨e1, e2, _⟩ := tn_gone (i := i) (c := (otE d i k n)) (F := (otF d i k n)) hgn; rw [e1, e2]; exact ⟨rfl, hS.unqdk⟩)
              | (rcases hx with hro | ⟨hri, hc2⟩
                 · obtain ⟨e1, e2, _⟩ := tn_out (c := (otE d i k n)) (F := (otF d i k n)) hgn hro; rw [e1, e2]; exact ⟨rfl, hS.unqdk⟩
                 · obtain ⟨e1, e2, _⟩ := tn_bad (c := (otE d i k n)) (F := (otF d i k n)) hgn hri (by rw [hc2]; decide); rw [e1, e2, hc2]; exact ⟨rfl, hS.unqdk⟩)
              | (obtain ⟨e1, e2, _⟩ := tn_fuse (F := (otF d i k n)) hgn hri hcd hfu; rw [e1, e2]; exact ⟨rfl, hS.unqdk⟩)
              | (obtain ⟨e1, e2, _⟩ := tn_ok (F := (otF d i k n)) hgn hri hcd hfu; rw [e1, e2, hOF]; exact ⟨rfl, hS⟩)
          · intro hc27
            have hc27d := of_decide_eq_false hc27
            refine c_seq ?_
            refine c_region ?_
            refine t_q (q_eql rfl rfl) ?_
            refine t_q (q_as (.bool _) rfl) ?_
            refine t_nil ?_
            refine c_cond rfl ?_ ?_
            · intro hc31
              have hc31d := of_decide_eq_true hc31
              have hOF : otF d i k n = cuF d.F i.toNat n := by unfold otF; rw [if_neg (by omega), if_pos (by omega)]
              replace hS := (hS.pick (A := packA (filesL d.F rw)) (by repeat first | exact .here _ _ | assumption | apply Pick.there)).file hi
              have hle := (hS.rowC_le (.here _ _)).1
              have hAd := hS.rowC_add (.here _ _)
              have hnn : 0 ≤ n ∧ n ≤ ((d.F i.toNat).1.length : Int) := by
                rw [show otE d i k n = cuE d.F i.toNat n by unfold otE; rw [if_pos (by omega)]] at hcd
                unfold cuE at hcd
                split at hcd
                · cases hcd
                · omega
              have hcl1 : n.toNat = ((d.F i.toNat).1.take n.toNat).length := by rw [List.length_take]; omega
              refine c_draw ?_
              refine d_keep (blkA g 210 (fcells d.F rw ++ qtl d.blow)) 27 [0, 1, 2, 3, 4, 5, 6, 7, 8, 9, 10, 11, 12, 13, 14, 15, 16, 17, 18, 19, 20, 21, 22, 23, 24, 25, 26] [0, 1, 2, 3, 4, 5, 6, 7, 8, 9, 10, 11, 12, 13, 14, 15, 16, 17, 18, 19, 20, 21, 22, 23, 24, 25, 26] hS rfl (by kernel_rfl) (by kernel_rfl) (by kernel_rfl) (by kernel_rfl) (fun hap hsel w hS => ?_)
              refine p_q hap hsel 0 rfl rfl ⟨_, hS.pick (by repeat first | exact .here _ _ | assumption | apply Pick.there)⟩ (fun w hI => q_mv (.pointer _) rfl) ?_
              refine p_q hap hsel 1 rfl rfl ⟨_, hS.pick (by repeat first | exact .here _ _ | assumption | apply Pick.there)⟩ (fun w hI => q_mv (.int _ _) rfl) ?_
              refine p_q hap hsel 3 rfl rfl ⟨_, hS.pick (by repeat first | exact .here _ _ | assumption | apply Pick.there)⟩ (fun w hI => q_mv (.pointer _) rfl) ?_
              refine p_q hap hsel 4 rfl rfl ⟨_, hS.pick (by repeat first | exact .here _ _ | assumption | apply Pick.there)⟩ (fun w hI => q_mv (.int _ _) rfl) ?_
              refine p_q hap hsel 5 rfl rfl ⟨_, hS.pick (by repeat first | exact .here _ _ | assumption | apply Pick.there)⟩ (fun w hI => q_nilCheck rfl) ?_
              refine p_q hap hsel 6 rfl rfl ⟨_, hS.pick (by repeat first | exact .here _ _ | assumption | apply Pick.there)⟩ (fun w hI => q_fieldAddr 0 Try.runUnderlying210 rfl Try.sizeOf208 (by decide) rfl rfl) ?_
              first | refine p_q hap hsel 7 rfl rfl ⟨_, hS.pick (by repeat first | exact .here _ _ | assumption | apply Pick.there)⟩ (fun w hI => q_arr_nat Try.runUnderlying208 Try.sizeOf207 rfl rfl (by omega)) ?_ | refine p_q hap hsel 7 rfl rfl ⟨_, hS.pick (by repeat first | exact .here _ _ | assumption | apply Pick.there)⟩ (fun w hI => q_arr Try.runUnderlying208 Try.sizeOf207 rfl rfl (by omega)) ?_
              refine p_q hap hsel 8 rfl rfl ⟨_, hS.pick (by repeat first | exact .here _ _ | assumption | apply Pick.there)⟩ (fun w hI => q_fieldAddr 0 Try.runUnderlying207 rfl Try.sizeOf48 (by decide) rfl rfl) ?_
              refine p_q hap hsel 9 rfl rfl ⟨_, hS.pick (by repeat first | exact .here _ _ | assumption | apply Pick.there)⟩ (fun w hI => q_load1 Try.isAgg48 rfl (hI.choose_spec.cell (by repeat first | exact .here _ _ | assumption | apply Pick.there) (fc_b hi))) ?_
              refine p_q hap hsel 10 rfl rfl ⟨_, hS.pick (by repeat first | exact .here _ _ | assumption | apply Pick.there)⟩ (fun w hI => q_mv (.int _ _) rfl) ?_
              refine p_q hap hsel 11 rfl rfl ⟨_, hS.pick (by repeat first | exact .here _ _ | assumption | apply Pick.there)⟩ (fun w hI => (q_cast (v' := .slice (rw i.toNat).1 ((d.F i.toNat).1.take n.toNat).length (rw i.toNat).2) (q_slice Try.runUnderlying48 Try.sizeOf5 rfl ⟨_, _, rfl, by omega, by omega, rfl⟩ rfl) (sl0 hAd hcl1.symm))) ?_
              refine p_q hap hsel 13 rfl rfl ⟨_, hS.pick (by repeat first | exact .here _ _ | assumption | apply Pick.there)⟩ (fun w hI => q_mv (.pointer _) rfl) ?_
              refine p_q hap hsel 14 rfl rfl ⟨_, hS.pick (by repeat first | exact .here _ _ | assumption | apply Pick.there)⟩ (fun w hI => q_mv (.int _ _) rfl) ?_
              refine p_q hap hsel 15 rfl rfl ⟨_, hS.pick (by repeat first | exact .here _ _ | assumption | apply Pick.there)⟩ (fun w hI => q_nilCheck rfl) ?_
              refine p_q hap hsel 16 rfl rfl ⟨_, hS.pick (by repeat first | exact .here _ _ | assumption | apply Pick.there)⟩ (fun w hI => q_fieldAddr 0 Try.runUnderlying210 rfl Try.sizeOf208 (by decide) rfl rfl) ?_
              first | refine p_q hap hsel 17 rfl rfl ⟨_, hS.pick (by repeat first | exact .here _ _ | assumption | apply Pick.there)⟩ (fun w hI => q_arr_nat Try.runUnderlying208 Try.sizeOf207 rfl rfl (by omega)) ?_ | refine p_q hap hsel 17 rfl rfl ⟨_, hS.pick (by repeat first | exact .here _ _ | assumption | apply Pick.there)⟩ (fun w hI => q_arr Try.runUnderlying208 Try.sizeOf207 rfl rfl (by omega)) ?_
              refine p_q hap hsel 18 rfl rfl ⟨_, hS.pick (by repeat first | exact .here _ _ | assumption | apply Pick.there)⟩ (fun w hI => q_fieldAddr 1 Try.runUnderlying207 rfl Try.sizeOf3 (by decide) rfl rfl) ?_
              refine p_q hap hsel 19 rfl rfl ⟨_, hS.pick (by repeat first | exact .here _ _ | assumption | apply Pick.there)⟩ (fun w hI => q_load1 Try.isAgg3 rfl (hI.choose_spec.cell (by repeat first | exact .here _ _ | assumption | apply Pick.there) (fc_s hi))) ?_
              refine p_q hap hsel 20 rfl rfl ⟨_, hS.pick (by repeat first | exact .here _ _ | assumption | apply Pick.there)⟩ (fun w hI => q_mv (.int _ _) rfl) ?_
              refine p_q hap hsel 21 rfl rfl ⟨_, hS.pick (by repeat first | exact .here _ _ | assumption | apply Pick.there)⟩ (fun w hI => q_min rfl rfl) ?_
              refine p_q hap hsel 23 rfl rfl ⟨_, hS.pick (by repeat first | exact .here _ _ | assumption | apply Pick.there)⟩ (fun w hI => q_nilCheck rfl) ?_
              refine p_q hap hsel 24 rfl rfl ⟨_, hS.pick (by repeat first | exact .here _ _ | assumption | apply Pick.there)⟩ (fun w hI => q_fieldAddr 0 Try.runUnderlying210 rfl Try.sizeOf208 (by decide) rfl rfl) ?_
              refine p_one 2 rfl (by kernel_rfl) ?_
              refine t_build_bytes [] Try.runUnderlying48 Try.sizeOf5 Try.zeroValue5 rfl rfl (by simp) (by decide) hS (fun g65 w hS => ?_)
              replace hS := hS.toC (bs := []) rfl
              refine t_nil ?_
              refine ⟨.inr ⟨_, hS.pick (by repeat first | exact .here _ _ | assumption | apply Pick.there)⟩, ?_⟩
              refine p_one 12 rfl (by kernel_rfl) ?_
              refine t_append_C Try.underlying48 (info_of Try.type5) rfl rfl rfl hS (.here _ _) (take0_rd (hS.drop.rowC_rd (by repeat first | exact .here _ _ | assumption | apply Pick.there)) n.toNat) rfl rfl rfl rfl (by simp; omega) (fun A75 c75 w hS => ?_)
              replace hS := hS.recast (congrArg (rowC 5 A75 c75) (List.nil_append ((d.F i.toNat).1.take n.toNat)))
              refine t_nil ?_
              refine ⟨.inr ⟨_, hS.pick (by repeat first | exact .here _ _ | assumption | apply Pick.there)⟩, ?_⟩
              refine p_q hap hsel 22 rfl rfl ⟨_, hS.pick (by repeat first | exact .here _ _ | assumption | apply Pick.there)⟩ (fun w hI => q_build (qs := [(0, 1), (1, 1)]) [(.slice _ _ _), (.int _ _)] Try.zeroValue207 Try.runUnderlying207 ⟨rfl, Try.sizeOf48, rfl, Try.sizeOf3, trivial⟩ rfl rfl) ?_
              first | refine p_q hap hsel 25 rfl rfl ⟨_, hS.pick (by repeat first | exact .here _ _ | assumption | apply Pick.there)⟩ (fun w hI => q_arr_nat Try.runUnderlying208 Try.sizeOf207 rfl rfl (by omega)) ?_ | refine p_q hap hsel 25 rfl rfl ⟨_, hS.pick (by repeat first | exact .here _ _ | assumption | apply Pick.there)⟩ (fun w hI => q_arr Try.runUnderlying208 Try.sizeOf207 rfl rfl (by omega)) ?_
              refine p_one 26 rfl (by kernel_rfl) ?_
              refine t_store (v := (.agg _)) Try.sizeOf207 hS (by repeat first | exact .here _ _ | assumption | apply Pick.there) rfl rfl rfl rfl rfl (Nat.ble_eq_true_of_le (by show 0 + i.toNat * 2 + 2 ≤ (fcells _ _ ++ _).length; rw [List.length_append, fcells_len]; omega)) (fun w hS => ?_)
              refine t_nil ?_
              refine ⟨.inl (by kernel_rfl), ?_⟩
              refine p_end (by kernel_rfl) ?_
              refine c_seq ?_
              first
                | (replace hS := (hS.pick (A := blkA g 210 _) (by repeat first | exact .here _ _ | assumption | apply Pick.there)).recast (congrArg (blkA g 210 ·) (st_s (n := (d.F i.toNat).1.length) hi rfl))
                   replace hS := ((((hS.pick (A := packA _) (by repeat first | exact .here _ _ | assumption | apply Pick.there))).file hi).unfile hi (d.F i.toNat).1.length).pick (A := blkA g 210 _) (by repeat first | exact .here _ _ | assumption | apply Pick.there)
                   replace hS := hS.unqdkF)
                | (have e2 : min ((d.F i.toNat).2 : Int) n = ((min (d.F i.toNat).2 n.toNat : Nat) : Int) := by omega
                   rw [e2] at hS
                   replace hS := (hS.pick (A := rowC 5 (rw i.toNat).1 (rw i.toNat).2 _) (by repeat first | exact .here _ _ | assumption | apply Pick.there)).drop
                   replace hS := (hS.pick (A := blkA g 210 _) (by repeat first | exact .here _ _ | assumption | apply Pick.there)).recast (congrArg (blkA g 210 ·) (st_2 (b := ((d.F i.toNat).1.take n.toNat)) hi (by rfl) rfl))
                   replace hS := ((((hS.pick (A := packA _) (by repeat first | exact .here _ _ | assumption | apply Pick.there)).pick (A := rowC 5 A75 c75 _) (by repeat first | exact .here _ _ | assumption | apply Pick.there))).unfile hi (min (d.F i.toNat).2 n.toNat)).pick (A := blkA g 210 _) (by repeat first | exact .here _ _ | assumption | apply Pick.there)
                   replace hS := hS.unqdkF)
                | (replace hS := (((hS.pick (A := packA _) (by repeat first | exact .here _ _ | assumption | apply Pick.there))).file hi).drop
                   replace hS := (hS.pick (A := blkA g 210 _) (by repeat first | exact .here _ _ | assumption | apply Pick.there)).recast (congrArg (blkA g 210 ·) (st_2 (n := 0) (b := []) hi rfl rfl))
                   replace hS := ((((hS.pick (A := packA _) (by repeat first | exact .here _ _ | assumption | apply Pick.there))).rowC_nil 5).unfile hi 0).pick (A := blkA g 210 _) (by repeat first | exact .here _ _ | assumption | apply Pick.there)
                   replace hS := hS.unqdkF)
              refine c_region ?_
              refine t_q (q_assign) ?_
              refine t_nil ?_
              refine c_ret ?_
              refine r_one rfl rfl ?_
              first
                | (obtain ⟨e1, e2, _⟩ := tn_gone (i := i) (c := (otE d i k n)) (F := (otF d i k n)) hgn; rw [e1, e2]; exact ⟨rfl, hS.unqdk⟩)
                | (rcases hx with hro | ⟨hri, hc2⟩
                   · obtain ⟨e1, e2, _⟩ := tn_out (c := (otE d i k n)) (F := (otF d i k n)) hgn hro; rw [e1, e2]; exact ⟨rfl, hS.unqdk⟩
                   · obtain ⟨e1, e2, _⟩ := tn_bad (c := (otE d i k n)) (F := (otF d i k n)) hgn hri (by rw [hc2]; decide); rw [e1, e2, hc2]; exact ⟨rfl, hS.unqdk⟩)
                | (obtain ⟨e1, e2, _⟩ := tn_fuse (F := (otF d i k n)) hgn hri hcd hfu; rw [e1, e2]; exact ⟨rfl, hS.unqdk⟩)
                | (obtain ⟨e1, e2, _⟩ := tn_ok (F := (otF d i k n)) hgn hri hcd hfu; rw [e1, e2, hOF]; exact ⟨rfl, hS⟩)
            · intro hc31
              have hc31d := of_decide_eq_false hc31
              have hOF : otF d i k n = drF d.F i.toNat := by unfold otF; rw [if_neg (by omega), if_neg (by omega)]
              refine c_region ?_
              refine t_q (q_mv (.pointer _) rfl) ?_
              refine t_q (q_mv (.int _ _) rfl) ?_
              refine t_q (q_build (qs := [(0, 1), (1, 1)]) [(.slice _ _ _), (.int _ _)] Try.zeroValue207 Try.runUnderlying207 ⟨rfl, Try.sizeOf48, rfl, Try.sizeOf3, trivial⟩ rfl rfl) ?_
              refine t_q (q_nilCheck rfl) ?_
              refine t_q (q_fieldAddr 0 Try.runUnderlying210 rfl Try.sizeOf208 (by decide) rfl rfl) ?_
              first | refine t_q (q_arr_nat Try.runUnderlying208 Try.sizeOf207 rfl rfl (by omega)) ?_ | refine t_q (q_arr Try.runUnderlying208 Try.sizeOf207 rfl rfl (by omega)) ?_
              refine t_store (v := (.agg _)) Try.sizeOf207 hS (by repeat first | exact .here _ _ | assumption | apply Pick.there) rfl rfl rfl rfl rfl (Nat.ble_eq_true_of_le (by show 0 + i.toNat * 2 + 2 ≤ (fcells _ _ ++ _).length; rw [List.length_append, fcells_len]; omega)) (fun w hS => ?_)
              refine t_nil ?_
              refine c_seq ?_
              first
                | (replace hS := (hS.pick (A := blkA g 210 _) (by repeat first | exact .here _ _ | assumption | apply Pick.there)).recast (congrArg (blkA g 210 ·) (st_s (n := (d.F i.toNat).1.length) hi rfl))
                   replace hS := ((((hS.pick (A := packA _) (by repeat first | exact .here _ _ | assumption | apply Pick.there))).file hi).unfile hi (d.F i.toNat).1.length).pick (A := blkA g 210 _) (by repeat first | exact .here _ _ | assumption | apply Pick.there)
                   replace hS := hS.unqdkF)
                | (have e2 : min ((d.F i.toNat).2 : Int) n = ((min (d.F i.toNat).2 n.toNat : Nat) : Int) := by omega
                   rw [e2] at hS
                   replace hS := (hS.pick (A := rowC 5 (rw i.toNat).1 (rw i.toNat).2 _) (by repeat first | exact .here _ _ | assumption | apply Pick.there)).drop
                   replace hS := (hS.pick (A := blkA g 210 _) (by repeat first | exact .here _ _ | assumption | apply Pick.there)).recast (congrArg (blkA g 210 ·) (st_2 (b := ((d.F i.toNat).1.take n.toNat)) hi (by rfl) rfl))
                   replace hS := ((((hS.pick (A := packA _) (by repeat first | exact .here _ _ | assumption | apply Pick.there)).pick (A := rowC 5 A75 c75 _) (by repeat first | exact .here _ _ | assumption | apply Pick.there))).unfile hi (min (d.F i.toNat).2 n.toNat)).pick (A := blkA g 210 _) (by repeat first | exact .here _ _ | assumption | apply Pick.there)
                   replace hS := hS.unqdkF)
                | (replace hS := (((hS.pick (A := packA _) (by repeat first | exact .here _ _ | assumption | apply Pick.there))).file hi).drop
                   replace hS := (hS.pick (A := blkA g 210 _) (by repeat first | exact .here _ _ | assumption | apply Pick.there)).recast (congrArg (blkA g 210 ·) (st_2 (n := 0) (b := []) hi rfl rfl))
                   replace hS := ((((hS.pick (A := packA _) (by repeat first | exact .here _ _ | assumption | apply Pick.there))).rowC_nil 5).unfile hi 0).pick (A := blkA g 210 _) (by repeat first | exact .here _ _ | assumption | apply Pick.there)
                   replace hS := hS.unqdkF)
              refine c_region ?_
              refine t_q (q_assign) ?_
              refine t_nil ?_
              refine c_ret ?_
              refine r_one rfl rfl ?_
              first
                | (obtain ⟨e1, e2, _⟩ := tn_gone (i := i) (c := (otE d i k n)) (F := (otF d i k n)) hgn; rw [e1, e2]; exact ⟨rfl, hS.unqdk⟩)
                | (rcases hx with hro | ⟨hri, hc2⟩
                   · obtain ⟨e1, e2, _⟩ := tn_out (c := (otE d i k n)) (F := (otF d i k n)) hgn hro; rw [e1, e2]; exact ⟨rfl, hS.unqdk⟩
                   · obtain ⟨e1, e2, _⟩ := tn_bad (c := (otE d i k n)) (F := (otF d i k n)) hgn hri (by rw [hc2]; decide); rw [e1, e2, hc2]; exact ⟨rfl, hS.unqdk⟩)
                | (obtain ⟨e1, e2, _⟩ := tn_fuse (F := (otF d i k n)) hgn hri hcd hfu; rw [e1, e2]; exact ⟨rfl, hS.unqdk⟩)
                | (obtain ⟨e1, e2, _⟩ := tn_ok (F := (otF d i k n)) hgn hri hcd hfu; rw [e1, e2, hOF]; exact ⟨rfl, hS⟩)
set_option maxRecDepth 100000 in
theorem qsyn_calls {w : World} {L R : List Asn} {g : Nat} {d : Dk} (hS : St W w L) (pk : Pick L (qdkA g d) R) {i : Int} (hG : DGood d) (hc : d.calls ≤ 1000000000) : Calls Try.prog 153 #[.pointer (some ⟨g, 0, none⟩), .int .i64 i] w fun e w' => e = .returned (.int .i64 (tnE d i (0))) ∧ St W w' (qdkA g (tnD d i (0) (syF d.F i.toNat)) :: R) := by
  replace hS := hS.pick pk
  clear pk
  refine calls_of_wpE (args := [_, _]) Try.func153 rfl rfl rfl ?_
  refine c_seq ?_
  refine c_region ?_
  refine t_q (q_assign) ?_
  refine t_nil ?_
  refine c_seq ?_
  refine c_region ?_
  refine t_q (q_mv (.pointer _) rfl) ?_
  refine t_q (q_mv (.int _ _) rfl) ?_
  refine t_call Try.call194 (qoth_calls (k := 1) hS (.here _ _) hG hc (by omega)) rfl ?_
  rintro e w ⟨rfl, hS⟩
  refine ⟨_, rfl, ?_⟩
  refine t_q (q_as (.int _ _) rfl) ?_
  refine t_nil ?_
  refine c_ret ?_
  refine r_one rfl rfl ?_
  exact ⟨rfl, hS⟩
set_option maxRecDepth 100000 in
theorem qcut_calls {w : World} {L R : List Asn} {g : Nat} {d : Dk} (hS : St W w L) (pk : Pick L (qdkA g d) R) {i n : Int} (hG : DGood d) (hc : d.calls ≤ 1000000000) : Calls Try.prog 154 #[.pointer (some ⟨g, 0, none⟩), .int .i64 i, .int .i64 n] w fun e w' => e = .returned (.int .i64 (tnE d i (cuE d.F i.toNat n))) ∧ St W w' (qdkA g (tnD d i (cuE d.F i.toNat n) (cuF d.F i.toNat n)) :: R) := by
  replace hS := hS.pick pk
  clear pk
  refine calls_of_wpE (args := [_, _, _]) Try.func154 rfl rfl rfl ?_
  refine c_seq ?_
  refine c_region ?_
  refine t_q (q_assign) ?_
  refine t_nil ?_
  refine c_seq ?_
  refine c_region ?_
  refine t_q (q_mv (.pointer _) rfl) ?_
  refine t_q (q_mv (.int _ _) rfl) ?_
  refine t_q (q_mv (.int _ _) rfl) ?_
  refine t_call Try.call194 (qoth_calls (k := 2) hS (.here _ _) hG hc (by omega)) rfl ?_
  rintro e w ⟨rfl, hS⟩
  refine ⟨_, rfl, ?_⟩
  refine t_q (q_as (.int _ _) rfl) ?_
  refine t_nil ?_
  refine c_ret ?_
  refine r_one rfl rfl ?_
  exact ⟨rfl, hS⟩
set_option maxRecDepth 100000 in
theorem qdrp_calls {w : World} {L R : List Asn} {g : Nat} {d : Dk} (hS : St W w L) (pk : Pick L (qdkA g d) R) {i : Int} (hG : DGood d) (hc : d.calls ≤ 1000000000) : Calls Try.prog 155 #[.pointer (some ⟨g, 0, none⟩), .int .i64 i] w fun e w' => e = .returned (.int .i64 (tnE d i (0))) ∧ St W w' (qdkA g (tnD d i (0) (drF d.F i.toNat)) :: R) := by
  replace hS := hS.pick pk
  clear pk
  refine calls_of_wpE (args := [_, _]) Try.func155 rfl rfl rfl ?_
  refine c_seq ?_
  refine c_region ?_
  refine t_q (q_assign) ?_
  refine t_nil ?_
  refine c_seq ?_
  refine c_region ?_
  refine t_q (q_mv (.pointer _) rfl) ?_
  refine t_q (q_mv (.int _ _) rfl) ?_
  refine t_call Try.call194 (qoth_calls (k := 3) hS (.here _ _) hG hc (by omega)) rfl ?_
  rintro e w ⟨rfl, hS⟩
  refine ⟨_, rfl, ?_⟩
  refine t_q (q_as (.int _ _) rfl) ?_
  refine t_nil ?_
  refine c_ret ?_
  refine r_one rfl rfl ?_
  exact ⟨rfl, hS⟩
set_option maxHeartbeats 1000000 in
set_option maxRecDepth 100000 in
theorem qcrash_calls {w : World} {L R : List Asn} {g : Nat} {d : Dk} (hS : St W w L) (pk : Pick L (qdkA g d) R) {K : Option Addr} {c : Nat} {ns : List Int} (hG : DGood d) (hK : ∀ w', St W w' R → RdI w' .i64 K ns) (hml : ns.length ≤ 1000000) : Calls Try.prog 156 #[.pointer (some ⟨g, 0, none⟩), .slice K ns.length c] w fun e w' => e = .returned (.tuple #[]) ∧ St W w' (qdkA g (crD ns d) :: R) := by
  replace hS := hS.pick pk
  clear pk
  obtain ⟨rw, hS⟩ := hS.qdk
  refine calls_of_wpE (args := [_, _]) Try.func156 rfl rfl rfl ?_
  refine c_seq ?_
  refine c_seq ?_
  refine c_region ?_
  refine t_q (q_assign) ?_
  refine t_nil ?_
  refine c_block ?_
  refine c_loop [4, 5, 6, 7, 8, 9, 10, 11, 12, 13, 14, 15, 16, 17, 18, 19, 20, 21, 22, 23, 24, 25, 26, 27, 28, 29, 30, 31, 32, 33, 34, 35, 36, 37, 38, 39, 40, 41, 42, 43, 44, 45, 46, 47, 48, 49, 50, 51, 52, 53, 54, 55, 56, 57, 58, 59, 60, 61, 62, 63, 64, 65, 66] (fun k σ w => ∃ (i : Nat) (rw : Rws), σ 4 = .int .i64 (i : Int) ∧ i ≤ 32 ∧ 32 - i ≤ k ∧ St W w (blkA g 210 (fcells (crF ns d.F i) rw ++ qtl d) :: packA (filesL (crF ns d.F i) rw) :: R)) (32) rfl (⟨0, rw, rfl, by omega, by omega, by rw [crF_zero]; exact hS⟩) ?_
  skip
  rintro k σ w ⟨i, rw, h4, hi0, hk, hS⟩
  refine c_know 4 h4 ?_
  clear h4
  have hFi := crF_at ns d.F i
  have hs1 := hG.sync i
  have hs2 := hG.len i
  have hcl := crS_le (ns := ns) (i := i) hs1
  refine c_seq ?_
  refine c_seq ?_
  refine c_region ?_
  refine t_q (q_mv (.int _ _) rfl) ?_
  refine t_q (q_lss rfl rfl) ?_
  refine t_nil ?_
  refine c_cond rfl ?_ ?_
  · intro hc2
    have hc2d := of_decide_eq_true hc2
    refine c_skip ?_
    refine c_seq ?_
    refine c_block ?_
    refine c_seq ?_
    have hi : i < 32 := by omega
    replace hS := (hS.pick (A := packA (filesL (crF ns d.F i) rw)) (by repeat first | exact .here _ _ | assumption | apply Pick.there)).file hi
    rw [hFi] at hS
    have hle := (hS.rowC_le (.here _ _)).1
    have hAd := hS.rowC_add (.here _ _)
    refine c_region ?_
    refine t_q (q_assign) ?_
    refine t_nil ?_
    refine c_seq ?_
    refine c_seq ?_
    refine c_region ?_
    refine t_q (q_mv (.slice _ _ _) rfl) ?_
    refine t_q (q_len_slice Try.runUnderlying94 rfl) ?_
    refine t_q (q_gtr rfl rfl) ?_
    refine t_nil ?_
    refine c_cond rfl ?_ ?_
    · intro hc4
      have hc4d := of_decide_eq_true hc4
      have hnl : ns.length ≠ 0 := by omega
      obtain ⟨q, hqq, hql, hq3⟩ : ∃ q : Nat, (i : Int) % (ns.length : Int) = (q : Int) ∧ q < ns.length ∧ q = i % ns.length := ⟨i % ns.length, rfl, Nat.mod_lt _ (by omega), rfl⟩
      have hcr := crS_yes (f := d.F i) hnl hq3 hs1
      refine c_region ?_
      refine t_q (q_mv (.slice _ _ _) rfl) ?_
      refine t_q (q_mv (.int _ _) rfl) ?_
      refine t_q (q_mv (.slice _ _ _) rfl) ?_
      refine t_q (q_len_slice Try.runUnderlying94 rfl) ?_
      refine t_q (q_cast (v' := .int .i64 (q : Int)) (q_rem_n rfl rfl (by omega) (by omega)) (by rw [hqq])) ?_
      first | refine t_index_nat Try.runUnderlying94 Try.sizeOf3 (hK _ hS.drop.drop.drop) rfl rfl (by omega) (fun ad5 hl5 hx5 => ?_) | refine t_index Try.runUnderlying94 Try.sizeOf3 (hK _ hS.drop.drop.drop) rfl rfl (by omega) (fun ad5 hl5 hx5 => ?_)
      refine t_q (q_load1 Try.isAgg3 rfl (hx5 0 _ rfl)) ?_
      refine t_q (q_as (.int _ _) rfl) ?_
      refine t_nil ?_
      refine c_seq ?_
      refine c_draw ?_
      refine d_quiet 20 [0, 1, 2, 3, 4, 5, 6, 7, 8, 9, 10, 11, 12, 13, 14, 15, 16, 17, 18, 19] [0, 1, 2, 3, 4, 5, 6, 7, 8, 9, 10, 11, 12, 13, 14, 15, 16, 17, 18, 19] hS rfl (by kernel_rfl) (by kernel_rfl) (by kernel_rfl) (by kernel_rfl) (fun hap hsel w hS => ?_)
      refine p_q hap hsel 0 rfl rfl hS (fun w hS => q_mv (.int _ _) rfl) ?_
      refine p_q hap hsel 1 rfl rfl hS (fun w hS => q_max rfl rfl) ?_
      refine p_q hap hsel 2 rfl rfl hS (fun w hS => q_mv (.pointer _) rfl) ?_
      refine p_q hap hsel 3 rfl rfl hS (fun w hS => q_mv (.int _ _) rfl) ?_
      refine p_q hap hsel 4 rfl rfl hS (fun w hS => q_nilCheck rfl) ?_
      refine p_q hap hsel 5 rfl rfl hS (fun w hS => q_fieldAddr 0 Try.runUnderlying210 rfl Try.sizeOf208 (by decide) rfl rfl) ?_
      first | refine p_q hap hsel 6 rfl rfl hS (fun w hS => q_arr_nat Try.runUnderlying208 Try.sizeOf207 rfl rfl (by omega)) ?_ | refine p_q hap hsel 6 rfl rfl hS (fun w hS => q_arr Try.runUnderlying208 Try.sizeOf207 rfl rfl (by omega)) ?_
      refine p_q hap hsel 7 rfl rfl hS (fun w hS => q_fieldAddr 0 Try.runUnderlying207 rfl Try.sizeOf48 (by decide) rfl rfl) ?_
      refine p_q hap hsel 8 rfl rfl hS (fun w hS => (q_cast (v' := .slice (rw i).1 (d.F i).1.length (rw i).2) (q_load1 Try.isAgg48 rfl (hS.cell (by repeat first | exact .here _ _ | assumption | apply Pick.there) (fc_b hi))) (by rw [hFi]))) ?_
      refine p_q hap hsel 9 rfl rfl hS (fun w hS => q_len_slice Try.runUnderlying48 rfl) ?_
      refine p_q hap hsel 10 rfl rfl hS (fun w hS => q_mv (.pointer _) rfl) ?_
      refine p_q hap hsel 11 rfl rfl hS (fun w hS => q_mv (.int _ _) rfl) ?_
      refine p_q hap hsel 12 rfl rfl hS (fun w hS => q_nilCheck rfl) ?_
      refine p_q hap hsel 13 rfl rfl hS (fun w hS => q_fieldAddr 0 Try.runUnderlying210 rfl Try.sizeOf208 (by decide) rfl rfl) ?_
      first | refine p_q hap hsel 14 rfl rfl hS (fun w hS => q_arr_nat Try.runUnderlying208 Try.sizeOf207 rfl rfl (by omega)) ?_ | refine p_q hap hsel 14 rfl rfl hS (fun w hS => q_arr Try.runUnderlying208 Try.sizeOf207 rfl rfl (by omega)) ?_
      refine p_q hap hsel 15 rfl rfl hS (fun w hS => q_fieldAddr 1 Try.runUnderlying207 rfl Try.sizeOf3 (by decide) rfl rfl) ?_
      refine p_q hap hsel 16 rfl rfl hS (fun w hS => (q_cast (v' := .int .i64 ((d.F i).2 : Int)) (q_load1 Try.isAgg3 rfl (hS.cell (by repeat first | exact .here _ _ | assumption | apply Pick.there) (fc_s hi))) (by rw [hFi]))) ?_
      refine p_q hap hsel 17 rfl rfl hS (fun w hS => q_sub_i64 rfl rfl (by omega)) ?_
      refine p_q hap hsel 18 rfl rfl hS (fun w hS => q_min rfl rfl) ?_
      refine p_q hap hsel 19 rfl rfl hS (fun w hS => q_as (.int _ _) rfl) ?_
      refine p_end (by kernel_rfl) ?_
      refine c_seq ?_
      refine c_region ?_
      refine t_q (q_mv (.pointer _) rfl) ?_
      refine t_q (q_mv (.int _ _) rfl) ?_
      refine t_q (q_nilCheck rfl) ?_
      refine t_q (q_fieldAddr 0 Try.runUnderlying210 rfl Try.sizeOf208 (by decide) rfl rfl) ?_
      first | refine t_q (q_arr_nat Try.runUnderlying208 Try.sizeOf207 rfl rfl (by omega)) ?_ | refine t_q (q_arr Try.runUnderlying208 Try.sizeOf207 rfl rfl (by omega)) ?_
      refine t_q (q_fieldAddr 1 Try.runUnderlying207 rfl Try.sizeOf3 (by decide) rfl rfl) ?_
      refine t_q (q_cast (v' := .int .i64 ((d.F i).2 : Int)) (q_load1 Try.isAgg3 rfl (hS.cell (by repeat first | exact .here _ _ | assumption | apply Pick.there) (fc_s hi))) (by rw [hFi])) ?_
      refine t_q (q_mv (.int _ _) rfl) ?_
      refine t_q (q_cast (v' := .int .i64 ((crS ns i (d.F i) : Nat) : Int)) (q_add_i64 rfl rfl (by omega)) (congrArg (Value.int .i64) hcr)) ?_
      refine t_q (q_as (.int _ _) rfl) ?_
      refine t_nil ?_
      refine c_draw ?_
      refine d_keep (blkA g 210 (fcells (crF ns d.F i) rw ++ qtl d)) 19 [0, 1, 2, 3, 4, 5, 6, 7, 8, 9, 10, 11, 12, 13, 14, 15, 16, 17, 18] [0, 1, 2, 3, 4, 5, 6, 7, 8, 9, 10, 11, 12, 13, 14, 15, 16, 17, 18] hS rfl (by kernel_rfl) (by kernel_rfl) (by kernel_rfl) (by kernel_rfl) (fun hap hsel w hS => ?_)
      refine p_q hap hsel 0 rfl rfl ⟨_, hS.pick (by repeat first | exact .here _ _ | assumption | apply Pick.there)⟩ (fun w hI => q_mv (.pointer _) rfl) ?_
      refine p_q hap hsel 1 rfl rfl ⟨_, hS.pick (by repeat first | exact .here _ _ | assumption | apply Pick.there)⟩ (fun w hI => q_mv (.int _ _) rfl) ?_
      refine p_q hap hsel 3 rfl rfl ⟨_, hS.pick (by repeat first | exact .here _ _ | assumption | apply Pick.there)⟩ (fun w hI => q_mv (.pointer _) rfl) ?_
      refine p_q hap hsel 4 rfl rfl ⟨_, hS.pick (by repeat first | exact .here _ _ | assumption | apply Pick.there)⟩ (fun w hI => q_mv (.int _ _) rfl) ?_
      refine p_q hap hsel 5 rfl rfl ⟨_, hS.pick (by repeat first | exact .here _ _ | assumption | apply Pick.there)⟩ (fun w hI => q_nilCheck rfl) ?_
      refine p_q hap hsel 6 rfl rfl ⟨_, hS.pick (by repeat first | exact .here _ _ | assumption | apply Pick.there)⟩ (fun w hI => q_fieldAddr 0 Try.runUnderlying210 rfl Try.sizeOf208 (by decide) rfl rfl) ?_
      first | refine p_q hap hsel 7 rfl rfl ⟨_, hS.pick (by repeat first | exact .here _ _ | assumption | apply Pick.there)⟩ (fun w hI => q_arr_nat Try.runUnderlying208 Try.sizeOf207 rfl rfl (by omega)) ?_ | refine p_q hap hsel 7 rfl rfl ⟨_, hS.pick (by repeat first | exact .here _ _ | assumption | apply Pick.there)⟩ (fun w hI => q_arr Try.runUnderlying208 Try.sizeOf207 rfl rfl (by omega)) ?_
      refine p_q hap hsel 8 rfl rfl ⟨_, hS.pick (by repeat first | exact .here _ _ | assumption | apply Pick.there)⟩ (fun w hI => q_fieldAddr 0 Try.runUnderlying207 rfl Try.sizeOf48 (by decide) rfl rfl) ?_
      refine p_q hap hsel 9 rfl rfl ⟨_, hS.pick (by repeat first | exact .here _ _ | assumption | apply Pick.there)⟩ (fun w hI => (q_cast (v' := .slice (rw i).1 (d.F i).1.length (rw i).2) (q_load1 Try.isAgg48 rfl (hI.choose_spec.cell (by repeat first | exact .here _ _ | assumption | apply Pick.there) (fc_b hi))) (by rw [hFi]))) ?_
      refine p_q hap hsel 10 rfl rfl ⟨_, hS.pick (by repeat first | exact .here _ _ | assumption | apply Pick.there)⟩ (fun w hI => q_mv (.int _ _) rfl) ?_
      refine p_q hap hsel 11 rfl rfl ⟨_, hS.pick (by repeat first | exact .here _ _ | assumption | apply Pick.there)⟩ (fun w hI => (q_cast (v' := .slice (rw i).1 ((d.F i).1.take (crS ns i (d.F i))).length (rw i).2) (q_slice Try.runUnderlying48 Try.sizeOf5 rfl ⟨_, _, rfl, by omega, by omega, rfl⟩ rfl) (sl0 hAd (by rw [List.length_take]; omega)))) ?_
      refine p_q hap hsel 13 rfl rfl ⟨_, hS.pick (by repeat first | exact .here _ _ | assumption | apply Pick.there)⟩ (fun w hI => q_mv (.int _ _) rfl) ?_
      refine p_q hap hsel 15 rfl rfl ⟨_, hS.pick (by repeat first | exact .here _ _ | assumption | apply Pick.there)⟩ (fun w hI => q_nilCheck rfl) ?_
      refine p_q hap hsel 16 rfl rfl ⟨_, hS.pick (by repeat first | exact .here _ _ | assumption | apply Pick.there)⟩ (fun w hI => q_fieldAddr 0 Try.runUnderlying210 rfl Try.sizeOf208 (by decide) rfl rfl) ?_
      refine p_one 2 rfl (by kernel_rfl) ?_
      refine t_build_bytes [] Try.runUnderlying48 Try.sizeOf5 Try.zeroValue5 rfl rfl (by simp) (by decide) hS (fun g51 w hS => ?_)
      replace hS := hS.toC (bs := []) rfl
      refine t_nil ?_
      refine ⟨.inr ⟨_, hS.pick (by repeat first | exact .here _ _ | assumption | apply Pick.there)⟩, ?_⟩
      refine p_one 12 rfl (by kernel_rfl) ?_
      refine t_append_C Try.underlying48 (info_of Try.type5) rfl rfl rfl hS (.here _ _) (take0_rd (hS.drop.rowC_rd (by repeat first | exact .here _ _ | assumption | apply Pick.there)) (crS ns i (d.F i))) rfl rfl rfl rfl (by simp; omega) (fun A61 c61 w hS => ?_)
      replace hS := hS.recast (congrArg (rowC 5 A61 c61) (List.nil_append ((d.F i).1.take (crS ns i (d.F i)))))
      refine t_nil ?_
      refine ⟨.inr ⟨_, hS.pick (by repeat first | exact .here _ _ | assumption | apply Pick.there)⟩, ?_⟩
      refine p_q hap hsel 14 rfl rfl ⟨_, hS.pick (by repeat first | exact .here _ _ | assumption | apply Pick.there)⟩ (fun w hI => q_build (qs := [(0, 1), (1, 1)]) [(.slice _ _ _), (.int _ _)] Try.zeroValue207 Try.runUnderlying207 ⟨rfl, Try.sizeOf48, rfl, Try.sizeOf3, trivial⟩ rfl rfl) ?_
      first | refine p_q hap hsel 17 rfl rfl ⟨_, hS.pick (by repeat first | exact .here _ _ | assumption | apply Pick.there)⟩ (fun w hI => q_arr_nat Try.runUnderlying208 Try.sizeOf207 rfl rfl (by omega)) ?_ | refine p_q hap hsel 17 rfl rfl ⟨_, hS.pick (by repeat first | exact .here _ _ | assumption | apply Pick.there)⟩ (fun w hI => q_arr Try.runUnderlying208 Try.sizeOf207 rfl rfl (by omega)) ?_
      refine p_one 18 rfl (by kernel_rfl) ?_
      refine t_store (v := (.agg _)) Try.sizeOf207 hS (by repeat first | exact .here _ _ | assumption | apply Pick.there) rfl rfl rfl rfl rfl (Nat.ble_eq_true_of_le (by show 0 + i * 2 + 2 ≤ (fcells _ _ ++ _).length; rw [List.length_append, fcells_len]; omega)) (fun w hS => ?_)
      refine t_nil ?_
      refine ⟨.inl (by kernel_rfl), ?_⟩
      refine p_end (by kernel_rfl) ?_
      refine c_region ?_
      refine t_q (q_mv (.int _ _) rfl) ?_
      refine t_q (q_add_i64 rfl rfl (by omega)) ?_
      refine t_q (q_as (.int _ _) rfl) ?_
      refine t_nil ?_
      replace hS := (hS.pick (A := rowC 5 (rw i).1 (rw i).2 _) (by repeat first | exact .here _ _ | assumption | apply Pick.there)).drop
      replace hS := (hS.pick (A := blkA g 210 _) (by repeat first | exact .here _ _ | assumption | apply Pick.there)).recast (congrArg (blkA g 210 ·) (show _ = fcells (crF ns d.F (i + 1)) (updR rw i (A61, c61)) ++ qtl d from by rw [← crF_succ]; exact st_2 hi rfl rfl))
      have hun := (((hS.pick (A := packA _) (by repeat first | exact .here _ _ | assumption | apply Pick.there)).pick (A := rowC 5 A61 c61 _) (by repeat first | exact .here _ _ | assumption | apply Pick.there))).unfile hi (crS ns i (d.F i))
      rw [show (((d.F i).1.take (crS ns i (d.F i))), crS ns i (d.F i)) = crV ns i (d.F i) from rfl, crF_succ] at hun
      exact ⟨k - 1, by omega, i + 1, _, rfl, by omega, by omega, hun.pick (A := blkA g 210 _) (by repeat first | exact .here _ _ | assumption | apply Pick.there)⟩
    · intro hc4
      have hc4d := of_decide_eq_false hc4
      have hcr : (((d.F i).2 : Nat) : Int) + min (max 0 0) (((d.F i).1.length : Int) - (d.F i).2) = ((crS ns i (d.F i) : Nat) : Int) := by rw [crS_no (by omega)]; omega
      refine c_skip ?_
      refine c_seq ?_
      refine c_draw ?_
      refine d_quiet 20 [0, 1, 2, 3, 4, 5, 6, 7, 8, 9, 10, 11, 12, 13, 14, 15, 16, 17, 18, 19] [0, 1, 2, 3, 4, 5, 6, 7, 8, 9, 10, 11, 12, 13, 14, 15, 16, 17, 18, 19] hS rfl (by kernel_rfl) (by kernel_rfl) (by kernel_rfl) (by kernel_rfl) (fun hap hsel w hS => ?_)
      refine p_q hap hsel 0 rfl rfl hS (fun w hS => q_mv (.int _ _) rfl) ?_
      refine p_q hap hsel 1 rfl rfl hS (fun w hS => q_max rfl rfl) ?_
      refine p_q hap hsel 2 rfl rfl hS (fun w hS => q_mv (.pointer _) rfl) ?_
      refine p_q hap hsel 3 rfl rfl hS (fun w hS => q_mv (.int _ _) rfl) ?_
      refine p_q hap hsel 4 rfl rfl hS (fun w hS => q_nilCheck rfl) ?_
      refine p_q hap hsel 5 rfl rfl hS (fun w hS => q_fieldAddr 0 Try.runUnderlying210 rfl Try.sizeOf208 (by decide) rfl rfl) ?_
      first | refine p_q hap hsel 6 rfl rfl hS (fun w hS => q_arr_nat Try.runUnderlying208 Try.sizeOf207 rfl rfl (by omega)) ?_ | refine p_q hap hsel 6 rfl rfl hS (fun w hS => q_arr Try.runUnderlying208 Try.sizeOf207 rfl rfl (by omega)) ?_
      refine p_q hap hsel 7 rfl rfl hS (fun w hS => q_fieldAddr 0 Try.runUnderlying207 rfl Try.sizeOf48 (by decide) rfl rfl) ?_
      refine p_q hap hsel 8 rfl rfl hS (fun w hS => (q_cast (v' := .slice (rw i).1 (d.F i).1.length (rw i).2) (q_load1 Try.isAgg48 rfl (hS.cell (by repeat first | exact .here _ _ | assumption | apply Pick.there) (fc_b hi))) (by rw [hFi]))) ?_
      refine p_q hap hsel 9 rfl rfl hS (fun w hS => q_len_slice Try.runUnderlying48 rfl) ?_
      refine p_q hap hsel 10 rfl rfl hS (fun w hS => q_mv (.pointer _) rfl) ?_
      refine p_q hap hsel 11 rfl rfl hS (fun w hS => q_mv (.int _ _) rfl) ?_
      refine p_q hap hsel 12 rfl rfl hS (fun w hS => q_nilCheck rfl) ?_
      refine p_q hap hsel 13 rfl rfl hS (fun w hS => q_fieldAddr 0 Try.runUnderlying210 rfl Try.sizeOf208 (by decide) rfl rfl) ?_
      first | refine p_q hap hsel 14 rfl rfl hS (fun w hS => q_arr_nat Try.runUnderlying208 Try.sizeOf207 rfl rfl (by omega)) ?_ | refine p_q hap hsel 14 rfl rfl hS (fun w hS => q_arr Try.runUnderlying208 Try.sizeOf207 rfl rfl (by omega)) ?_
      refine p_q hap hsel 15 rfl rfl hS (fun w hS => q_fieldAddr 1 Try.runUnderlying207 rfl Try.sizeOf3 (by decide) rfl rfl) ?_
      refine p_q hap hsel 16 rfl rfl hS (fun w hS => (q_cast (v' := .int .i64 ((d.F i).2 : Int)) (q_load1 Try.isAgg3 rfl (hS.cell (by repeat first | exact .here _ _ | assumption | apply Pick.there) (fc_s hi))) (by rw [hFi]))) ?_
      refine p_q hap hsel 17 rfl rfl hS (fun w hS => q_sub_i64 rfl rfl (by omega)) ?_
      refine p_q hap hsel 18 rfl rfl hS (fun w hS => q_min rfl rfl) ?_
      refine p_q hap hsel 19 rfl rfl hS (fun w hS => q_as (.int _ _) rfl) ?_
      refine p_end (by kernel_rfl) ?_
      refine c_seq ?_
      refine c_region ?_
      refine t_q (q_mv (.pointer _) rfl) ?_
      refine t_q (q_mv (.int _ _) rfl) ?_
      refine t_q (q_nilCheck rfl) ?_
      refine t_q (q_fieldAddr 0 Try.runUnderlying210 rfl Try.sizeOf208 (by decide) rfl rfl) ?_
      first | refine t_q (q_arr_nat Try.runUnderlying208 Try.sizeOf207 rfl rfl (by omega)) ?_ | refine t_q (q_arr Try.runUnderlying208 Try.sizeOf207 rfl rfl (by omega)) ?_
      refine t_q (q_fieldAddr 1 Try.runUnderlying207 rfl Try.sizeOf3 (by decide) rfl rfl) ?_
      refine t_q (q_cast (v' := .int .i64 ((d.F i).2 : Int)) (q_load1 Try.isAgg3 rfl (hS.cell (by repeat first | exact .here _ _ | assumption | apply Pick.there) (fc_s hi))) (by rw [hFi])) ?_
      refine t_q (q_mv (.int _ _) rfl) ?_
      refine t_q (q_cast (v' := .int .i64 ((crS ns i (d.F i) : Nat) : Int)) (q_add_i64 rfl rfl (by omega)) (congrArg (Value.int .i64) hcr)) ?_
      refine t_q (q_as (.int _ _) rfl) ?_
      refine t_nil ?_
      refine c_draw ?_
      refine d_keep (blkA g 210 (fcells (crF ns d.F i) rw ++ qtl d)) 19 [0, 1, 2, 3, 4, 5, 6, 7, 8, 9, 10, 11, 12, 13, 14, 15, 16, 17, 18] [0, 1, 2, 3, 4, 5, 6, 7, 8, 9, 10, 11, 12, 13, 14, 15, 16, 17, 18] hS rfl (by kernel_rfl) (by kernel_rfl) (by kernel_rfl) (by kernel_rfl) (fun hap hsel w hS => ?_)
      refine p_q hap hsel 0 rfl rfl ⟨_, hS.pick (by repeat first | exact .here _ _ | assumption | apply Pick.there)⟩ (fun w hI => q_mv (.pointer _) rfl) ?_
      refine p_q hap hsel 1 rfl rfl ⟨_, hS.pick (by repeat first | exact .here _ _ | assumption | apply Pick.there)⟩ (fun w hI => q_mv (.int _ _) rfl) ?_
      refine p_q hap hsel 3 rfl rfl ⟨_, hS.pick (by repeat first | exact .here _ _ | assumption | apply Pick.there)⟩ (fun w hI => q_mv (.pointer _) rfl) ?_
      refine p_q hap hsel 4 rfl rfl ⟨_, hS.pick (by repeat first | exact .here _ _ | assumption | apply Pick.there)⟩ (fun w hI => q_mv (.int _ _) rfl) ?_
      refine p_q hap hsel 5 rfl rfl ⟨_, hS.pick (by repeat first | exact .here _ _ | assumption | apply Pick.there)⟩ (fun w hI => q_nilCheck rfl) ?_
      refine p_q hap hsel 6 rfl rfl ⟨_, hS.pick (by repeat first | exact .here _ _ | assumption | apply Pick.there)⟩ (fun w hI => q_fieldAddr 0 Try.runUnderlying210 rfl Try.sizeOf208 (by decide) rfl rfl) ?_
      first | refine p_q hap hsel 7 rfl rfl ⟨_, hS.pick (by repeat first | exact .here _ _ | assumption | apply Pick.there)⟩ (fun w hI => q_arr_nat Try.runUnderlying208 Try.sizeOf207 rfl rfl (by omega)) ?_ | refine p_q hap hsel 7 rfl rfl ⟨_, hS.pick (by repeat first | exact .here _ _ | assumption | apply Pick.there)⟩ (fun w hI => q_arr Try.runUnderlying208 Try.sizeOf207 rfl rfl (by omega)) ?_
      refine p_q hap hsel 8 rfl rfl ⟨_, hS.pick (by repeat first | exact .here _ _ | assumption | apply Pick.there)⟩ (fun w hI => q_fieldAddr 0 Try.runUnderlying207 rfl Try.sizeOf48 (by decide) rfl rfl) ?_
      refine p_q hap hsel 9 rfl rfl ⟨_, hS.pick (by repeat first | exact .here _ _ | assumption | apply Pick.there)⟩ (fun w hI => (q_cast (v' := .slice (rw i).1 (d.F i).1.length (rw i).2) (q_load1 Try.isAgg48 rfl (hI.choose_spec.cell (by repeat first | exact .here _ _ | assumption | apply Pick.there) (fc_b hi))) (by rw [hFi]))) ?_
      refine p_q hap hsel 10 rfl rfl ⟨_, hS.pick (by repeat first | exact .here _ _ | assumption | apply Pick.there)⟩ (fun w hI => q_mv (.int _ _) rfl) ?_
      refine p_q hap hsel 11 rfl rfl ⟨_, hS.pick (by repeat first | exact .here _ _ | assumption | apply Pick.there)⟩ (fun w hI => (q_cast (v' := .slice (rw i).1 ((d.F i).1.take (crS ns i (d.F i))).length (rw i).2) (q_slice Try.runUnderlying48 Try.sizeOf5 rfl ⟨_, _, rfl, by omega, by omega, rfl⟩ rfl) (sl0 hAd (by rw [List.length_take]; omega)))) ?_
      refine p_q hap hsel 13 rfl rfl ⟨_, hS.pick (by repeat first | exact .here _ _ | assumption | apply Pick.there)⟩ (fun w hI => q_mv (.int _ _) rfl) ?_
      refine p_q hap hsel 15 rfl rfl ⟨_, hS.pick (by repeat first | exact .here _ _ | assumption | apply Pick.there)⟩ (fun w hI => q_nilCheck rfl) ?_
      refine p_q hap hsel 16 rfl rfl ⟨_, hS.pick (by repeat first | exact .here _ _ | assumption | apply Pick.there)⟩ (fun w hI => q_fieldAddr 0 Try.runUnderlying210 rfl Try.sizeOf208 (by decide) rfl rfl) ?_
      refine p_one 2 rfl (by kernel_rfl) ?_
      refine t_build_bytes [] Try.runUnderlying48 Try.sizeOf5 Try.zeroValue5 rfl rfl (by simp) (by decide) hS (fun g51 w hS => ?_)
      replace hS := hS.toC (bs := []) rfl
      refine t_nil ?_
      refine ⟨.inr ⟨_, hS.pick (by repeat first | exact .here _ _ | assumption | apply Pick.there)⟩, ?_⟩
      refine p_one 12 rfl (by kernel_rfl) ?_
      refine t_append_C Try.underlying48 (info_of Try.type5) rfl rfl rfl hS (.here _ _) (take0_rd (hS.drop.rowC_rd (by repeat first | exact .here _ _ | assumption | apply Pick.there)) (crS ns i (d.F i))) rfl rfl rfl rfl (by simp; omega) (fun A61 c61 w hS => ?_)
      replace hS := hS.recast (congrArg (rowC 5 A61 c61) (List.nil_append ((d.F i).1.take (crS ns i (d.F i)))))
      refine t_nil ?_
      refine ⟨.inr ⟨_, hS.pick (by repeat first | exact .here _ _ | assumption | apply Pick.there)⟩, ?_⟩
      refine p_q hap hsel 14 rfl rfl ⟨_, hS.pick (by repeat first | exact .here _ _ | assumption | apply Pick.there)⟩ (fun w hI => q_build (qs := [(0, 1), (1, 1)]) [(.slice _ _ _), (.int _ _)] Try.zeroValue207 Try.runUnderlying207 ⟨rfl, Try.sizeOf48, rfl, Try.sizeOf3, trivial⟩ rfl rfl) ?_
      first | refine p_q hap hsel 17 rfl rfl ⟨_, hS.pick (by repeat first | exact .here _ _ | assumption | apply Pick.there)⟩ (fun w hI => q_arr_nat Try.runUnderlying208 Try.sizeOf207 rfl rfl (by omega)) ?_ | refine p_q hap hsel 17 rfl rfl ⟨_, hS.pick (by repeat first | exact .here _ _ | assumption | apply Pick.there)⟩ (fun w hI => q_arr Try.runUnderlying208 Try.sizeOf207 rfl rfl (by omega)) ?_
      refine p_one 18 rfl (by kernel_rfl) ?_
      refine t_store (v := (.agg _)) Try.sizeOf207 hS (by repeat first | exact .here _ _ | assumption | apply Pick.there) rfl rfl rfl rfl rfl (Nat.ble_eq_true_of_le (by show 0 + i * 2 + 2 ≤ (fcells _ _ ++ _).length; rw [List.length_append, fcells_len]; omega)) (fun w hS => ?_)
      refine t_nil ?_
      refine ⟨.inl (by kernel_rfl), ?_⟩
      refine p_end (by kernel_rfl) ?_
      refine c_region ?_
      refine t_q (q_mv (.int _ _) rfl) ?_
      refine t_q (q_add_i64 rfl rfl (by omega)) ?_
      refine t_q (q_as (.int _ _) rfl) ?_
      refine t_nil ?_
      replace hS := (hS.pick (A := rowC 5 (rw i).1 (rw i).2 _) (by repeat first | exact .here _ _ | assumption | apply Pick.there)).drop
      replace hS := (hS.pick (A := blkA g 210 _) (by repeat first | exact .here _ _ | assumption | apply Pick.there)).recast (congrArg (blkA g 210 ·) (show _ = fcells (crF ns d.F (i + 1)) (updR rw i (A61, c61)) ++ qtl d from by rw [← crF_succ]; exact st_2 hi rfl rfl))
      have hun := (((hS.pick (A := packA _) (by repeat first | exact .here _ _ | assumption | apply Pick.there)).pick (A := rowC 5 A61 c61 _) (by repeat first | exact .here _ _ | assumption | apply Pick.there))).unfile hi (crS ns i (d.F i))
      rw [show (((d.F i).1.take (crS ns i (d.F i))), crS ns i (d.F i)) = crV ns i (d.F i) from rfl, crF_succ] at hun
      exact ⟨k - 1, by omega, i + 1, _, rfl, by omega, by omega, hun.pick (A := blkA g 210 _) (by repeat first | exact .here _ _ | assumption | apply Pick.there)⟩
  · intro hc2
    have hc2d := of_decide_eq_false hc2
    refine c_exit ?_
    refine ite_t rfl ?_
    refine c_seq ?_
    obtain rfl : i = 32 := by omega
    rw [qtl_eq] at hS
    refine c_region ?_
    refine t_q (q_mv (.pointer _) rfl) ?_
    refine t_q (q_nilCheck rfl) ?_
    refine t_q (q_fieldAddr 65 Try.runUnderlying210 rfl Try.sizeOf4 (by decide) rfl rfl) ?_
    refine t_store (v := (.bool _)) Try.sizeOf4 hS (by repeat first | exact .here _ _ | assumption | apply Pick.there) rfl rfl rfl rfl rfl (Nat.ble_eq_true_of_le (by show 0 + 65 + 1 ≤ (fcells _ _ ++ _).length; rw [List.length_append, fcells_len]; show _ ≤ 64 + 3; omega)) (fun w hS => ?_)
    replace hS := hS.recast (show _ = blkA g 210 (fcells (crF ns d.F 32) rw ++ [.int .i64 d.fuse, .bool false, .int .i64 d.calls]) from congrArg (blkA g 210 ·) (st_tl 1 _))
    refine t_nil ?_
    refine c_region ?_
    refine t_q (q_mv (.pointer _) rfl) ?_
    refine t_q (q_nilCheck rfl) ?_
    refine t_q (q_fieldAddr 64 Try.runUnderlying210 rfl Try.sizeOf3 (by decide) rfl rfl) ?_
    refine t_store (v := (.int _ _)) Try.sizeOf3 hS (by repeat first | exact .here _ _ | assumption | apply Pick.there) rfl rfl rfl rfl rfl (Nat.ble_eq_true_of_le (by show 0 + 64 + 1 ≤ (fcells _ _ ++ _).length; rw [List.length_append, fcells_len]; show _ ≤ 64 + 3; omega)) (fun w hS => ?_)
    replace hS := hS.recast (show _ = blkA g 210 (fcells (crF ns d.F 32) rw ++ [.int .i64 (-1), .bool false, .int .i64 d.calls]) from congrArg (blkA g 210 ·) (st_tl 0 _))
    refine t_nil ?_
    refine r_none rfl  ?_
    exact ⟨rfl, St.unqdk (d := crD ns d) (rw := rw) (by rw [qtl_eq]; exact hS)⟩
end Go.Proofs.Ytcikoealneldkaa
