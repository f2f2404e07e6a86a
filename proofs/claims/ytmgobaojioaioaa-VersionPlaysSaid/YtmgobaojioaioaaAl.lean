/- Whether all support a version; the document's table. -/
import Derived.Test.YtmgobaojioaioaaAk
namespace Go.Proofs.Ytmgobaojioaioaa
open Go Go.RowKit Go.Lib
variable {W : World}
def sl (s : Nat → Int) : List Int := [s 0, s 1, s 2, s 3, s 4, s 5, s 6]
theorem sl_eq {s q : Nat → Int} : sl s = sl q ↔ ∀ i, i < 7 → s i = q i := by
  unfold sl
  constructor
  · intro h
    simp only [List.cons.injEq, and_true] at h
    exact seven h.1 h.2.1 h.2.2.1 h.2.2.2.1 h.2.2.2.2.1 h.2.2.2.2.2.1 h.2.2.2.2.2.2
  · intro h
    rw [h 0 (by decide), h 1 (by decide), h 2 (by decide), h 3 (by decide), h 4 (by decide), h 5 (by decide), h 6 (by decide)]
theorem sl_wf {s : Nat → Int} (h : Sb s) : ∀ x ∈ sl s, (Lit.int .u64 x).wf = true := by
  have hw : ∀ i, (Lit.int .u64 (s i)).wf = true := fun i => by
    have h1 := h i
    unfold Lit.wf
    simp [IntKind.min, IntKind.max, IntKind.bits, IntKind.signed]
    omega
  intro x hx
  simp only [sl, List.mem_cons, List.not_mem_nil, or_false] at hx
  rcases hx with rfl | rfl | rfl | rfl | rfl | rfl | rfl <;> exact hw _
theorem all_eq {n : Int} {s : Nat → Int} {v : Int} (hn : 0 ≤ n ∧ n ≤ 7) : decide (sl (oJ s v n.toNat) = sl s) = decide (∀ i, i < n.toNat → orT s v i = s i) := by
  rw [decide_eq_decide, sl_eq]
  unfold oJ
  constructor
  · intro h i hi
    have := h i (by omega)
    rw [if_pos hi] at this
    exact this
  · intro h i _
    split
    · rename_i hi; exact h i hi
    · rfl
set_option maxRecDepth 100000 in
theorem all_calls {n v : Int} {s : Nat → Int} (hn : 0 ≤ n ∧ n ≤ 7) (hs : Sb s) : Calls Try.prog 19 #[.agg (tcs n s).toArray, .int .i64 v] W fun e w' => e = .returned (.bool (allT n s v)) ∧ St W w' [] := by
  have hS := St.init W
  have hv := bitN_lt v
  refine calls_of_wpE (args := [_, _]) Try.func19 rfl rfl rfl ?_
  refine c_seq ?_
  refine c_region ?_
  refine t_box (v := (.agg _)) rfl rfl hS (fun g2 w hS => ?_)
  refine t_q (q_assign) ?_
  refine t_nil ?_
  refine c_seq ?_
  refine c_region ?_
  refine t_q (q_load_blk Try.isAgg32 Try.sizeOf32 rfl (hS.blk (by repeat first | exact .here _ _ | assumption | apply Pick.there)) rfl) ?_
  refine t_alloc Try.zeroValue32 rfl hS (fun g5 w hS => ?_)
  refine t_store (v := (.agg _)) Try.sizeOf32 hS (by repeat first | exact .here _ _ | assumption | apply Pick.there) rfl rfl rfl rfl rfl rfl (fun w hS => ?_)
  refine t_nil ?_
  refine c_seq ?_
  refine c_seq ?_
  refine c_region ?_
  refine t_q (q_fieldAddr 0 Try.runUnderlying32 rfl Try.sizeOf3 (by decide) rfl rfl) ?_
  refine t_q (q_load1 Try.isAgg3 rfl (hS.cell (by repeat first | exact .here _ _ | assumption | apply Pick.there) rfl)) ?_
  refine t_q (q_move) ?_
  refine t_nil ?_
  refine c_block ?_
  refine c_loop [6, 10, 11, 12, 13, 14, 15, 16, 17, 18, 19, 20, 21, 22] (fun k σ w => ∃ j : Nat, σ 10 = .int .i64 (j : Int) ∧ (j : Int) ≤ n ∧ n.toNat - j ≤ k ∧ St W w [blkA g5 32 (tcs n (oJ s v j)), blkA g2 32 (tcs n s)]) (n.toNat) rfl (⟨0, rfl, by omega, by omega, hS⟩) ?_
  skip
  rintro k σ w ⟨j, h10, hj, hk, hS⟩
  refine c_know 10 h10 ?_
  clear h10
  refine c_seq ?_
  refine c_region ?_
  refine t_q (q_lss rfl rfl) ?_
  refine t_nil ?_
  refine c_seq ?_
  refine c_cond rfl ?_ ?_
  · intro hc2
    have hc2d := of_decide_eq_true hc2
    refine c_skip ?_
    refine c_seq ?_
    refine c_block ?_
    refine c_seq ?_
    refine c_region ?_
    refine t_q (q_mv (.int _ _) rfl) ?_
    refine t_q (q_as (.int _ _) rfl) ?_
    refine t_nil ?_
    have hb := oJ_b hs v j j
    refine c_draw ?_
    refine d_keep (blkA g5 32 (tcs n (oJ s v j))) 10 [0, 1, 2, 3, 4, 5, 6, 7, 8, 9] [0, 1, 2, 3, 4, 5, 6, 7, 8, 9] hS rfl (by kernel_rfl) (by kernel_rfl) (by kernel_rfl) (by kernel_rfl) (fun hap hsel w hS => ?_)
    refine p_q hap hsel 0 rfl rfl ⟨_, hS.pick (by repeat first | exact .here _ _ | assumption | apply Pick.there)⟩ (fun w hI => q_mv (.int _ _) rfl) ?_
    refine p_q hap hsel 1 rfl rfl ⟨_, hS.pick (by repeat first | exact .here _ _ | assumption | apply Pick.there)⟩ (fun w hI => q_fieldAddr 1 Try.runUnderlying32 rfl Try.sizeOf30 (by decide) rfl rfl) ?_
    first | refine p_q hap hsel 2 rfl rfl ⟨_, hS.pick (by repeat first | exact .here _ _ | assumption | apply Pick.there)⟩ (fun w hI => q_arr_nat Try.runUnderlying30 Try.sizeOf26 rfl rfl (by omega)) ?_ | refine p_q hap hsel 2 rfl rfl ⟨_, hS.pick (by repeat first | exact .here _ _ | assumption | apply Pick.there)⟩ (fun w hI => q_arr Try.runUnderlying30 Try.sizeOf26 rfl rfl (by omega)) ?_
    refine p_q hap hsel 3 rfl rfl ⟨_, hS.pick (by repeat first | exact .here _ _ | assumption | apply Pick.there)⟩ (fun w hI => q_load1 Try.isAgg26 rfl (hI.choose_spec.cell (by repeat first | exact .here _ _ | assumption | apply Pick.there) (tcell (by omega)))) ?_
    refine p_q hap hsel 4 rfl rfl ⟨_, hS.pick (by repeat first | exact .here _ _ | assumption | apply Pick.there)⟩ (fun w hI => q_mv (.int _ _) rfl) ?_
    refine p_q hap hsel 7 rfl rfl ⟨_, hS.pick (by repeat first | exact .here _ _ | assumption | apply Pick.there)⟩ (fun w hI => q_fieldAddr 1 Try.runUnderlying32 rfl Try.sizeOf30 (by decide) rfl rfl) ?_
    refine p_one 5 rfl (by kernel_rfl) ?_
    refine t_call Try.call71 (bit_calls) rfl ?_
    rintro e w ⟨rfl, hT⟩
    refine ⟨_, rfl, ?_⟩
    replace hS := hS.after hT
    refine t_nil ?_
    refine ⟨.inr ⟨_, hS.pick (by repeat first | exact .here _ _ | assumption | apply Pick.there)⟩, ?_⟩
    refine p_q hap hsel 6 rfl rfl ⟨_, hS.pick (by repeat first | exact .here _ _ | assumption | apply Pick.there)⟩ (fun w hI => (q_cast (v' := .int .u64 (orT s v j)) (q_or_u64 rfl rfl (by omega) (by omega)) (by rw [oJ_at]; rfl))) ?_
    first | refine p_q hap hsel 8 rfl rfl ⟨_, hS.pick (by repeat first | exact .here _ _ | assumption | apply Pick.there)⟩ (fun w hI => q_arr_nat Try.runUnderlying30 Try.sizeOf26 rfl rfl (by omega)) ?_ | refine p_q hap hsel 8 rfl rfl ⟨_, hS.pick (by repeat first | exact .here _ _ | assumption | apply Pick.there)⟩ (fun w hI => q_arr Try.runUnderlying30 Try.sizeOf26 rfl rfl (by omega)) ?_
    refine p_one 9 rfl (by kernel_rfl) ?_
    refine t_store (v := (.int _ _)) Try.sizeOf26 hS (by repeat first | exact .here _ _ | assumption | apply Pick.there) rfl rfl rfl rfl rfl (Nat.ble_eq_true_of_le (by show 0 + 1 + j * 1 + 1 ≤ 8; omega)) (fun w hS => ?_)
    refine t_nil ?_
    refine ⟨.inl (by kernel_rfl), ?_⟩
    refine p_end (by kernel_rfl) ?_
    refine c_region ?_
    refine t_q (q_add_i64 rfl rfl (by omega)) ?_
    refine t_q (q_mv (.int _ _) rfl) ?_
    refine t_nil ?_
    exact ⟨k - 1, by omega, j + 1, rfl, by omega, by omega, hS.recast (congrArg (blkA g5 32 ·) ((tset (n := n) (s := oJ s v j) (i := j) (x := orT s v j) (by omega)).trans (congrArg (tcs n) oJ_more)))⟩
  · intro hc2
    have hc2d := of_decide_eq_false hc2
    obtain rfl : j = n.toNat := by omega
    refine c_exit ?_
    refine ite_t rfl ?_
    refine c_seq ?_
    refine c_region ?_
    refine t_q (q_fieldAddr 0 Try.runUnderlying32 rfl Try.sizeOf3 (by decide) rfl rfl) ?_
    refine t_q (q_load1 Try.isAgg3 rfl (hS.cell (by repeat first | exact .here _ _ | assumption | apply Pick.there) rfl)) ?_
    refine t_q (q_gtr rfl rfl) ?_
    refine t_q (q_mv (.bool _) rfl) ?_
    refine t_case 26 rfl ?_ ?_
    · intro hg7
      have hg7d := of_decide_eq_true hg7
      refine t_yes rfl rfl hg7 ?_
      refine t_q (q_mv (.int _ _) rfl) ?_
      refine t_yes rfl rfl hg7 ?_
      refine t_call Try.call71 (bit_calls) rfl ?_
      rintro e w ⟨rfl, hT⟩
      refine ⟨_, rfl, ?_⟩
      replace hS := hS.after hT
      refine t_yes rfl rfl hg7 ?_
      refine t_q (q_neq rfl rfl) ?_
      refine t_q (q_pick_t rfl hg7) ?_
      refine t_q (q_mv (.bool _) rfl) ?_
      refine t_case 31 rfl ?_ ?_
      · intro hg10
        have hg10d := of_decide_eq_true hg10
        refine t_yes rfl rfl hg10 ?_
        refine t_q (q_fieldAddr 1 Try.runUnderlying32 rfl Try.sizeOf30 (by decide) rfl rfl) ?_
        refine t_yes rfl rfl hg10 ?_
        refine t_q (q_load_sub Try.isAgg30 Try.sizeOf30 rfl (hS.blk (by repeat first | exact .here _ _ | assumption | apply Pick.there)) (by show 1 + 7 ≤ 8; omega)) ?_
        refine t_yes rfl rfl hg10 ?_
        refine t_q (q_fieldAddr 1 Try.runUnderlying32 rfl Try.sizeOf30 (by decide) rfl rfl) ?_
        refine t_yes rfl rfl hg10 ?_
        refine t_q (q_load_sub Try.isAgg30 Try.sizeOf30 rfl (hS.blk (by repeat first | exact .here _ _ | assumption | apply Pick.there)) (by show 1 + 7 ≤ 8; omega)) ?_
        refine t_yes rfl rfl hg10 ?_
        refine t_q (q_eql_arr (sl (oJ s v n.toNat)) (sl s) Try.underlying30 Try.underlying26 (by kernel_rfl) (by kernel_rfl) (by kernel_rfl) rfl rfl rfl rfl (sl_wf (oJ_b hs v n.toNat)) (sl_wf hs)) ?_
        refine t_q (q_pick_t rfl hg10) ?_
        refine t_q (q_as (.bool _) rfl) ?_
        refine t_nil ?_
        refine c_ret ?_
        refine r_one rfl rfl ?_
        refine ⟨congrArg (fun b => Ending.returned (.bool b)) ?_, hS.nil⟩
        unfold allT
        first | (rw [all_eq hn, decide_eq_true (show 0 < n by omega), decide_eq_true (show bitN v ≠ 0 by omega)]; rfl) | (rw [decide_eq_false (show ¬ 0 < n by omega)]; rfl) | (rw [decide_eq_false (show ¬ bitN v ≠ 0 by omega), Bool.false_and, Bool.and_false])
      · intro hg10
        have hg10d := of_decide_eq_false hg10
        refine t_no rfl rfl (by rw [hg10]; decide) ?_
        refine t_no rfl rfl (by rw [hg10]; decide) ?_
        refine t_no rfl rfl (by rw [hg10]; decide) ?_
        refine t_no rfl rfl (by rw [hg10]; decide) ?_
        refine t_no rfl rfl (by rw [hg10]; decide) ?_
        refine t_q (q_pick_f rfl hg10) ?_
        refine t_q (q_as (.bool _) rfl) ?_
        refine t_nil ?_
        refine c_ret ?_
        refine r_one rfl rfl ?_
        refine ⟨congrArg (fun b => Ending.returned (.bool b)) ?_, hS.nil⟩
        unfold allT
        first | (rw [all_eq hn, decide_eq_true (show 0 < n by omega), decide_eq_true (show bitN v ≠ 0 by omega)]; rfl) | (rw [decide_eq_false (show ¬ 0 < n by omega)]; rfl) | (rw [decide_eq_false (show ¬ bitN v ≠ 0 by omega), Bool.false_and, Bool.and_false])
    · intro hg7
      have hg7d := of_decide_eq_false hg7
      refine t_no rfl rfl (by rw [hg7]; decide) ?_
      refine t_no rfl rfl (by rw [hg7]; decide) ?_
      refine t_no rfl rfl (by rw [hg7]; decide) ?_
      refine t_q (q_pick_f rfl hg7) ?_
      refine t_q (q_mv (.bool _) rfl) ?_
      refine t_no rfl rfl (by decide) ?_
      refine t_no rfl rfl (by decide) ?_
      refine t_no rfl rfl (by decide) ?_
      refine t_no rfl rfl (by decide) ?_
      refine t_no rfl rfl (by decide) ?_
      refine t_q (q_pick_f rfl rfl) ?_
      refine t_q (q_as (.bool _) rfl) ?_
      refine t_nil ?_
      refine c_ret ?_
      refine r_one rfl rfl ?_
      refine ⟨congrArg (fun b => Ending.returned (.bool b)) ?_, hS.nil⟩
      unfold allT
      first | (rw [all_eq hn, decide_eq_true (show 0 < n by omega), decide_eq_true (show bitN v ≠ 0 by omega)]; rfl) | (rw [decide_eq_false (show ¬ 0 < n by omega)]; rfl) | (rw [decide_eq_false (show ¬ bitN v ≠ 0 by omega), Bool.false_and, Bool.and_false])
end Go.Proofs.Ytmgobaojioaioaa
