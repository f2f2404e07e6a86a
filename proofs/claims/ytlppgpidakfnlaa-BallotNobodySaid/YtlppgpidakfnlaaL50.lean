/- A ballot that is nil, or that no call made, tells the term 0, and nobody: the walk. -/
import Derived.Test.YtlppgpidakfnlaaBk
namespace Go.Proofs.Ytlppgpidakfnlaa
open Go Go.RowKit Go.Lib
variable {W : World}
def bnp (g15 j : Nat) : Value := if j = 0 then .pointer none else .pointer (some ⟨g15, 0, none⟩)
attribute [local irreducible] blkA rowA rdrA rdO dskA blA
theorem term_nb {w : World} {L R : List Asn} {g15 j : Nat}  (hS : St W w L) (pk : Pick L (blkA g15 107 [.pointer none, .int .i64 0, .int .i64 0, .int .i64 0, .int .i64 0, .int .u64 0, .int .u64 0, .bool false]) R) : Calls Try.prog 53 #[bnp g15 j] w fun e w' => e = .returned (.int .u64 0) ∧ St W w' (blkA g15 107 [.pointer none, .int .i64 0, .int .i64 0, .int .i64 0, .int .i64 0, .int .u64 0, .int .u64 0, .bool false] :: R) := by
  replace hS := hS.pick pk
  unfold bnp
  by_cases h : j = 0
  · rw [if_pos h]
    refine (bterm_nil (W := w)).mono fun e w' hh => ⟨hh.1, hS.after hh.2⟩
  · rw [if_neg h]
    exact bterm_zero hS (.here _ _)
theorem vote_nb {w : World} {L R : List Asn} {g15 j : Nat}  (hS : St W w L) (pk : Pick L (blkA g15 107 [.pointer none, .int .i64 0, .int .i64 0, .int .i64 0, .int .i64 0, .int .u64 0, .int .u64 0, .bool false]) R) : Calls Try.prog 54 #[bnp g15 j] w fun e w' => e = .returned (.int .i64 (-1)) ∧ St W w' (blkA g15 107 [.pointer none, .int .i64 0, .int .i64 0, .int .i64 0, .int .i64 0, .int .u64 0, .int .u64 0, .bool false] :: R) := by
  replace hS := hS.pick pk
  unfold bnp
  by_cases h : j = 0
  · rw [if_pos h]
    refine (bvote_nil (W := w)).mono fun e w' hh => ⟨hh.1, hS.after hh.2⟩
  · rw [if_neg h]
    exact bvote_zero hS (.here _ _)
theorem broken_nb {w : World} {L R : List Asn} {g15 j : Nat}  (hS : St W w L) (pk : Pick L (blkA g15 107 [.pointer none, .int .i64 0, .int .i64 0, .int .i64 0, .int .i64 0, .int .u64 0, .int .u64 0, .bool false]) R) : Calls Try.prog 55 #[bnp g15 j] w fun e w' => e = .returned (.bool false) ∧ St W w' (blkA g15 107 [.pointer none, .int .i64 0, .int .i64 0, .int .i64 0, .int .i64 0, .int .u64 0, .int .u64 0, .bool false] :: R) := by
  replace hS := hS.pick pk
  unfold bnp
  by_cases h : j = 0
  · rw [if_pos h]
    refine (bbroken_nil (W := w)).mono fun e w' hh => ⟨hh.1, hS.after hh.2⟩
  · rw [if_neg h]
    exact bbroken_zero hS (.here _ _)
theorem save_nb {w : World} {L R : List Asn} {g15 j : Nat} {t v : Int} (hS : St W w L) (pk : Pick L (blkA g15 107 [.pointer none, .int .i64 0, .int .i64 0, .int .i64 0, .int .i64 0, .int .u64 0, .int .u64 0, .bool false]) R) : Calls Try.prog 49 #[bnp g15 j, .int .u64 t, .int .i64 v] w fun e w' => e = .returned (.int .i64 1) ∧ St W w' (blkA g15 107 [.pointer none, .int .i64 0, .int .i64 0, .int .i64 0, .int .i64 0, .int .u64 0, .int .u64 0, .bool false] :: R) := by
  replace hS := hS.pick pk
  unfold bnp
  by_cases h : j = 0
  · rw [if_pos h]
    refine (bsave_nil (W := w) (t := t) (v := v)).mono fun e w' hh => ⟨hh.1, hS.after hh.2⟩
  · rw [if_neg h]
    exact bsave_zero (t := t) (v := v) hS (.here _ _)
set_option maxHeartbeats 1000000 in
set_option maxRecDepth 100000 in
theorem BallotNobody_calls {t v : Int} : Calls Try.prog 13 #[.int .u64 t, .int .i64 v] W fun e w' => e = .returned (.bool true) ∧ St W w' [] := by
  have hS := St.init W
  refine calls_of_wpE (args := [_, _]) Try.func13 rfl rfl rfl ?_
  refine c_seq ?_
  refine c_region ?_
  refine t_q (q_assign) ?_
  refine t_nil ?_
  refine c_seq ?_
  refine c_region ?_
  refine t_q (q_assign) ?_
  refine t_nil ?_
  refine c_seq ?_
  refine c_seq ?_
  refine c_region ?_
  refine t_q (q_mv (.pointer _) rfl) ?_
  refine t_q (q_build (qs := [(0, 1), (1, 2), (3, 1), (4, 1), (5, 2), (7, 1)]) [(.pointer _), (.int _ _), (.int _ _), (.int _ _), (.int _ _), (.int _ _), (.int _ _), (.bool _)] Try.zeroValue107 Try.runUnderlying107 ⟨rfl, Try.sizeOf58, rfl, Try.sizeOf73, rfl, Try.sizeOf3, rfl, Try.sizeOf3, rfl, Try.sizeOf105, rfl, Try.sizeOf4, trivial⟩ rfl rfl) ?_
  refine t_box (v := (.agg _)) rfl rfl hS (fun g15 w hS => ?_)
  replace hS := hS.recast (show blkA g15 107 _ = blkA g15 107 [.pointer none, .int .i64 0, .int .i64 0, .int .i64 0, .int .i64 0, .int .u64 0, .int .u64 0, .bool false] from rfl)
  refine t_buildSlice Try.runUnderlying108 Try.sizeOf85 Try.zeroValue85 rfl rfl (by intro v hv; simp at hv; try (first | (subst hv; rfl) | (rcases hv with rfl | rfl <;> rfl))) (by decide) (by decide) hS (fun g16 w hS => ?_)
  replace hS := hS.recast (show _ = rowA 85 1 (some ⟨g16, 0, none⟩) 2 2 [.pointer none, .pointer (some ⟨g15, 0, none⟩)] from rfl)
  refine t_q (q_len_slice Try.runUnderlying108 rfl) ?_
  refine t_q (q_move) ?_
  refine t_nil ?_
  refine c_block ?_
  refine c_loop [4, 7, 18, 19, 20, 21, 22, 23, 24, 25, 26, 27, 28, 29, 30, 31, 32, 33, 34, 35, 36, 37, 38, 39, 40, 41] (fun k σ w => ∃ j : Nat, σ 18 = .int .i64 (j : Int) ∧ j ≤ 2 ∧ 2 - j ≤ k ∧ St W w [rowA 85 1 (some ⟨g16, 0, none⟩) 2 2 [.pointer none, .pointer (some ⟨g15, 0, none⟩)], blkA g15 107 [.pointer none, .int .i64 0, .int .i64 0, .int .i64 0, .int .i64 0, .int .u64 0, .int .u64 0, .bool false]]) (2) rfl (⟨0, rfl, by omega, by omega, hS⟩) ?_
  skip
  rintro k σ w ⟨j, h18, hj, hk, hS⟩
  refine c_know 18 h18 ?_
  clear h18
  refine c_seq ?_
  refine c_region ?_
  refine t_q (q_lss rfl rfl) ?_
  refine t_nil ?_
  refine c_seq ?_
  refine c_cond rfl ?_ ?_
  · intro hc2
    have hc2d := of_decide_eq_true hc2
    refine c_skip ?_
    refine c_seq ?_
    refine c_block ?_
    refine c_seq ?_
    refine c_region ?_
    first | refine t_index_nat Try.runUnderlying108 Try.sizeOf85 ((own_rd (f := fun i => [if i = 0 then .pointer none else .pointer (some ⟨g15, 0, none⟩)]) (hS.row (A := some ⟨g16, 0, none⟩) (by repeat first | exact .here _ _ | assumption | apply Pick.there)) (fun i hi => rfl) (fun i q hi hq => by (match i, hi with | 0, _ => (match q, hq with | 0, _ => rfl) | 1, _ => (match q, hq with | 0, _ => rfl))))) rfl rfl (by omega) (fun ad3 hl3 hx3 => ?_) | refine t_index Try.runUnderlying108 Try.sizeOf85 ((own_rd (f := fun i => [if i = 0 then .pointer none else .pointer (some ⟨g15, 0, none⟩)]) (hS.row (A := some ⟨g16, 0, none⟩) (by repeat first | exact .here _ _ | assumption | apply Pick.there)) (fun i hi => rfl) (fun i q hi hq => by (match i, hi with | 0, _ => (match q, hq with | 0, _ => rfl) | 1, _ => (match q, hq with | 0, _ => rfl))))) rfl rfl (by omega) (fun ad3 hl3 hx3 => ?_)
    refine t_q (q_cast (v' := bnp g15 j) (q_load1 Try.isAgg85 rfl (hx3 0 _ rfl)) (rfl)) ?_
    refine t_q (q_as (bnp g15 j) rfl) ?_
    refine t_nil ?_
    refine c_seq ?_
    refine c_region ?_
    refine t_q (q_mv (bnp g15 j) rfl) ?_
    refine t_call Try.call53 (term_nb (j := j) hS (by repeat first | exact .here _ _ | assumption | apply Pick.there)) rfl ?_
    rintro e w ⟨rfl, hS⟩
    refine ⟨_, rfl, ?_⟩
    refine t_q (q_cast (v' := .bool false) (q_neq rfl rfl) (by rfl)) ?_
    refine t_q (q_mv (.bool _) rfl) ?_
    refine t_yes rfl rfl rfl ?_
    refine t_q (q_mv (bnp g15 j) rfl) ?_
    refine t_yes rfl rfl rfl ?_
    refine t_call Try.call54 (vote_nb (j := j) hS (by repeat first | exact .here _ _ | assumption | apply Pick.there)) rfl ?_
    rintro e w ⟨rfl, hS⟩
    refine ⟨_, rfl, ?_⟩
    refine t_yes rfl rfl rfl ?_
    refine t_q (q_cast (v' := .bool false) (q_neq rfl rfl) (by rfl)) ?_
    refine t_q (q_pick_f rfl rfl) ?_
    refine t_q (q_mv (.bool _) rfl) ?_
    refine t_yes rfl rfl rfl ?_
    refine t_q (q_mv (bnp g15 j) rfl) ?_
    refine t_yes rfl rfl rfl ?_
    refine t_q (q_mv (.int _ _) rfl) ?_
    refine t_yes rfl rfl rfl ?_
    refine t_q (q_mv (.int _ _) rfl) ?_
    refine t_yes rfl rfl rfl ?_
    refine t_call Try.call49 (save_nb (j := j) (t := t) (v := v) hS (by repeat first | exact .here _ _ | assumption | apply Pick.there)) rfl ?_
    rintro e w ⟨rfl, hS⟩
    refine ⟨_, rfl, ?_⟩
    refine t_yes rfl rfl rfl ?_
    refine t_q (q_cast (v' := .bool false) (q_neq rfl rfl) (by rfl)) ?_
    refine t_q (q_pick_f rfl rfl) ?_
    refine t_q (q_mv (.bool _) rfl) ?_
    refine t_yes rfl rfl rfl ?_
    refine t_q (q_mv (bnp g15 j) rfl) ?_
    refine t_yes rfl rfl rfl ?_
    refine t_call Try.call55 (broken_nb (j := j) hS (by repeat first | exact .here _ _ | assumption | apply Pick.there)) rfl ?_
    rintro e w ⟨rfl, hS⟩
    refine ⟨_, rfl, ?_⟩
    refine t_q (q_pick_f rfl rfl) ?_
    refine t_nil ?_
    refine c_cond_f rfl rfl ?_
    refine c_skip ?_
    refine c_region ?_
    refine t_q (q_add_i64 rfl rfl (by omega)) ?_
    refine t_q (q_mv (.int _ _) rfl) ?_
    refine t_nil ?_
    exact ⟨k - 1, by omega, j + 1, rfl, by omega, by omega, (((hS.pick (A := blkA g15 107 [.pointer none, .int .i64 0, .int .i64 0, .int .i64 0, .int .i64 0, .int .u64 0, .int .u64 0, .bool false]) (by repeat first | exact .here _ _ | assumption | apply Pick.there)).pick (A := rowA 85 1 (some ⟨g16, 0, none⟩) 2 2 [.pointer none, .pointer (some ⟨g15, 0, none⟩)]) (by repeat first | exact .here _ _ | assumption | apply Pick.there))).front2⟩
  · intro hc2
    have hc2d := of_decide_eq_false hc2
    obtain rfl : j = 2 := by omega
    refine c_exit ?_
    refine ite_t rfl ?_
    refine c_seq ?_
    refine c_region ?_
    refine t_call Try.call32 (dnew_calls hS) rfl ?_
    rintro e w ⟨gd, rfl, hS⟩
    refine ⟨_, rfl, ?_⟩
    refine t_q (q_as (.pointer _) rfl) ?_
    refine t_nil ?_
    refine c_seq ?_
    refine c_region ?_
    refine t_q (q_mv (.pointer _) rfl) ?_
    refine t_call Try.call42 (arm_calls (n := 0) hS (by repeat first | exact .here _ _ | assumption | apply Pick.there)) rfl ?_
    rintro e w ⟨rfl, hS⟩
    refine ⟨_, rfl, ?_⟩
    refine t_nil ?_
    refine c_seq ?_
    refine c_region ?_
    refine t_q (q_mv (.pointer _) rfl) ?_
    refine t_call Try.call43 (syn_calls (i := 0) hS (by repeat first | exact .here _ _ | assumption | apply Pick.there) (show DGood { D0 with fuse := 0 } from ⟨DGood.zero.sync, DGood.zero.len, by decide, by decide⟩) (by decide)) rfl ?_
    rintro e w ⟨rfl, hS⟩
    refine ⟨_, rfl, ?_⟩
    refine t_nil ?_
    refine c_seq ?_
    refine c_region ?_
    refine t_q (q_mv (.pointer _) rfl) ?_
    refine t_call Try.call47 (bopen_gone (n := 0) (ea := 64) hS (by repeat first | exact .here _ _ | assumption | apply Pick.there) (by rfl)) rfl ?_
    rintro e w ⟨rfl, hS⟩
    refine ⟨_, rfl, ?_⟩
    refine t_q (q_mv (.tuple _) rfl) ?_
    refine t_q (q_extract rfl rfl) ?_
    refine t_q (q_extract rfl rfl) ?_
    refine t_q (q_as (.pointer _) rfl) ?_
    refine t_q (q_as (.int _ _) rfl) ?_
    refine t_nil ?_
    refine c_seq ?_
    refine c_region ?_
    refine t_call Try.call47 (bopen_nil (W := w) (n := 0) (ea := 64)) rfl ?_
    rintro e w ⟨rfl, hT⟩
    refine ⟨_, rfl, ?_⟩
    replace hS := hS.after hT
    refine t_q (q_mv (.tuple _) rfl) ?_
    refine t_q (q_extract rfl rfl) ?_
    refine t_q (q_extract rfl rfl) ?_
    refine t_q (q_as (.pointer _) rfl) ?_
    refine t_q (q_as (.int _ _) rfl) ?_
    refine t_nil ?_
    refine c_seq ?_
    refine c_region ?_
    refine t_q (q_mv (.pointer _) rfl) ?_
    refine t_q (q_eql_ptr_nil Try.runUnderlying85 rfl rfl) ?_
    refine t_q (q_mv (.bool _) rfl) ?_
    refine t_yes rfl rfl rfl ?_
    refine t_q (q_mv (.int _ _) rfl) ?_
    refine t_yes rfl rfl rfl ?_
    refine t_q (q_cast (v' := .bool true) (q_eql rfl rfl) (by rfl)) ?_
    refine t_q (q_pick_t rfl rfl) ?_
    refine t_q (q_mv (.bool _) rfl) ?_
    refine t_yes rfl rfl rfl ?_
    refine t_q (q_mv (.pointer _) rfl) ?_
    refine t_yes rfl rfl rfl ?_
    refine t_q (q_eql_ptr_nil Try.runUnderlying85 rfl rfl) ?_
    refine t_q (q_pick_t rfl rfl) ?_
    refine t_q (q_mv (.bool _) rfl) ?_
    refine t_yes rfl rfl rfl ?_
    refine t_q (q_mv (.int _ _) rfl) ?_
    refine t_yes rfl rfl rfl ?_
    refine t_q (q_cast (v' := .bool true) (q_eql rfl rfl) (by rfl)) ?_
    refine t_q (q_pick_t rfl rfl) ?_
    refine t_q (q_mv (.bool _) rfl) ?_
    refine t_yes rfl rfl rfl ?_
    refine t_call Try.call46 (blives_calls) rfl ?_
    rintro e w ⟨rfl, hT⟩
    refine ⟨_, rfl, ?_⟩
    replace hS := hS.after hT
    refine t_q (q_pick_t rfl rfl) ?_
    refine t_q (q_as (.bool _) rfl) ?_
    refine t_nil ?_
    refine c_ret ?_
    refine r_one rfl rfl ?_
    exact ⟨rfl, hS.nil⟩
end Go.Proofs.Ytlppgpidakfnlaa
