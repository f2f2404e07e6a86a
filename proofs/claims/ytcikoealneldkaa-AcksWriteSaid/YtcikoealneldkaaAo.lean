/- The table tells what the document's tells. -/
import Derived.Test.YtcikoealneldkaaAn
namespace Go.Proofs.Ytcikoealneldkaa
open Go Go.RowKit Go.Lib
variable {W : World}
def ofF (L : AckL) : Nat → Int := fun i => ((ofN L (i : Int) : Nat) : Int)
def AckOk (n : Int) (L : AckL) : Prop := ∀ a ∈ L, (0 ≤ a.1 ∧ a.1 < n) ∧ (1 ≤ a.2 ∧ a.2 ≤ 32)
theorem ofF_b (L : AckL) : Sb (ofF L) := fun i => by have := ofN_lt L (i : Int); unfold ofF; omega
theorem like_of {n r : Int} {L : AckL} (h : AckOk n L) : ofT n (ofF L) r = (ofN L r : Int) := by
  unfold ofT ofF
  split
  · rw [show ((r.toNat : Nat) : Int) = r from by omega]
  · rw [ofN_out L fun a ha => by have := h a ha; omega]; rfl
theorem like_has {n r v : Int} {L : AckL} (h : AckOk n L) : decide (((ofT n (ofF L) r).toNat &&& bitN v : Nat) ≠ 0) = hasL L r v := by
  rw [like_of h, Int.toNat_natCast, ofN_has L fun a ha => (h a ha).2]
theorem hasL_v {n r v : Int} {L : AckL} (h : AckOk n L) (hv : ¬ (1 ≤ v ∧ v ≤ 32)) : hasL L r v = false := by
  unfold hasL
  rw [List.any_eq_false]
  intro a ha
  have := h a ha
  simp only [Bool.and_eq_true, decide_eq_true_eq]
  omega
theorem like_all {n v : Int} {L : AckL} (h : AckOk n L) : allT n (ofF L) v = allL n L v := by
  rcases Int.lt_or_le 0 n with hn | hn
  case inr => unfold allT allL; rw [decide_eq_false (show ¬ 0 < n by omega)]; rfl
  unfold allT allL
  rw [decide_eq_true (show 0 < n by omega), Bool.true_and, Bool.true_and]
  by_cases hv : 1 ≤ v ∧ v ≤ 32
  · rw [decide_eq_true (show bitN v ≠ 0 from fun hz => bitN_zero.1 hz hv), Bool.true_and, decide_eq_decide]
    have key : ∀ i : Nat, orT (ofF L) v i = ofF L i ↔ hasL L (i : Int) v = true := fun i => by
      have h1 := or_same (L := L) (r := (i : Int)) hv
      rw [← h1, decide_eq_true_eq]
      unfold orT ofF
      rw [Int.toNat_natCast]
      omega
    exact ⟨fun hh i hi => (key i).1 (hh i hi), fun hh i hi => (key i).2 (hh i hi)⟩
  · rw [bitN_out hv, decide_eq_false (show ¬ (0 : Nat) ≠ 0 by decide), Bool.false_and, eq_comm, decide_eq_false_iff_not]
    intro hh
    have := hh 0 (by omega)
    rw [hasL_v h hv] at this
    cases this

set_option maxRecDepth 100000 in
theorem like_calls {A : Option Addr} {c : Nat} {L : AckL} {n : Int} (hR : RdA W A L) {r v : Int} (hm : L.length ≤ 1000000) (hn : 0 ≤ n ∧ n ≤ 7) (hok : AckOk n L) : Calls Try.prog 37 #[.agg (tcs n (ofF L)).toArray, .agg #[.int .i64 n, .slice A L.length c], .int .i64 r, .int .i64 v] W fun e w' => e = .returned (.bool true) ∧ St W w' [] := by
  have hS := St.init W
  have hs := ofF_b L
  refine calls_of_wpE (args := [_, _, _, _]) Try.func37 rfl rfl rfl ?_
  refine c_seq ?_
  refine c_region ?_
  refine t_box (v := (.agg _)) rfl rfl hS (fun g4 w hS => ?_)
  refine t_box (v := (.agg _)) rfl rfl hS (fun g5 w hS => ?_)
  refine t_q (q_assign) ?_
  refine t_nil ?_
  refine c_seq ?_
  refine c_seq ?_
  refine c_region ?_
  refine t_q (q_move) ?_
  refine t_nil ?_
  refine c_block ?_
  refine c_loop [8, 9, 10, 11, 12, 13, 14, 15, 16, 17, 18, 19, 20] (fun k σ w => ∃ j : Nat, σ 10 = .int .i64 (j : Int) ∧ j ≤ 7 ∧ 7 - j ≤ k ∧ St W w [blkA g4 27 (tcs n (ofF L)), blkA g5 35 [.int .i64 n, .slice A L.length c]]) (7) rfl (⟨0, rfl, by omega, by omega, hS.pick (.there (.here _ _))⟩) ?_
  skip
  rintro k σ w ⟨j, h10, hj, hk, hS⟩
  refine c_know 10 h10 ?_
  clear h10
  refine c_seq ?_
  refine c_region ?_
  refine t_q (q_lss rfl rfl) ?_
  refine t_nil ?_
  refine c_seq ?_
  refine c_cond rfl ?_ ?_
  · intro hc2
    have hc2d := of_decide_eq_true hc2
    refine c_skip ?_
    refine c_seq ?_
    refine c_block ?_
    refine c_seq ?_
    refine c_region ?_
    refine t_q (q_mv (.int _ _) rfl) ?_
    refine t_q (q_as (.int _ _) rfl) ?_
    refine t_nil ?_
    refine c_seq ?_
    refine c_draw ?_
    refine d_keep2 (blkA g4 27 (tcs n (ofF L))) (blkA g5 35 [.int .i64 n, .slice A L.length c]) 7 [0, 1, 2, 3, 4, 5, 6] [0, 1, 2, 3, 4, 5, 6] hS rfl (by kernel_rfl) (by kernel_rfl) (by kernel_rfl) (by kernel_rfl) (fun hap hsel w hS => ?_)
    refine p_q hap hsel 0 rfl rfl ⟨_, ((hS.pick (A := blkA g5 35 [.int .i64 n, .slice A L.length c]) (by repeat first | exact .here _ _ | assumption | apply Pick.there)).pick (A := blkA g4 27 (tcs n (ofF L))) (by repeat first | exact .here _ _ | assumption | apply Pick.there))⟩ (fun w hI => q_load_blk Try.isAgg27 Try.sizeOf27 rfl (hI.choose_spec.blk (by repeat first | exact .here _ _ | assumption | apply Pick.there)) rfl) ?_
    refine p_q hap hsel 1 rfl rfl ⟨_, ((hS.pick (A := blkA g5 35 [.int .i64 n, .slice A L.length c]) (by repeat first | exact .here _ _ | assumption | apply Pick.there)).pick (A := blkA g4 27 (tcs n (ofF L))) (by repeat first | exact .here _ _ | assumption | apply Pick.there))⟩ (fun w hI => q_mv (.int _ _) rfl) ?_
    refine p_q hap hsel 3 rfl rfl ⟨_, ((hS.pick (A := blkA g5 35 [.int .i64 n, .slice A L.length c]) (by repeat first | exact .here _ _ | assumption | apply Pick.there)).pick (A := blkA g4 27 (tcs n (ofF L))) (by repeat first | exact .here _ _ | assumption | apply Pick.there))⟩ (fun w hI => q_load_blk Try.isAgg35 Try.sizeOf35 rfl (hI.choose_spec.blk (by repeat first | exact .here _ _ | assumption | apply Pick.there)) rfl) ?_
    refine p_q hap hsel 4 rfl rfl ⟨_, ((hS.pick (A := blkA g5 35 [.int .i64 n, .slice A L.length c]) (by repeat first | exact .here _ _ | assumption | apply Pick.there)).pick (A := blkA g4 27 (tcs n (ofF L))) (by repeat first | exact .here _ _ | assumption | apply Pick.there))⟩ (fun w hI => q_mv (.int _ _) rfl) ?_
    refine p_one 2 rfl (by kernel_rfl) ?_
    refine t_call Try.call137 (of_calls (by omega)) rfl ?_
    rintro e w ⟨rfl, hT⟩
    refine ⟨_, rfl, ?_⟩
    replace hS := hS.after hT
    refine t_nil ?_
    refine ⟨.inr ⟨_, ((hS.pick (A := blkA g5 35 [.int .i64 n, .slice A L.length c]) (by repeat first | exact .here _ _ | assumption | apply Pick.there)).pick (A := blkA g4 27 (tcs n (ofF L))) (by repeat first | exact .here _ _ | assumption | apply Pick.there))⟩, ?_⟩
    refine p_one 5 rfl (by kernel_rfl) ?_
    refine t_call Try.call138 (of2_calls (hR.st hS) hm) rfl ?_
    rintro e w ⟨rfl, hT⟩
    refine ⟨_, rfl, ?_⟩
    replace hS := hS.after hT
    refine t_nil ?_
    refine ⟨.inr ⟨_, ((hS.pick (A := blkA g5 35 [.int .i64 n, .slice A L.length c]) (by repeat first | exact .here _ _ | assumption | apply Pick.there)).pick (A := blkA g4 27 (tcs n (ofF L))) (by repeat first | exact .here _ _ | assumption | apply Pick.there))⟩, ?_⟩
    refine p_q hap hsel 6 rfl rfl ⟨_, ((hS.pick (A := blkA g5 35 [.int .i64 n, .slice A L.length c]) (by repeat first | exact .here _ _ | assumption | apply Pick.there)).pick (A := blkA g4 27 (tcs n (ofF L))) (by repeat first | exact .here _ _ | assumption | apply Pick.there))⟩ (fun w hI => (q_cast (v' := .bool false) (q_neq rfl rfl) (by rw [like_of hok]; simp))) ?_
    refine p_end (by kernel_rfl) ?_
    refine c_cond_f rfl rfl ?_
    refine c_skip ?_
    refine c_region ?_
    refine t_q (q_add_i64 rfl rfl (by omega)) ?_
    refine t_q (q_mv (.int _ _) rfl) ?_
    refine t_nil ?_
    exact ⟨k - 1, by omega, j + 1, rfl, by omega, by omega, (hS.pick (A := blkA g5 35 _) (by repeat first | exact .here _ _ | assumption | apply Pick.there)).pick (A := blkA g4 27 _) (by repeat first | exact .here _ _ | assumption | apply Pick.there)⟩
  · intro hc2
    have hc2d := of_decide_eq_false hc2
    refine c_exit ?_
    refine ite_t rfl ?_
    refine c_seq ?_
    refine c_draw ?_
    refine d_keep2 (blkA g4 27 (tcs n (ofF L))) (blkA g5 35 [.int .i64 n, .slice A L.length c]) 35 [0, 1, 2, 3, 4, 5, 6, 7, 8, 9, 10, 11, 12, 13, 14, 15, 16, 17, 18, 19, 20, 21, 22, 23, 24, 25, 26, 27, 28, 29, 30, 31, 32, 33, 34] [0, 1, 2, 3, 4, 5, 6, 7, 8, 9, 10, 11, 12, 13, 14, 15, 16, 17, 18, 19, 20, 21, 22, 23, 24, 25, 26, 27, 28, 29, 30, 31, 32, 33, 34] hS rfl (by kernel_rfl) (by kernel_rfl) (by kernel_rfl) (by kernel_rfl) (fun hap hsel w hS => ?_)
    refine p_q hap hsel 0 rfl rfl ⟨_, ((hS.pick (A := blkA g5 35 [.int .i64 n, .slice A L.length c]) (by repeat first | exact .here _ _ | assumption | apply Pick.there)).pick (A := blkA g4 27 (tcs n (ofF L))) (by repeat first | exact .here _ _ | assumption | apply Pick.there))⟩ (fun w hI => q_load_blk Try.isAgg27 Try.sizeOf27 rfl (hI.choose_spec.blk (by repeat first | exact .here _ _ | assumption | apply Pick.there)) rfl) ?_
    refine p_q hap hsel 2 rfl rfl ⟨_, ((hS.pick (A := blkA g5 35 [.int .i64 n, .slice A L.length c]) (by repeat first | exact .here _ _ | assumption | apply Pick.there)).pick (A := blkA g4 27 (tcs n (ofF L))) (by repeat first | exact .here _ _ | assumption | apply Pick.there))⟩ (fun w hI => q_fieldAddr 0 Try.runUnderlying35 rfl Try.sizeOf3 (by decide) rfl rfl) ?_
    refine p_q hap hsel 3 rfl rfl ⟨_, ((hS.pick (A := blkA g5 35 [.int .i64 n, .slice A L.length c]) (by repeat first | exact .here _ _ | assumption | apply Pick.there)).pick (A := blkA g4 27 (tcs n (ofF L))) (by repeat first | exact .here _ _ | assumption | apply Pick.there))⟩ (fun w hI => q_load1 Try.isAgg3 rfl (hI.choose_spec.cell (by repeat first | exact .here _ _ | assumption | apply Pick.there) rfl)) ?_
    refine p_one 1 rfl (by kernel_rfl) ?_
    refine t_call Try.call31 (reps_calls) rfl ?_
    rintro e w ⟨rfl, hT⟩
    refine ⟨_, rfl, ?_⟩
    replace hS := hS.after hT
    refine t_nil ?_
    refine ⟨.inr ⟨_, ((hS.pick (A := blkA g5 35 [.int .i64 n, .slice A L.length c]) (by repeat first | exact .here _ _ | assumption | apply Pick.there)).pick (A := blkA g4 27 (tcs n (ofF L))) (by repeat first | exact .here _ _ | assumption | apply Pick.there))⟩, ?_⟩
    refine p_q hap hsel 4 rfl rfl ⟨_, ((hS.pick (A := blkA g5 35 [.int .i64 n, .slice A L.length c]) (by repeat first | exact .here _ _ | assumption | apply Pick.there)).pick (A := blkA g4 27 (tcs n (ofF L))) (by repeat first | exact .here _ _ | assumption | apply Pick.there))⟩ (fun w hI => (q_cast (v' := .bool true) (q_eql rfl rfl) (by simp))) ?_
    refine p_q hap hsel 5 rfl rfl ⟨_, ((hS.pick (A := blkA g5 35 [.int .i64 n, .slice A L.length c]) (by repeat first | exact .here _ _ | assumption | apply Pick.there)).pick (A := blkA g4 27 (tcs n (ofF L))) (by repeat first | exact .here _ _ | assumption | apply Pick.there))⟩ (fun w hI => q_mv (.bool _) rfl) ?_
    refine p_yes hap hsel 6 rfl rfl ⟨_, ((hS.pick (A := blkA g5 35 [.int .i64 n, .slice A L.length c]) (by repeat first | exact .here _ _ | assumption | apply Pick.there)).pick (A := blkA g4 27 (tcs n (ofF L))) (by repeat first | exact .here _ _ | assumption | apply Pick.there))⟩ rfl rfl rfl (fun w hI => q_load_blk Try.isAgg27 Try.sizeOf27 rfl (hI.choose_spec.blk (by repeat first | exact .here _ _ | assumption | apply Pick.there)) rfl) ?_
    refine p_yes hap hsel 7 rfl rfl ⟨_, ((hS.pick (A := blkA g5 35 [.int .i64 n, .slice A L.length c]) (by repeat first | exact .here _ _ | assumption | apply Pick.there)).pick (A := blkA g4 27 (tcs n (ofF L))) (by repeat first | exact .here _ _ | assumption | apply Pick.there))⟩ rfl rfl rfl (fun w hI => q_mv (.int _ _) rfl) ?_
    refine p_yes hap hsel 8 rfl rfl ⟨_, ((hS.pick (A := blkA g5 35 [.int .i64 n, .slice A L.length c]) (by repeat first | exact .here _ _ | assumption | apply Pick.there)).pick (A := blkA g4 27 (tcs n (ofF L))) (by repeat first | exact .here _ _ | assumption | apply Pick.there))⟩ rfl rfl rfl (fun w hI => q_mv (.int _ _) rfl) ?_
    refine p_yes hap hsel 10 rfl rfl ⟨_, ((hS.pick (A := blkA g5 35 [.int .i64 n, .slice A L.length c]) (by repeat first | exact .here _ _ | assumption | apply Pick.there)).pick (A := blkA g4 27 (tcs n (ofF L))) (by repeat first | exact .here _ _ | assumption | apply Pick.there))⟩ rfl rfl rfl (fun w hI => q_load_blk Try.isAgg35 Try.sizeOf35 rfl (hI.choose_spec.blk (by repeat first | exact .here _ _ | assumption | apply Pick.there)) rfl) ?_
    refine p_yes hap hsel 11 rfl rfl ⟨_, ((hS.pick (A := blkA g5 35 [.int .i64 n, .slice A L.length c]) (by repeat first | exact .here _ _ | assumption | apply Pick.there)).pick (A := blkA g4 27 (tcs n (ofF L))) (by repeat first | exact .here _ _ | assumption | apply Pick.there))⟩ rfl rfl rfl (fun w hI => q_mv (.int _ _) rfl) ?_
    refine p_yes hap hsel 12 rfl rfl ⟨_, ((hS.pick (A := blkA g5 35 [.int .i64 n, .slice A L.length c]) (by repeat first | exact .here _ _ | assumption | apply Pick.there)).pick (A := blkA g4 27 (tcs n (ofF L))) (by repeat first | exact .here _ _ | assumption | apply Pick.there))⟩ rfl rfl rfl (fun w hI => q_mv (.int _ _) rfl) ?_
    refine p_one 9 rfl (by kernel_rfl) ?_
    refine t_yes rfl rfl rfl ?_
    refine t_call Try.call139 (has_calls (by omega) hs) rfl ?_
    rintro e w ⟨rfl, hT⟩
    refine ⟨_, rfl, ?_⟩
    replace hS := hS.after hT
    refine t_nil ?_
    refine ⟨.inr ⟨_, ((hS.pick (A := blkA g5 35 [.int .i64 n, .slice A L.length c]) (by repeat first | exact .here _ _ | assumption | apply Pick.there)).pick (A := blkA g4 27 (tcs n (ofF L))) (by repeat first | exact .here _ _ | assumption | apply Pick.there))⟩, ?_⟩
    refine p_one 13 rfl (by kernel_rfl) ?_
    refine t_yes rfl rfl rfl ?_
    refine t_call Try.call140 (has2_calls (hR.st hS) hm) rfl ?_
    rintro e w ⟨rfl, hT⟩
    refine ⟨_, rfl, ?_⟩
    replace hS := hS.after hT
    refine t_nil ?_
    refine ⟨.inr ⟨_, ((hS.pick (A := blkA g5 35 [.int .i64 n, .slice A L.length c]) (by repeat first | exact .here _ _ | assumption | apply Pick.there)).pick (A := blkA g4 27 (tcs n (ofF L))) (by repeat first | exact .here _ _ | assumption | apply Pick.there))⟩, ?_⟩
    refine p_yes hap hsel 14 rfl rfl ⟨_, ((hS.pick (A := blkA g5 35 [.int .i64 n, .slice A L.length c]) (by repeat first | exact .here _ _ | assumption | apply Pick.there)).pick (A := blkA g4 27 (tcs n (ofF L))) (by repeat first | exact .here _ _ | assumption | apply Pick.there))⟩ rfl rfl rfl (fun w hI => (q_cast (v' := .bool true) (q_eql_bool Try.runUnderlying4 rfl rfl) (by rw [like_has hok]; simp))) ?_
    refine p_q hap hsel 15 rfl rfl ⟨_, ((hS.pick (A := blkA g5 35 [.int .i64 n, .slice A L.length c]) (by repeat first | exact .here _ _ | assumption | apply Pick.there)).pick (A := blkA g4 27 (tcs n (ofF L))) (by repeat first | exact .here _ _ | assumption | apply Pick.there))⟩ (fun w hI => q_pick_t rfl rfl) ?_
    refine p_q hap hsel 16 rfl rfl ⟨_, ((hS.pick (A := blkA g5 35 [.int .i64 n, .slice A L.length c]) (by repeat first | exact .here _ _ | assumption | apply Pick.there)).pick (A := blkA g4 27 (tcs n (ofF L))) (by repeat first | exact .here _ _ | assumption | apply Pick.there))⟩ (fun w hI => q_mv (.bool _) rfl) ?_
    refine p_yes hap hsel 17 rfl rfl ⟨_, ((hS.pick (A := blkA g5 35 [.int .i64 n, .slice A L.length c]) (by repeat first | exact .here _ _ | assumption | apply Pick.there)).pick (A := blkA g4 27 (tcs n (ofF L))) (by repeat first | exact .here _ _ | assumption | apply Pick.there))⟩ rfl rfl rfl (fun w hI => q_load_blk Try.isAgg27 Try.sizeOf27 rfl (hI.choose_spec.blk (by repeat first | exact .here _ _ | assumption | apply Pick.there)) rfl) ?_
    refine p_yes hap hsel 18 rfl rfl ⟨_, ((hS.pick (A := blkA g5 35 [.int .i64 n, .slice A L.length c]) (by repeat first | exact .here _ _ | assumption | apply Pick.there)).pick (A := blkA g4 27 (tcs n (ofF L))) (by repeat first | exact .here _ _ | assumption | apply Pick.there))⟩ rfl rfl rfl (fun w hI => q_mv (.int _ _) rfl) ?_
    refine p_yes hap hsel 20 rfl rfl ⟨_, ((hS.pick (A := blkA g5 35 [.int .i64 n, .slice A L.length c]) (by repeat first | exact .here _ _ | assumption | apply Pick.there)).pick (A := blkA g4 27 (tcs n (ofF L))) (by repeat first | exact .here _ _ | assumption | apply Pick.there))⟩ rfl rfl rfl (fun w hI => q_load_blk Try.isAgg35 Try.sizeOf35 rfl (hI.choose_spec.blk (by repeat first | exact .here _ _ | assumption | apply Pick.there)) rfl) ?_
    refine p_yes hap hsel 21 rfl rfl ⟨_, ((hS.pick (A := blkA g5 35 [.int .i64 n, .slice A L.length c]) (by repeat first | exact .here _ _ | assumption | apply Pick.there)).pick (A := blkA g4 27 (tcs n (ofF L))) (by repeat first | exact .here _ _ | assumption | apply Pick.there))⟩ rfl rfl rfl (fun w hI => q_mv (.int _ _) rfl) ?_
    refine p_one 19 rfl (by kernel_rfl) ?_
    refine t_yes rfl rfl rfl ?_
    refine t_call Try.call32 (all_calls (by omega) hs) rfl ?_
    rintro e w ⟨rfl, hT⟩
    refine ⟨_, rfl, ?_⟩
    replace hS := hS.after hT
    refine t_nil ?_
    refine ⟨.inr ⟨_, ((hS.pick (A := blkA g5 35 [.int .i64 n, .slice A L.length c]) (by repeat first | exact .here _ _ | assumption | apply Pick.there)).pick (A := blkA g4 27 (tcs n (ofF L))) (by repeat first | exact .here _ _ | assumption | apply Pick.there))⟩, ?_⟩
    refine p_one 22 rfl (by kernel_rfl) ?_
    refine t_yes rfl rfl rfl ?_
    refine t_call Try.call141 (all2_calls (hR.st hS) hm (by omega)) rfl ?_
    rintro e w ⟨rfl, hT⟩
    refine ⟨_, rfl, ?_⟩
    replace hS := hS.after hT
    refine t_nil ?_
    refine ⟨.inr ⟨_, ((hS.pick (A := blkA g5 35 [.int .i64 n, .slice A L.length c]) (by repeat first | exact .here _ _ | assumption | apply Pick.there)).pick (A := blkA g4 27 (tcs n (ofF L))) (by repeat first | exact .here _ _ | assumption | apply Pick.there))⟩, ?_⟩
    refine p_yes hap hsel 23 rfl rfl ⟨_, ((hS.pick (A := blkA g5 35 [.int .i64 n, .slice A L.length c]) (by repeat first | exact .here _ _ | assumption | apply Pick.there)).pick (A := blkA g4 27 (tcs n (ofF L))) (by repeat first | exact .here _ _ | assumption | apply Pick.there))⟩ rfl rfl rfl (fun w hI => (q_cast (v' := .bool true) (q_eql_bool Try.runUnderlying4 rfl rfl) (by rw [like_all hok]; simp))) ?_
    refine p_q hap hsel 24 rfl rfl ⟨_, ((hS.pick (A := blkA g5 35 [.int .i64 n, .slice A L.length c]) (by repeat first | exact .here _ _ | assumption | apply Pick.there)).pick (A := blkA g4 27 (tcs n (ofF L))) (by repeat first | exact .here _ _ | assumption | apply Pick.there))⟩ (fun w hI => q_pick_t rfl rfl) ?_
    refine p_q hap hsel 25 rfl rfl ⟨_, ((hS.pick (A := blkA g5 35 [.int .i64 n, .slice A L.length c]) (by repeat first | exact .here _ _ | assumption | apply Pick.there)).pick (A := blkA g4 27 (tcs n (ofF L))) (by repeat first | exact .here _ _ | assumption | apply Pick.there))⟩ (fun w hI => q_mv (.bool _) rfl) ?_
    refine p_yes hap hsel 26 rfl rfl ⟨_, ((hS.pick (A := blkA g5 35 [.int .i64 n, .slice A L.length c]) (by repeat first | exact .here _ _ | assumption | apply Pick.there)).pick (A := blkA g4 27 (tcs n (ofF L))) (by repeat first | exact .here _ _ | assumption | apply Pick.there))⟩ rfl rfl rfl (fun w hI => q_load_blk Try.isAgg27 Try.sizeOf27 rfl (hI.choose_spec.blk (by repeat first | exact .here _ _ | assumption | apply Pick.there)) rfl) ?_
    refine p_yes hap hsel 27 rfl rfl ⟨_, ((hS.pick (A := blkA g5 35 [.int .i64 n, .slice A L.length c]) (by repeat first | exact .here _ _ | assumption | apply Pick.there)).pick (A := blkA g4 27 (tcs n (ofF L))) (by repeat first | exact .here _ _ | assumption | apply Pick.there))⟩ rfl rfl rfl (fun w hI => q_mv (.int _ _) rfl) ?_
    refine p_yes hap hsel 29 rfl rfl ⟨_, ((hS.pick (A := blkA g5 35 [.int .i64 n, .slice A L.length c]) (by repeat first | exact .here _ _ | assumption | apply Pick.there)).pick (A := blkA g4 27 (tcs n (ofF L))) (by repeat first | exact .here _ _ | assumption | apply Pick.there))⟩ rfl rfl rfl (fun w hI => q_load_blk Try.isAgg35 Try.sizeOf35 rfl (hI.choose_spec.blk (by repeat first | exact .here _ _ | assumption | apply Pick.there)) rfl) ?_
    refine p_yes hap hsel 30 rfl rfl ⟨_, ((hS.pick (A := blkA g5 35 [.int .i64 n, .slice A L.length c]) (by repeat first | exact .here _ _ | assumption | apply Pick.there)).pick (A := blkA g4 27 (tcs n (ofF L))) (by repeat first | exact .here _ _ | assumption | apply Pick.there))⟩ rfl rfl rfl (fun w hI => q_mv (.int _ _) rfl) ?_
    refine p_one 28 rfl (by kernel_rfl) ?_
    refine t_yes rfl rfl rfl ?_
    refine t_call Try.call137 (of_calls (by omega)) rfl ?_
    rintro e w ⟨rfl, hT⟩
    refine ⟨_, rfl, ?_⟩
    replace hS := hS.after hT
    refine t_nil ?_
    refine ⟨.inr ⟨_, ((hS.pick (A := blkA g5 35 [.int .i64 n, .slice A L.length c]) (by repeat first | exact .here _ _ | assumption | apply Pick.there)).pick (A := blkA g4 27 (tcs n (ofF L))) (by repeat first | exact .here _ _ | assumption | apply Pick.there))⟩, ?_⟩
    refine p_one 31 rfl (by kernel_rfl) ?_
    refine t_yes rfl rfl rfl ?_
    refine t_call Try.call138 (of2_calls (hR.st hS) hm) rfl ?_
    rintro e w ⟨rfl, hT⟩
    refine ⟨_, rfl, ?_⟩
    replace hS := hS.after hT
    refine t_nil ?_
    refine ⟨.inr ⟨_, ((hS.pick (A := blkA g5 35 [.int .i64 n, .slice A L.length c]) (by repeat first | exact .here _ _ | assumption | apply Pick.there)).pick (A := blkA g4 27 (tcs n (ofF L))) (by repeat first | exact .here _ _ | assumption | apply Pick.there))⟩, ?_⟩
    refine p_yes hap hsel 32 rfl rfl ⟨_, ((hS.pick (A := blkA g5 35 [.int .i64 n, .slice A L.length c]) (by repeat first | exact .here _ _ | assumption | apply Pick.there)).pick (A := blkA g4 27 (tcs n (ofF L))) (by repeat first | exact .here _ _ | assumption | apply Pick.there))⟩ rfl rfl rfl (fun w hI => (q_cast (v' := .bool true) (q_eql rfl rfl) (by rw [like_of hok]; simp))) ?_
    refine p_q hap hsel 33 rfl rfl ⟨_, ((hS.pick (A := blkA g5 35 [.int .i64 n, .slice A L.length c]) (by repeat first | exact .here _ _ | assumption | apply Pick.there)).pick (A := blkA g4 27 (tcs n (ofF L))) (by repeat first | exact .here _ _ | assumption | apply Pick.there))⟩ (fun w hI => q_pick_t rfl rfl) ?_
    refine p_q hap hsel 34 rfl rfl ⟨_, ((hS.pick (A := blkA g5 35 [.int .i64 n, .slice A L.length c]) (by repeat first | exact .here _ _ | assumption | apply Pick.there)).pick (A := blkA g4 27 (tcs n (ofF L))) (by repeat first | exact .here _ _ | assumption | apply Pick.there))⟩ (fun w hI => q_as (.bool _) rfl) ?_
    refine p_end (by kernel_rfl) ?_
    refine c_ret ?_
    refine r_one rfl rfl ?_
    exact ⟨rfl, hS.nil⟩
end Go.Proofs.Ytcikoealneldkaa
