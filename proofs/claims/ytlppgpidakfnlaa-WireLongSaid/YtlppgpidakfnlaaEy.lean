/- Events as bytes, or why not; when two lists are the same; how many are of a kind. -/
import Derived.Test.YtlppgpidakfnlaaEw
namespace Go.Proofs.Ytlppgpidakfnlaa
open Go Go.RowKit Go.Lib
variable {W : World}
set_option maxRecDepth 100000 in
theorem ebytes_calls {A : Option Addr} {c : Nat} {l : List Ev} (hR : RdEv W A l) (hin : ∀ e ∈ l, e.In) (hm : l.length ≤ 1000000) : Calls Try.prog 137 #[.slice A l.length c] W fun e w' => ∃ A' m c', e = .returned (.tuple #[.slice A' m c', .int .i64 (evE l)]) ∧ m = (evBL l).length ∧ St W w' [rowA 5 1 A' m c' ((evBL l).map bv)] := by
  have hS := St.init W
  have hev := evsB_len hin
  have hel := evP_len hin hm l.length
  rw [evP_all] at hel
  refine calls_of_wpE (args := [_]) Try.func137 rfl rfl rfl ?_
  refine c_seq ?_
  refine c_region ?_
  refine t_q (q_assign) ?_
  refine t_q (q_assign) ?_
  refine t_nil ?_
  refine c_seq ?_
  refine c_block ?_
  refine c_seq ?_
  refine c_region ?_
  refine t_q (q_mv (.slice _ _ _) rfl) ?_
  refine t_q (q_len_slice Try.runUnderlying112 rfl) ?_
  refine t_q (q_gtr rfl rfl) ?_
  refine t_q (q_as (.bool _) rfl) ?_
  refine t_nil ?_
  refine c_cond rfl ?_ ?_
  · intro hc2
    have hc2d := of_decide_eq_true hc2
    refine c_seq ?_
    refine c_region ?_
    refine t_q (q_assign) ?_
    refine t_q (q_assign) ?_
    refine t_nil ?_
    refine c_ret ?_
    refine r_two rfl rfl rfl ?_
    first
      | (obtain ⟨e1, e2⟩ := evE_long (l := l) (by omega); rw [e1, e2]; exact ⟨none, 0, 0, rfl, rfl, (hS.nilrow 5 1).front1⟩)
      | (obtain ⟨e1, e2⟩ := evE_bad (l := l) (by omega) (by first | assumption | exact badL_iff.2 ⟨j, by omega, hno⟩); rw [e1, e2]; exact ⟨none, 0, 0, rfl, rfl, (hS.nilrow 5 1).front1⟩)
      | (obtain ⟨e1, e2⟩ := evE_ok (l := l) (by omega) (by first | assumption | (refine Bool.eq_false_iff.2 fun h => ?_; obtain ⟨u, hu, hb⟩ := badL_iff.1 h; rw [hall u (by omega)] at hb; cases hb)); rw [e1, e2]; first | exact ⟨_, _, _, rfl, rfl, hS.front1⟩ | exact ⟨_, _, _, rfl, hm29, hS.front1⟩)
  · intro hc2
    have hc2d := of_decide_eq_false hc2
    refine c_seq ?_
    refine c_region ?_
    refine t_q (q_mv (.slice _ _ _) rfl) ?_
    refine t_call Try.call156 (con_calls (hR.st hS) hm) rfl ?_
    rintro e w ⟨rfl, hT⟩
    refine ⟨_, rfl, ?_⟩
    replace hS := hS.after hT
    refine t_q (q_as (.bool _) rfl) ?_
    refine t_nil ?_
    refine c_cond rfl ?_ ?_
    · intro hc4
      refine c_seq ?_
      refine c_region ?_
      refine t_q (q_assign) ?_
      refine t_q (q_assign) ?_
      refine t_nil ?_
      refine c_ret ?_
      refine r_two rfl rfl rfl ?_
      first
        | (obtain ⟨e1, e2⟩ := evE_long (l := l) (by omega); rw [e1, e2]; exact ⟨none, 0, 0, rfl, rfl, (hS.nilrow 5 1).front1⟩)
        | (obtain ⟨e1, e2⟩ := evE_bad (l := l) (by omega) (by first | assumption | exact badL_iff.2 ⟨j, by omega, hno⟩); rw [e1, e2]; exact ⟨none, 0, 0, rfl, rfl, (hS.nilrow 5 1).front1⟩)
        | (obtain ⟨e1, e2⟩ := evE_ok (l := l) (by omega) (by first | assumption | (refine Bool.eq_false_iff.2 fun h => ?_; obtain ⟨u, hu, hb⟩ := badL_iff.1 h; rw [hall u (by omega)] at hb; cases hb)); rw [e1, e2]; first | exact ⟨_, _, _, rfl, rfl, hS.front1⟩ | exact ⟨_, _, _, rfl, hm29, hS.front1⟩)
    · intro hc4
      refine c_skip ?_
      refine c_seq ?_
      refine c_region ?_
      refine t_alloc Try.zeroValue135 rfl hS (fun g4 w hS => ?_)
      replace hS := hS.wr0
      refine t_nil ?_
      refine c_seq ?_
      refine c_region ?_
      refine t_q (q_mv (.slice _ _ _) rfl) ?_
      refine t_call Try.call144 (eput_calls hS (by repeat first | exact .here _ _ | assumption | apply Pick.there) (fun _ h => hR.st h) hin hm (by simp)) rfl ?_
      rintro e w ⟨rfl, hS⟩
      refine ⟨_, rfl, ?_⟩
      replace hS := hS.recast (congrArg (wrA g4) (List.nil_append (evsB l)))
      refine t_nil ?_
      refine c_seq ?_
      refine c_region ?_
      refine t_call Try.call72 (Bytes_calls hS (by repeat first | exact .here _ _ | assumption | apply Pick.there) (by omega)) rfl ?_
      rintro e w ⟨A14, c14, rfl, hc14, hS⟩
      refine ⟨_, rfl, ?_⟩
      refine t_q (q_as (.slice _ _ _) rfl) ?_
      refine t_q (q_assign) ?_
      refine t_nil ?_
      refine c_ret ?_
      refine r_two rfl rfl rfl ?_
      first
        | (obtain ⟨e1, e2⟩ := evE_long (l := l) (by omega); rw [e1, e2]; exact ⟨none, 0, 0, rfl, rfl, (hS.nilrow 5 1).front1⟩)
        | (obtain ⟨e1, e2⟩ := evE_bad (l := l) (by omega) (by first | assumption | exact badL_iff.2 ⟨j, by omega, hno⟩); rw [e1, e2]; exact ⟨none, 0, 0, rfl, rfl, (hS.nilrow 5 1).front1⟩)
        | (obtain ⟨e1, e2⟩ := evE_ok (l := l) (by omega) (by first | assumption | (refine Bool.eq_false_iff.2 fun h => ?_; obtain ⟨u, hu, hb⟩ := badL_iff.1 h; rw [hall u (by omega)] at hb; cases hb)); rw [e1, e2]; first | exact ⟨_, _, _, rfl, rfl, hS.front1⟩ | exact ⟨_, _, _, rfl, hm29, hS.front1⟩)
set_option maxRecDepth 100000 in
theorem eql_calls {A B : Option Addr} {c d : Nat} {a b : List Ev} (ha : RdEv W A a) (hb : RdEv W B b) (hai : ∀ e ∈ a, e.In) (hbi : ∀ e ∈ b, e.In) (hal : a.length ≤ 1000000) (hbl : b.length ≤ 1000000) : Calls Try.prog 141 #[.slice A a.length c, .slice B b.length d] W fun e w' => e = .returned (.bool (sameB a b)) ∧ St W w' [] := by
  have hS := St.init W
  refine calls_of_wpE (args := [_, _]) Try.func141 rfl rfl rfl ?_
  refine c_seq ?_
  refine c_region ?_
  refine t_q (q_assign) ?_
  refine t_nil ?_
  refine c_seq ?_
  refine c_seq ?_
  refine c_region ?_
  refine t_q (q_mv (.slice _ _ _) rfl) ?_
  refine t_q (q_len_slice Try.runUnderlying112 rfl) ?_
  refine t_q (q_mv (.slice _ _ _) rfl) ?_
  refine t_q (q_len_slice Try.runUnderlying112 rfl) ?_
  refine t_q (q_neq rfl rfl) ?_
  refine t_nil ?_
  refine c_cond rfl ?_ ?_
  · intro hc2
    have hc2d := of_decide_eq_true hc2
    refine c_seq ?_
    refine c_region ?_
    refine t_q (q_assign) ?_
    refine t_nil ?_
    refine c_ret ?_
    refine r_one rfl rfl ?_
    first
      | exact ⟨congrArg (fun b => Ending.returned (.bool b)) (same_len (by omega)).symm, hS.nil⟩
      | exact ⟨congrArg (fun b => Ending.returned (.bool b)) (same_at (j := j) (by omega) hll hno).symm, hS.nil⟩
      | exact ⟨congrArg (fun b => Ending.returned (.bool b)) (same_all hll fun i hi => hall i (by omega)).symm, hS.nil⟩
  · intro hc2
    have hc2d := of_decide_eq_false hc2
    have hll : a.length = b.length := by omega
    refine c_skip ?_
    refine c_seq ?_
    refine c_seq ?_
    refine c_region ?_
    refine t_q (q_mv (.slice _ _ _) rfl) ?_
    refine t_q (q_len_slice Try.runUnderlying112 rfl) ?_
    refine t_q (q_move) ?_
    refine t_nil ?_
    refine c_block ?_
    refine c_loop [4, 5, 13, 14, 15, 16, 17, 18, 19, 20, 21, 22, 23, 24, 25] (fun k σ w => ∃ j : Nat, σ 13 = .int .i64 (j : Int) ∧ j ≤ a.length ∧ a.length - j ≤ k ∧ (∀ i, i < j → (a.getD i default).ints = (b.getD i default).ints) ∧ St W w []) (a.length) rfl (⟨0, rfl, by omega, by omega, (fun i h => absurd h (by omega)), hS⟩) ?_
    skip
    rintro k σ w ⟨j, hj0, hj, hk, hall, hS⟩
    refine c_know 13 hj0 ?_
    clear hj0
    refine c_seq ?_
    refine c_region ?_
    refine t_q (q_lss rfl rfl) ?_
    refine t_nil ?_
    refine c_seq ?_
    refine c_cond rfl ?_ ?_
    · intro hc4
      have hc4d := of_decide_eq_true hc4
      refine c_skip ?_
      refine c_seq ?_
      refine c_block ?_
      refine c_seq ?_
      refine c_region ?_
      refine t_q (q_mv (.int _ _) rfl) ?_
      refine t_q (q_as (.int _ _) rfl) ?_
      refine t_nil ?_
      refine c_seq ?_
      refine c_draw ?_
      refine d_quiet 9 [0, 1, 2, 3, 4, 5, 6, 7, 8] [0, 1, 2, 3, 4, 5, 6, 7, 8] hS rfl (by kernel_rfl) (by kernel_rfl) (by kernel_rfl) (by kernel_rfl) (fun hap hsel w hS => ?_)
      refine p_q hap hsel 0 rfl rfl hS (fun w hS => q_mv (.slice _ _ _) rfl) ?_
      refine p_q hap hsel 1 rfl rfl hS (fun w hS => q_mv (.int _ _) rfl) ?_
      refine p_index hap hsel 2 rfl rfl hS Try.runUnderlying112 Try.sizeOf206 (fun w hS => ha.st hS) rfl rfl (by omega) (fun ad5 hl5 hx5 => ?_)
      refine p_q hap hsel 3 rfl rfl hS (fun w hS => q_loadN Try.isAgg206 Try.sizeOf206 rfl hl5 (hx5 w hS)) ?_
      refine p_q hap hsel 4 rfl rfl hS (fun w hS => q_mv (.slice _ _ _) rfl) ?_
      refine p_q hap hsel 5 rfl rfl hS (fun w hS => q_mv (.int _ _) rfl) ?_
      refine p_index hap hsel 6 rfl rfl hS Try.runUnderlying112 Try.sizeOf206 (fun w hS => hb.st hS) rfl rfl (by omega) (fun ad6 hl6 hx6 => ?_)
      refine p_q hap hsel 7 rfl rfl hS (fun w hS => q_loadN Try.isAgg206 Try.sizeOf206 rfl hl6 (hx6 w hS)) ?_
      refine p_q hap hsel 8 rfl rfl hS (fun w hS => q_neq_ev (e := a.getD j default) (q := b.getD j default) rfl rfl (evf_in hai (by omega)) (evf_in hbi (by omega))) ?_
      refine p_end (by kernel_rfl) ?_
      refine c_cond rfl ?_ ?_
      · intro hc7
        have hno : (a.getD j default).ints ≠ (b.getD j default).ints := by simpa using hc7
        refine c_seq ?_
        refine c_region ?_
        refine t_q (q_assign) ?_
        refine t_nil ?_
        refine c_ret ?_
        refine r_one rfl rfl ?_
        first
          | exact ⟨congrArg (fun b => Ending.returned (.bool b)) (same_len (by omega)).symm, hS.nil⟩
          | exact ⟨congrArg (fun b => Ending.returned (.bool b)) (same_at (j := j) (by omega) hll hno).symm, hS.nil⟩
          | exact ⟨congrArg (fun b => Ending.returned (.bool b)) (same_all hll fun i hi => hall i (by omega)).symm, hS.nil⟩
      · intro hc7
        have hyes : (a.getD j default).ints = (b.getD j default).ints := by simpa using hc7
        refine c_skip ?_
        refine c_region ?_
        refine t_q (q_add_i64 rfl rfl (by omega)) ?_
        refine t_q (q_mv (.int _ _) rfl) ?_
        refine t_nil ?_
        exact ⟨k - 1, by omega, j + 1, rfl, by omega, by omega, (fun i hi => by
          rcases Nat.lt_or_ge i j with h | h
          · exact hall i h
          · obtain rfl : i = j := by omega
            exact hyes), hS⟩
    · intro hc4
      have hc4d := of_decide_eq_false hc4
      refine c_exit ?_
      refine ite_t rfl ?_
      refine c_seq ?_
      refine c_region ?_
      refine t_q (q_assign) ?_
      refine t_nil ?_
      refine c_ret ?_
      refine r_one rfl rfl ?_
      first
        | exact ⟨congrArg (fun b => Ending.returned (.bool b)) (same_len (by omega)).symm, hS.nil⟩
        | exact ⟨congrArg (fun b => Ending.returned (.bool b)) (same_at (j := j) (by omega) hll hno).symm, hS.nil⟩
        | exact ⟨congrArg (fun b => Ending.returned (.bool b)) (same_all hll fun i hi => hall i (by omega)).symm, hS.nil⟩
set_option maxRecDepth 100000 in
theorem esame_calls {A B : Option Addr} {c d : Nat} {a b : List Ev} (ha : RdEv W A a) (hb : RdEv W B b) (hai : ∀ e ∈ a, e.In) (hbi : ∀ e ∈ b, e.In) (hal : a.length ≤ 1000000) (hbl : b.length ≤ 1000000) : Calls Try.prog 112 #[.slice A a.length c, .slice B b.length d] W fun e w' => e = .returned (.bool (sameB a b)) ∧ St W w' [] := by
  have hS := St.init W
  refine calls_of_wpE (args := [_, _]) Try.func112 rfl rfl rfl ?_
  refine c_seq ?_
  refine c_region ?_
  refine t_q (q_assign) ?_
  refine t_nil ?_
  refine c_seq ?_
  refine c_region ?_
  refine t_q (q_mv (.slice _ _ _) rfl) ?_
  refine t_q (q_mv (.slice _ _ _) rfl) ?_
  refine t_call Try.call141 (eql_calls (ha.st hS) (hb.st hS) hai hbi hal hbl) rfl ?_
  rintro e w ⟨rfl, hT⟩
  refine ⟨_, rfl, ?_⟩
  replace hS := hS.after hT
  refine t_q (q_as (.bool _) rfl) ?_
  refine t_nil ?_
  refine c_ret ?_
  refine r_one rfl rfl ?_
  exact ⟨rfl, hS⟩
-- trades_calls: no such function here
-- count_calls: no such function here
end Go.Proofs.Ytlppgpidakfnlaa
