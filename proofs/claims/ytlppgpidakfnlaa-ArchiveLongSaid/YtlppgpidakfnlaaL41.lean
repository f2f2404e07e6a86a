/- A body of so many bytes may be, and not of one more: the walk. -/
import Derived.Test.YtlppgpidakfnlaaAu
namespace Go.Proofs.Ytlppgpidakfnlaa
open Go Go.RowKit Go.Lib
variable {W : World}
attribute [local irreducible] blkA rowA rdrA rdO dskA arA
set_option maxHeartbeats 1000000 in
set_option maxRecDepth 100000 in
theorem ArchiveLong_calls {n : Int} (hn : 0 ≤ n ∧ n < 256) : Calls Try.prog 6 #[.int .u8 n] W fun e w' => e = .returned (.bool true) ∧ St W w' [] := by
  obtain ⟨nn, hnn⟩ : ∃ nn : Nat, (524286 : Int) + n % 5 = (nn : Int) := ⟨(524286 + n % 5).toNat, by omega⟩
  have hnl : 524286 ≤ nn ∧ nn ≤ 524290 := by omega
  have hzl : (List.replicate nn (0 : UInt8)).length = nn := List.length_replicate
  have hS := St.init W
  refine calls_of_wpE (args := [_]) Try.func6 rfl rfl rfl ?_
  refine c_seq ?_
  refine c_region ?_
  refine t_q (q_assign) ?_
  refine t_nil ?_
  refine c_seq ?_
  refine c_region ?_
  refine t_q (q_mv (.int _ _) rfl) ?_
  refine t_q (q_rem_n rfl rfl (by omega) (by omega)) ?_
  refine t_q (q_conv_i64 Try.runUnderlying5 Try.runUnderlying3 rfl (by omega)) ?_
  refine t_q (q_cast (v' := .int .i64 (nn : Int)) (q_add_i64 rfl rfl (by omega)) (by rw [hnn])) ?_
  refine t_q (q_as (.int _ _) rfl) ?_
  refine t_nil ?_
  refine c_seq ?_
  refine c_region ?_
  refine t_q (q_mv (.int _ _) rfl) ?_
  refine t_make (n := nn) Try.underlying25 (info_of Try.type5) rfl rfl rfl rfl rfl (by show 1 * nn ≤ _; omega) (by unfold maxLen; omega) hS (fun g12 w hS => ?_)
  replace hS := hS.recast (congrArg (rowA 5 1 (some ⟨g12, 0, none⟩) nn nn) (rep_bv (nn)))
  refine t_q (q_build (qs := [(0, 1), (1, 1), (2, 1)]) [(.int _ _), (.int _ _), (.slice _ _ _)] Try.zeroValue45 Try.runUnderlying45 ⟨rfl, Try.sizeOf43, rfl, Try.sizeOf43, rfl, Try.sizeOf25, trivial⟩ rfl rfl) ?_
  have hb12 := hS.rowRd (A := some ⟨g12, 0, none⟩) (bs := (List.replicate nn (0 : UInt8))) (.here _ _) hzl.symm
  refine t_call Try.call27 (abytes_calls (i := 0) (t := 0) (bs := (List.replicate nn (0 : UInt8))) (c := nn) hb12 ⟨by omega, by omega⟩ (by decide) (by decide)) (by rw [hzl]; rfl) ?_
  rintro e w ⟨A14, m14, c14, rfl, hm14, hT⟩
  refine ⟨_, rfl, ?_⟩
  have hS : St W w (_ :: _) := hS.lift hT
  refine t_q (q_mv (.tuple _) rfl) ?_
  refine t_q (q_extract rfl rfl) ?_
  refine t_q (q_extract rfl rfl) ?_
  refine t_q (q_as (.slice _ _ _) rfl) ?_
  refine t_q (q_as (.int _ _) rfl) ?_
  refine t_nil ?_
  refine c_seq ?_
  refine c_seq ?_
  refine c_region ?_
  refine t_q (q_mv (.int _ _) rfl) ?_
  refine t_q (q_gtr rfl rfl) ?_
  refine t_nil ?_
  refine c_cond rfl ?_ ?_
  · intro hc5
    have hc5d := of_decide_eq_true hc5
    obtain ⟨e1, e2⟩ := snE_long (i := 0) (t := 0) (b := (List.replicate nn (0 : UInt8))) (by decide) (by omega)
    rw [e2] at hm14
    subst hm14
    refine c_seq ?_
    refine c_region ?_
    refine t_q (q_mv (.int _ _) rfl) ?_
    refine t_q (q_cast (v' := .bool true) (q_eql rfl rfl) (by rw [e1]; rfl)) ?_
    refine t_q (q_mv (.bool _) rfl) ?_
    refine t_yes rfl rfl rfl ?_
    refine t_q (q_mv (.slice _ _ _) rfl) ?_
    refine t_yes rfl rfl rfl ?_
    refine t_q (q_len_slice Try.runUnderlying25 rfl) ?_
    refine t_yes rfl rfl rfl ?_
    refine t_q (q_cast (v' := .bool true) (q_eql rfl rfl) (by rfl)) ?_
    refine t_q (q_pick_t rfl rfl) ?_
    refine t_q (q_mv (.bool _) rfl) ?_
    refine t_yes rfl rfl rfl ?_
    refine t_call Try.call26 (alives_calls) rfl ?_
    rintro e w ⟨rfl, hT⟩
    refine ⟨_, rfl, ?_⟩
    replace hS := hS.after hT
    refine t_q (q_pick_t rfl rfl) ?_
    refine t_q (q_as (.bool _) rfl) ?_
    refine t_nil ?_
    refine c_ret ?_
    refine r_one rfl rfl ?_
    exact ⟨rfl, hS.nil⟩
  · intro hc5
    have hc5d := of_decide_eq_false hc5
    obtain ⟨e1, e2⟩ := snE_ok (i := 0) (t := 0) (b := (List.replicate nn (0 : UInt8))) (by decide) (by omega)
    have hsl := snB_len (i := 0) (t := 0) (b := (List.replicate nn (0 : UInt8))) (by decide) (by decide) (by omega)
    rw [e2] at hm14
    refine c_skip ?_
    refine c_seq ?_
    refine c_region ?_
    refine t_q (q_mv (.int _ _) rfl) ?_
    refine t_q (q_cast (v' := .bool true) (q_eql rfl rfl) (by rw [e1]; rfl)) ?_
    refine t_q (q_mv (.bool _) rfl) ?_
    refine t_yes rfl rfl rfl ?_
    refine t_q (q_mv (.slice _ _ _) rfl) ?_
    refine t_yes rfl rfl rfl ?_
    refine t_q (q_len_slice Try.runUnderlying25 rfl) ?_
    refine t_yes rfl rfl rfl ?_
    refine t_q (q_mv (.int _ _) rfl) ?_
    refine t_yes rfl rfl rfl ?_
    refine t_q (q_cast (v' := .bool true) (q_gtr rfl rfl) (by rw [decide_eq_true (by omega)])) ?_
    refine t_q (q_pick_t rfl rfl) ?_
    refine t_q (q_mv (.bool _) rfl) ?_
    refine t_yes rfl rfl rfl ?_
    refine t_call Try.call26 (alives_calls) rfl ?_
    rintro e w ⟨rfl, hT⟩
    refine ⟨_, rfl, ?_⟩
    replace hS := hS.after hT
    refine t_q (q_pick_t rfl rfl) ?_
    refine t_q (q_as (.bool _) rfl) ?_
    refine t_nil ?_
    refine c_ret ?_
    refine r_one rfl rfl ?_
    exact ⟨rfl, hS.nil⟩
end Go.Proofs.Ytlppgpidakfnlaa
