/- Any bytes are read as the document's message; what is read, written again, is those bytes: the walk. -/
import Derived.Test.YtlppgpidakfnlaaXo
import Derived.Test.YtlppgpidakfnlaaXq
namespace Go.Proofs.Ytlppgpidakfnlaa
open Go Go.RowKit Go.Lib
variable {W : World}
attribute [local irreducible] blkA rowA rdrA rdsA
set_option maxHeartbeats 4000000 in
set_option maxRecDepth 100000 in
theorem WireReads_calls {A : Option Addr} {c : Nat} {bs : List UInt8} (hR : RdB W A bs) (hc : bs.length ≤ c ∧ bs.length ≤ 9223372036854775807) : Calls Try.prog 17 #[.slice A bs.length c] W fun e w' => e = .returned (.bool true) ∧ St W w' [] := by
 have hS := St.init W
 refine calls_of_wpE (args := [_]) Try.func17 rfl rfl rfl ?_
 refine c_seq (c_region ?_)
 refine t_q (q_assign) ?_
 refine t_nil (c_seq (c_seq (c_region ?_)))
 refine t_q (q_mv (.slice _ _ _) rfl) ?_
 refine t_q (q_len_slice Try.runUnderlying25 rfl) ?_
 refine t_q (q_gtr rfl rfl) ?_
 refine t_nil ?_
 refine c_cond rfl ?_ ?_
 ·
  intro hc2
  have hc2d := of_decide_eq_true hc2
  refine c_seq (c_region ?_)
  refine t_call Try.call58 (wlives_calls) rfl ?_
  rintro e w ⟨rfl, hT⟩
  refine ⟨_, rfl, ?_⟩
  replace hS := hS.after hT
  refine t_q (q_as (.bool _) rfl) ?_
  refine t_nil (c_ret ?_)
  refine r_one rfl rfl ?_
  exact ⟨rfl, hS.nil⟩
 ·
  intro hc2
  have hc2d := of_decide_eq_false hc2
  refine c_skip (c_seq (c_region ?_))
  refine t_q (q_mv (.slice _ _ _) rfl) ?_
  refine t_call Try.call66 (read_calls (hR.st hS) ⟨hc.1, by omega⟩) rfl ?_
  rintro e w ⟨y, er, rfl, hby, hout, hT⟩
  refine ⟨_, rfl, ?_⟩
  have hS : St W w (_ :: _) := hS.lift hT
  refine t_q (q_mv (.tuple _) rfl) ?_
  refine t_q (q_extract rfl rfl) ?_
  refine t_q (q_extract rfl rfl) ?_
  refine t_alloc Try.zeroValue114 rfl hS (fun g3 w hS => ?_)
  refine t_store (v := (.agg _)) Try.sizeOf114 hS (by repeat constructor) rfl rfl rfl rfl rfl rfl (fun w hS => ?_)
  replace hS := hS.recast (show blkA g3 114 _ = bmA g3 114 y from rfl)
  refine t_q (q_as (.int _ _) rfl) ?_
  refine t_nil (c_seq (c_region ?_))
  refine t_q (q_mv (.slice _ _ _) rfl) ?_
  refine t_call Try.call67 (qread_calls (hR.st hS) ⟨hc.1, by omega⟩) rfl ?_
  rintro e w ⟨z, er2, rfl, hbz, hout2, hT⟩
  refine ⟨_, rfl, ?_⟩
  have hS : St W w (_ :: _) := hS.lift hT
  obtain ⟨he, hv⟩ := outs_eq hout hout2
  subst he
  refine t_q (q_mv (.tuple _) rfl) ?_
  refine t_q (q_extract rfl rfl) ?_
  refine t_q (q_extract rfl rfl) ?_
  refine t_alloc Try.zeroValue119 rfl hS (fun g5 w hS => ?_)
  refine t_store (v := (.agg _)) Try.sizeOf119 hS (by repeat constructor) rfl rfl rfl rfl rfl rfl (fun w hS => ?_)
  replace hS := hS.recast (show blkA g5 119 _ = bmA g5 119 z from rfl)
  refine t_q (q_as (.int _ _) rfl) ?_
  refine t_nil (c_seq (c_seq (c_draw ?_)))
  refine d_keep2 (bmA g3 114 y) (bmA g5 119 z) 10 [0, 1, 2, 3, 4, 5, 6, 7, 8, 9] [0, 1, 2, 3, 4, 5, 6, 7, 8, 9] hS rfl (by kernel_rfl) (by kernel_rfl) (by kernel_rfl) (by kernel_rfl) (fun hap hsel w hS => ?_)
  refine p_q hap hsel 0 rfl rfl ⟨_, ((hS.pick (A := bmA g5 119 z) (by repeat constructor)).pick (A := bmA g3 114 y) (by repeat constructor))⟩ (fun w hI => q_mv (.int _ _) rfl) ?_
  refine p_q hap hsel 1 rfl rfl ⟨_, ((hS.pick (A := bmA g5 119 z) (by repeat constructor)).pick (A := bmA g3 114 y) (by repeat constructor))⟩ (fun w hI => q_mv (.int _ _) rfl) ?_
  refine p_q hap hsel 2 rfl rfl ⟨_, ((hS.pick (A := bmA g5 119 z) (by repeat constructor)).pick (A := bmA g3 114 y) (by repeat constructor))⟩ (fun w hI => (q_cast (v' := .bool false) (q_neq rfl rfl) (by simp))) ?_
  refine p_q hap hsel 3 rfl rfl ⟨_, ((hS.pick (A := bmA g5 119 z) (by repeat constructor)).pick (A := bmA g3 114 y) (by repeat constructor))⟩ (fun w hI => q_mv (.bool _) rfl) ?_
  refine p_yes hap hsel 4 rfl rfl ⟨_, ((hS.pick (A := bmA g5 119 z) (by repeat constructor)).pick (A := bmA g3 114 y) (by repeat constructor))⟩ rfl rfl rfl (fun w hI => (q_cast (v' := .agg y.cells.toArray) (q_load_blk Try.isAgg114 Try.sizeOf114 rfl (hI.choose_spec.blk (by repeat constructor)) rfl) (by rfl))) ?_
  refine p_yes hap hsel 6 rfl rfl ⟨_, ((hS.pick (A := bmA g5 119 z) (by repeat constructor)).pick (A := bmA g3 114 y) (by repeat constructor))⟩ rfl rfl rfl (fun w hI => (q_cast (v' := .agg z.cells.toArray) (q_load_blk Try.isAgg119 Try.sizeOf119 rfl (hI.choose_spec.blk (by repeat constructor)) rfl) (by rfl))) ?_
  refine p_one 5 rfl (by kernel_rfl) ?_
  refine t_yes rfl rfl rfl ?_
  refine t_call Try.call61 (wplain_calls (x := y) (hby hS (by repeat constructor))) rfl ?_
  rintro e w ⟨A28, c28, rfl, hT⟩
  refine ⟨_, rfl, ?_⟩
  have hS : St W w (_ :: _) := hS.lift hT
  refine t_nil ?_
  refine ⟨.inr ⟨_, ((hS.pick (A := bmA g5 119 z) (by repeat constructor)).pick (A := bmA g3 114 y) (by repeat constructor))⟩, ?_⟩
  refine p_one 7 rfl (by kernel_rfl) ?_
  refine t_yes rfl rfl rfl ?_
  refine t_call Try.call63 (qwsame_calls (x := y.own A28 c28) (y := z) ((hby hS (by repeat constructor)).own (rowRdN hS (A := A28) (c := c28) (l := y.entries.l) (by repeat constructor) rfl)) (hbz hS (by repeat constructor))) rfl ?_
  rintro e w ⟨rfl, hT⟩
  refine ⟨_, rfl, ?_⟩
  replace hS := hS.after hT
  rw [show decide ((y.own A28 c28).vw = z.vw) = true from decide_eq_true hv]
  refine t_nil ?_
  refine ⟨.inr ⟨_, ((hS.pick (A := bmA g5 119 z) (by repeat constructor)).pick (A := bmA g3 114 y) (by repeat constructor))⟩, ?_⟩
  refine p_yes hap hsel 8 rfl rfl ⟨_, ((hS.pick (A := bmA g5 119 z) (by repeat constructor)).pick (A := bmA g3 114 y) (by repeat constructor))⟩ rfl rfl rfl (fun w hI => q_not rfl) ?_
  refine p_q hap hsel 9 rfl rfl ⟨_, ((hS.pick (A := bmA g5 119 z) (by repeat constructor)).pick (A := bmA g3 114 y) (by repeat constructor))⟩ (fun w hI => q_pick_f rfl rfl) ?_
  refine p_end (by kernel_rfl) ?_
  refine c_cond_f rfl rfl ?_
  refine c_skip (c_seq (c_seq (c_region ?_)))
  refine t_q (q_mv (.int _ _) rfl) ?_
  refine t_q (q_neq rfl rfl) ?_
  refine t_nil ?_
  refine c_cond rfl ?_ ?_
  ·
   intro hc14
   have hc14d := of_decide_eq_true hc14
   refine c_seq (c_region ?_)
   refine t_call Try.call58 (wlives_calls) rfl ?_
   rintro e w ⟨rfl, hT⟩
   refine ⟨_, rfl, ?_⟩
   replace hS := hS.after hT
   refine t_q (q_as (.bool _) rfl) ?_
   refine t_nil (c_ret ?_)
   refine r_one rfl rfl ?_
   exact ⟨rfl, hS.nil⟩
  ·
   intro hc14
   have hc14d := of_decide_eq_false hc14
   have he0 : er = 0 := by omega
   subst he0
   refine c_skip (c_seq (c_region ?_))
   refine t_q (q_cast (v' := .agg y.cells.toArray) (q_load_blk Try.isAgg114 Try.sizeOf114 rfl (hS.blk (by repeat constructor)) rfl) (by rfl)) ?_
   refine t_call Try.call64 (wbytes_calls (x := y) (hby hS (by repeat constructor))) rfl ?_
   rintro e w ⟨A38, m38, c38, rfl, hm38, hT⟩
   refine ⟨_, rfl, ?_⟩
   have hS : St W w (_ :: _) := hS.lift hT
   obtain ⟨h0, hL⟩ := out_again hout
   rw [h0]
   rw [hL] at hm38 hS
   subst hm38
   refine t_q (q_mv (.tuple _) rfl) ?_
   refine t_q (q_extract rfl rfl) ?_
   refine t_q (q_extract rfl rfl) ?_
   refine t_q (q_as (.slice _ _ _) rfl) ?_
   refine t_q (q_as (.int _ _) rfl) ?_
   refine t_nil (c_seq (c_region ?_))
   refine t_q (q_mv (.int _ _) rfl) ?_
   refine t_q (q_cast (v' := .bool true) (q_eql rfl rfl) (by rfl)) ?_
   refine t_q (q_mv (.bool _) rfl) ?_
   refine t_yes rfl rfl rfl ?_
   refine t_q (q_mv (.slice _ _ _) rfl) ?_
   refine t_yes rfl rfl rfl ?_
   refine t_q (q_string Try.runUnderlying25 Try.runUnderlying5 Try.runUnderlying9 rfl rfl (hS.rowRd (A := A38) (c := c38) (bs := bs) (by repeat constructor) rfl)) ?_
   refine t_yes rfl rfl rfl ?_
   refine t_q (q_mv (.slice _ _ _) rfl) ?_
   refine t_yes rfl rfl rfl ?_
   refine t_q (q_string Try.runUnderlying25 Try.runUnderlying5 Try.runUnderlying9 rfl rfl (hR.st hS)) ?_
   refine t_yes rfl rfl rfl ?_
   refine t_q (q_cast (v' := .bool true) (q_eql_string rfl rfl) (by simp)) ?_
   refine t_q (q_pick_t rfl rfl) ?_
   refine t_q (q_mv (.bool _) rfl) ?_
   refine t_yes rfl rfl rfl ?_
   refine t_call Try.call58 (wlives_calls) rfl ?_
   rintro e w ⟨rfl, hT⟩
   refine ⟨_, rfl, ?_⟩
   replace hS := hS.after hT
   refine t_q (q_pick_t rfl rfl) ?_
   refine t_q (q_as (.bool _) rfl) ?_
   refine t_nil (c_ret ?_)
   refine r_one rfl rfl ?_
   exact ⟨rfl, hS.nil⟩
end Go.Proofs.Ytlppgpidakfnlaa
