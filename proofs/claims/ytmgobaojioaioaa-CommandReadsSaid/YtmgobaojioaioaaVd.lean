/- Commands: which may be. -/
import Derived.Test.YtmgobaojioaioaaVb
import Derived.Test.YtmgobaojioaioaaVc
namespace Go.Proofs.Ytmgobaojioaioaa
open Go Go.RowKit Go.Lib
variable {W : World}
attribute [local irreducible] blkA rowA
set_option maxHeartbeats 4000000 in
set_option maxRecDepth 100000 in
theorem csound_calls {x : CmdV} (hx : x.Gd W) : Calls Try.prog 48 #[.agg x.cells.toArray] W fun e w' => e = .returned (.bool (sndC x)) ∧ St W w' [] := by
  have hS := St.init W
  have hcl := hx.client
  refine calls_of_wpE (args := [_]) Try.func48 rfl rfl rfl ?_
  refine c_seq ?_
  refine c_region ?_
  refine t_box (v := (.agg _)) rfl rfl hS (fun g1 w hS => ?_)
  replace hS := hS.recast (show _ = blkA g1 49 [.int .i64 x.kind, .int .u64 x.client, .int .u64 x.req, .int .i64 x.account, .int .u64 x.id, .int .i64 x.side, .int .i64 x.typ, .int .i64 x.asset, .int .i64 x.price, .int .i64 x.qty, .int .i64 x.version, .int .i64 x.replica, .int .u64 x.at_, .int .i64 x.rules.version, .slice x.rules.ticks.A x.rules.ticks.l.length x.rules.ticks.c, .int .i64 x.rules.lot, .int .i64 x.rules.band, .slice x.rules.fees.A x.rules.fees.l.length x.rules.fees.c, .int .i64 x.rules.round, .int .i64 x.rules.priority, .int .i64 x.rules.self, .int .i64 x.rules.layout] from rfl)
  refine t_q (q_assign) ?_
  refine t_nil ?_
  refine c_seq ?_
  refine c_region ?_
  refine t_q (q_fieldAddr 0 Try.runUnderlying49 rfl Try.sizeOf3 (by decide) rfl rfl) ?_
  refine t_q (q_load1 Try.isAgg3 rfl (hS.cell (by repeat first | exact .here _ _ | assumption | apply Pick.there) rfl)) ?_
  refine t_call Try.call92 (cfields_calls (n := x.kind)) rfl ?_
  rintro e w ⟨rfl, hT⟩
  refine ⟨_, rfl, ?_⟩
  replace hS := hS.after hT
  refine t_q (q_mv (.tuple _) rfl) ?_
  refine t_q (q_extract rfl rfl) ?_
  refine t_q (q_extract rfl rfl) ?_
  refine t_q (q_as (.int _ _) rfl) ?_
  refine t_q (q_as (.bool _) rfl) ?_
  refine t_nil ?_
  refine c_seq ?_
  refine c_seq ?_
  refine c_draw ?_
  refine d_keep (blkA g1 49 [.int .i64 x.kind, .int .u64 x.client, .int .u64 x.req, .int .i64 x.account, .int .u64 x.id, .int .i64 x.side, .int .i64 x.typ, .int .i64 x.asset, .int .i64 x.price, .int .i64 x.qty, .int .i64 x.version, .int .i64 x.replica, .int .u64 x.at_, .int .i64 x.rules.version, .slice x.rules.ticks.A x.rules.ticks.l.length x.rules.ticks.c, .int .i64 x.rules.lot, .int .i64 x.rules.band, .slice x.rules.fees.A x.rules.fees.l.length x.rules.fees.c, .int .i64 x.rules.round, .int .i64 x.rules.priority, .int .i64 x.rules.self, .int .i64 x.rules.layout]) 15 [0, 1, 2, 3, 4, 5, 6, 7, 8, 9, 10, 11, 12, 13, 14] [0, 1, 2, 3, 4, 5, 6, 7, 8, 9, 10, 11, 12, 13, 14] hS rfl (by kernel_rfl) (by kernel_rfl) (by kernel_rfl) (by kernel_rfl) (fun hap hsel w hS => ?_)
  refine p_q hap hsel 0 rfl rfl ⟨_, hS.pick (by repeat first | exact .here _ _ | assumption | apply Pick.there)⟩ (fun w hI => q_mv (.bool _) rfl) ?_
  refine p_q hap hsel 1 rfl rfl ⟨_, hS.pick (by repeat first | exact .here _ _ | assumption | apply Pick.there)⟩ (fun w hI => q_not rfl) ?_
  refine p_q hap hsel 2 rfl rfl ⟨_, hS.pick (by repeat first | exact .here _ _ | assumption | apply Pick.there)⟩ (fun w hI => q_mv (.bool _) rfl) ?_
  refine p_case 13 rfl ?_ ?_
  · intro hg4
    refine p_no hap hsel 3 rfl rfl ⟨_, hS.pick (by repeat first | exact .here _ _ | assumption | apply Pick.there)⟩ rfl rfl (by rw [(congrArg not (not_back hg4))]; decide) ?_
    refine p_no hap hsel 4 rfl rfl ⟨_, hS.pick (by repeat first | exact .here _ _ | assumption | apply Pick.there)⟩ rfl rfl (by rw [(congrArg not (not_back hg4))]; decide) ?_
    refine p_no hap hsel 5 rfl rfl ⟨_, hS.pick (by repeat first | exact .here _ _ | assumption | apply Pick.there)⟩ rfl rfl (by rw [(congrArg not (not_back hg4))]; decide) ?_
    refine p_q hap hsel 6 rfl rfl ⟨_, hS.pick (by repeat first | exact .here _ _ | assumption | apply Pick.there)⟩ (fun w hI => q_pick_t rfl (congrArg not (not_back hg4))) ?_
    refine p_q hap hsel 7 rfl rfl ⟨_, hS.pick (by repeat first | exact .here _ _ | assumption | apply Pick.there)⟩ (fun w hI => q_mv (.bool _) rfl) ?_
    refine p_no hap hsel 8 rfl rfl ⟨_, hS.pick (by repeat first | exact .here _ _ | assumption | apply Pick.there)⟩ rfl rfl (by decide) ?_
    refine p_no hap hsel 9 rfl rfl ⟨_, hS.pick (by repeat first | exact .here _ _ | assumption | apply Pick.there)⟩ rfl rfl (by decide) ?_
    refine p_no hap hsel 10 rfl rfl ⟨_, hS.pick (by repeat first | exact .here _ _ | assumption | apply Pick.there)⟩ rfl rfl (by decide) ?_
    refine p_no hap hsel 11 rfl rfl ⟨_, hS.pick (by repeat first | exact .here _ _ | assumption | apply Pick.there)⟩ rfl rfl (by decide) ?_
    refine p_no hap hsel 12 rfl rfl ⟨_, hS.pick (by repeat first | exact .here _ _ | assumption | apply Pick.there)⟩ rfl rfl (by decide) ?_
    refine p_no hap hsel 13 rfl rfl ⟨_, hS.pick (by repeat first | exact .here _ _ | assumption | apply Pick.there)⟩ rfl rfl (by decide) ?_
    refine p_q hap hsel 14 rfl rfl ⟨_, hS.pick (by repeat first | exact .here _ _ | assumption | apply Pick.there)⟩ (fun w hI => q_pick_t rfl rfl) ?_
    refine p_end (by kernel_rfl) ?_
    refine c_cond_t rfl rfl ?_
    have hD : sndC x = false := by
      unfold sndC
      first
        | (rw [bnt (by assumption : (!cok x.kind) = true)]; rfl)
        | (rw [decide_eq_false (show ¬ x.client ≤ 8 by omega)]; cases cok x.kind <;> rfl)
        | (rw [bnt (by assumption : (!decide ((keepC (cfl x.kind) x).vw = x.vw)) = true)]; cases cok x.kind <;> cases decide (x.client ≤ 8) <;> rfl)
    refine c_seq ?_
    refine c_region ?_
    refine t_q (q_assign) ?_
    refine t_nil ?_
    refine c_ret ?_
    refine r_one rfl rfl ?_
    have hN := hS.nil
    clear hS
    refine ⟨congrArg (fun b => Ending.returned (.bool b)) ?_, hN⟩
    first
      | exact hD.symm
      | (rw [hE, decide_eq_false (show ¬ x.kind = 9 by omega)]; rfl)
      | (rw [hE, decide_eq_true (show x.kind = 9 by omega)]; exact hnil)
  · intro hg4
    refine p_yes hap hsel 3 rfl rfl ⟨_, hS.pick (by repeat first | exact .here _ _ | assumption | apply Pick.there)⟩ rfl rfl (congrArg not (not_back hg4)) (fun w hI => q_fieldAddr 1 Try.runUnderlying49 rfl Try.sizeOf26 (by decide) rfl rfl) ?_
    refine p_yes hap hsel 4 rfl rfl ⟨_, hS.pick (by repeat first | exact .here _ _ | assumption | apply Pick.there)⟩ rfl rfl (congrArg not (not_back hg4)) (fun w hI => q_load1 Try.isAgg26 rfl (hI.choose_spec.cell (by repeat first | exact .here _ _ | assumption | apply Pick.there) rfl)) ?_
    refine p_yes hap hsel 5 rfl rfl ⟨_, hS.pick (by repeat first | exact .here _ _ | assumption | apply Pick.there)⟩ rfl rfl (congrArg not (not_back hg4)) (fun w hI => q_gtr rfl rfl) ?_
    refine p_q hap hsel 6 rfl rfl ⟨_, hS.pick (by repeat first | exact .here _ _ | assumption | apply Pick.there)⟩ (fun w hI => q_pick_f rfl (congrArg not (not_back hg4))) ?_
    refine p_q hap hsel 7 rfl rfl ⟨_, hS.pick (by repeat first | exact .here _ _ | assumption | apply Pick.there)⟩ (fun w hI => q_mv (.bool _) rfl) ?_
    refine p_case 18 rfl ?_ ?_
    · intro hg6
      have hg6d := of_decide_eq_true hg6
      refine p_no hap hsel 8 rfl rfl ⟨_, hS.pick (by repeat first | exact .here _ _ | assumption | apply Pick.there)⟩ rfl rfl (by rw [hg6]; decide) ?_
      refine p_no hap hsel 9 rfl rfl ⟨_, hS.pick (by repeat first | exact .here _ _ | assumption | apply Pick.there)⟩ rfl rfl (by rw [hg6]; decide) ?_
      refine p_no hap hsel 10 rfl rfl ⟨_, hS.pick (by repeat first | exact .here _ _ | assumption | apply Pick.there)⟩ rfl rfl (by rw [hg6]; decide) ?_
      refine p_no hap hsel 11 rfl rfl ⟨_, hS.pick (by repeat first | exact .here _ _ | assumption | apply Pick.there)⟩ rfl rfl (by rw [hg6]; decide) ?_
      refine p_no hap hsel 12 rfl rfl ⟨_, hS.pick (by repeat first | exact .here _ _ | assumption | apply Pick.there)⟩ rfl rfl (by rw [hg6]; decide) ?_
      refine p_no hap hsel 13 rfl rfl ⟨_, hS.pick (by repeat first | exact .here _ _ | assumption | apply Pick.there)⟩ rfl rfl (by rw [hg6]; decide) ?_
      refine p_q hap hsel 14 rfl rfl ⟨_, hS.pick (by repeat first | exact .here _ _ | assumption | apply Pick.there)⟩ (fun w hI => q_pick_t rfl hg6) ?_
      refine p_end (by kernel_rfl) ?_
      refine c_cond_t rfl rfl ?_
      have hD : sndC x = false := by
        unfold sndC
        first
          | (rw [bnt (by assumption : (!cok x.kind) = true)]; rfl)
          | (rw [decide_eq_false (show ¬ x.client ≤ 8 by omega)]; cases cok x.kind <;> rfl)
          | (rw [bnt (by assumption : (!decide ((keepC (cfl x.kind) x).vw = x.vw)) = true)]; cases cok x.kind <;> cases decide (x.client ≤ 8) <;> rfl)
      refine c_seq ?_
      refine c_region ?_
      refine t_q (q_assign) ?_
      refine t_nil ?_
      refine c_ret ?_
      refine r_one rfl rfl ?_
      have hN := hS.nil
      clear hS
      refine ⟨congrArg (fun b => Ending.returned (.bool b)) ?_, hN⟩
      first
        | exact hD.symm
        | (rw [hE, decide_eq_false (show ¬ x.kind = 9 by omega)]; rfl)
        | (rw [hE, decide_eq_true (show x.kind = 9 by omega)]; exact hnil)
    · intro hg6
      have hg6d := of_decide_eq_false hg6
      refine p_yes hap hsel 8 rfl rfl ⟨_, hS.pick (by repeat first | exact .here _ _ | assumption | apply Pick.there)⟩ rfl rfl hg6 (fun w hI => (q_cast (v' := .agg x.cells.toArray) (q_load_blk Try.isAgg49 Try.sizeOf49 rfl (hI.choose_spec.blk (by repeat first | exact .here _ _ | assumption | apply Pick.there)) rfl) (by rfl))) ?_
      refine p_yes hap hsel 9 rfl rfl ⟨_, hS.pick (by repeat first | exact .here _ _ | assumption | apply Pick.there)⟩ rfl rfl hg6 (fun w hI => q_mv (.int _ _) rfl) ?_
      refine p_yes hap hsel 11 rfl rfl ⟨_, hS.pick (by repeat first | exact .here _ _ | assumption | apply Pick.there)⟩ rfl rfl hg6 (fun w hI => (q_cast (v' := .agg x.cells.toArray) (q_load_blk Try.isAgg49 Try.sizeOf49 rfl (hI.choose_spec.blk (by repeat first | exact .here _ _ | assumption | apply Pick.there)) rfl) (by rfl))) ?_
      refine p_one 10 rfl (by kernel_rfl) ?_
      refine t_yes rfl rfl hg6 ?_
      refine t_call Try.call100 (conly_calls (x := x)) rfl ?_
      rintro e w ⟨rfl, hT⟩
      refine ⟨_, rfl, ?_⟩
      replace hS := hS.after hT
      refine t_nil ?_
      refine ⟨.inr ⟨_, hS.pick (by repeat first | exact .here _ _ | assumption | apply Pick.there)⟩, ?_⟩
      refine p_one 12 rfl (by kernel_rfl) ?_
      refine t_yes rfl rfl hg6 ?_
      refine t_call Try.call51 (csame_calls (x := keepC (cfl x.kind) x) (y := x) ((hx.st hS).keep _) (hx.st hS)) rfl ?_
      rintro e w ⟨rfl, hT⟩
      refine ⟨_, rfl, ?_⟩
      replace hS := hS.after hT
      refine t_nil ?_
      refine ⟨.inr ⟨_, hS.pick (by repeat first | exact .here _ _ | assumption | apply Pick.there)⟩, ?_⟩
      refine p_yes hap hsel 13 rfl rfl ⟨_, hS.pick (by repeat first | exact .here _ _ | assumption | apply Pick.there)⟩ rfl rfl hg6 (fun w hI => q_not rfl) ?_
      refine p_q hap hsel 14 rfl rfl ⟨_, hS.pick (by repeat first | exact .here _ _ | assumption | apply Pick.there)⟩ (fun w hI => q_pick_f rfl hg6) ?_
      refine p_end (by kernel_rfl) ?_
      refine c_cond rfl ?_ ?_
      · intro hc9
        have hD : sndC x = false := by
          unfold sndC
          first
            | (rw [bnt (by assumption : (!cok x.kind) = true)]; rfl)
            | (rw [decide_eq_false (show ¬ x.client ≤ 8 by omega)]; cases cok x.kind <;> rfl)
            | (rw [bnt (by assumption : (!decide ((keepC (cfl x.kind) x).vw = x.vw)) = true)]; cases cok x.kind <;> cases decide (x.client ≤ 8) <;> rfl)
        refine c_seq ?_
        refine c_region ?_
        refine t_q (q_assign) ?_
        refine t_nil ?_
        refine c_ret ?_
        refine r_one rfl rfl ?_
        have hN := hS.nil
        clear hS
        refine ⟨congrArg (fun b => Ending.returned (.bool b)) ?_, hN⟩
        first
          | exact hD.symm
          | (rw [hE, decide_eq_false (show ¬ x.kind = 9 by omega)]; rfl)
          | (rw [hE, decide_eq_true (show x.kind = 9 by omega)]; exact hnil)
      · intro hc9
        have a1 : cok x.kind = true := bnf (by assumption : (!cok x.kind) = false)
        have a2 : decide (x.client ≤ 8) = true := decide_eq_true (by omega)
        have a3 : decide ((keepC (cfl x.kind) x).vw = x.vw) = true := bnf (by assumption)
        have hE : sndC x = (!decide (x.kind = 9) || goodR x.rules) := by unfold sndC; rw [a1, a2, a3]; rfl
        refine c_skip ?_
        refine c_seq ?_
        refine c_region ?_
        refine t_q (q_mv (.int _ _) rfl) ?_
        refine t_q (q_and rfl rfl) ?_
        refine t_q (q_cast (v' := .bool (decide (x.kind ≠ 9))) (q_eql rfl rfl) (by rw [show decide (x.kind ≠ 9) = !hasC (cfl x.kind) 1024 from by rw [cfl_1024, decide_not]]; exact congrArg Value.bool (and_cfl_1024 _))) ?_
        refine t_q (q_mv (.bool _) rfl) ?_
        refine t_case 29 rfl ?_ ?_
        · intro hg11
          have hg11d := of_decide_eq_true hg11
          refine t_no rfl rfl (by rw [hg11]; decide) ?_
          refine t_no rfl rfl (by rw [hg11]; decide) ?_
          refine t_no rfl rfl (by rw [hg11]; decide) ?_
          refine t_no rfl rfl (by rw [hg11]; decide) ?_
          refine t_q (q_pick_t rfl hg11) ?_
          refine t_q (q_as (.bool _) rfl) ?_
          refine t_nil ?_
          refine c_ret ?_
          refine r_one rfl rfl ?_
          have hN := hS.nil
          clear hS
          refine ⟨congrArg (fun b => Ending.returned (.bool b)) ?_, hN⟩
          first
            | exact hD.symm
            | (rw [hE, decide_eq_false (show ¬ x.kind = 9 by omega)]; rfl)
            | (rw [hE, decide_eq_true (show x.kind = 9 by omega)]; exact hnil)
        · intro hg11
          have hg11d := of_decide_eq_false hg11
          refine t_yes rfl rfl hg11 ?_
          refine t_q (q_fieldAddr 13 Try.runUnderlying49 rfl Try.sizeOf47 (by decide) rfl rfl) ?_
          refine t_yes rfl rfl hg11 ?_
          refine t_q (q_cast (v' := .agg x.rules.cells.toArray) (q_load_sub Try.isAgg47 Try.sizeOf47 rfl (hS.blk (by repeat first | exact .here _ _ | assumption | apply Pick.there)) (by show 0 + 13 + 9 ≤ 22; decide)) (by rfl)) ?_
          refine t_yes rfl rfl hg11 ?_
          refine t_call Try.call74 (rcheck_calls (x := x.rules) (hx.rules.st hS)) rfl ?_
          rintro e w ⟨v, rfl, hIf, hnil, hT⟩
          refine ⟨_, rfl, ?_⟩
          replace hS := hS.after hT
          refine t_yes rfl rfl hg11 ?_
          refine t_q (q_eql_iface_nil Try.runUnderlying135 rfl (hIf)) ?_
          refine t_q (q_pick_f rfl hg11) ?_
          refine t_q (q_as (.bool _) rfl) ?_
          refine t_nil ?_
          refine c_ret ?_
          refine r_one rfl rfl ?_
          have hN := hS.nil
          clear hS
          refine ⟨congrArg (fun b => Ending.returned (.bool b)) ?_, hN⟩
          first
            | exact hD.symm
            | (rw [hE, decide_eq_false (show ¬ x.kind = 9 by omega)]; rfl)
            | (rw [hE, decide_eq_true (show x.kind = 9 by omega)]; exact hnil)
end Go.Proofs.Ytmgobaojioaioaa
