/- Rules: light ones; Check with its error; the error that was found. -/
import Derived.Test.YtmgobaojioaioaaDoorFe
import Derived.Test.YtmgobaojioaioaaDoorUc
namespace Go.Proofs.YtmgobaojioaioaaDoor
open Go Go.RowKit Go.Lib
variable {W : World}
def lightR (x : RuV) : Bool := decide (x.ticks.l.length ≤ 20 ∧ x.fees.l.length ≤ 20)
theorem light_rgd {x : RuV} {w : World} (hx : x.Ok w) (h : lightR x = true) : x.Gd w := by
  have h := of_decide_eq_true h
  exact hx.gd (by omega) (by omega)
attribute [local irreducible] blkA rowA rdsA
set_option maxRecDepth 100000 in
theorem rlight_calls {x : RuV} : Calls Tryd.prog 8 #[.agg x.cells.toArray] W fun e w' => e = .returned (.bool (lightR x)) ∧ St W w' [] := by
  have hS := St.init W
  refine calls_of_wpE (args := [_]) Tryd.func8 rfl rfl rfl ?_
  refine c_seq ?_
  refine c_region ?_
  refine t_box (v := (.agg _)) rfl rfl hS (fun g1 w hS => ?_)
  replace hS := hS.recast (show _ = blkA g1 25 [.int .i64 x.version, .slice x.ticks.A x.ticks.l.length x.ticks.c, .int .i64 x.lot, .int .i64 x.band, .slice x.fees.A x.fees.l.length x.fees.c, .int .i64 x.round, .int .i64 x.priority, .int .i64 x.self, .int .i64 x.layout] from rfl)
  refine t_q (q_assign) ?_
  refine t_nil ?_
  refine c_seq ?_
  refine c_region ?_
  refine t_q (q_fieldAddr 1 Tryd.runUnderlying25 rfl Tryd.sizeOf22 (by decide) rfl rfl) ?_
  refine t_q (q_load1 Tryd.isAgg22 rfl (hS.cell (by repeat first | exact .here _ _ | assumption | apply Pick.there) rfl)) ?_
  refine t_q (q_len_slice Tryd.runUnderlying22 rfl) ?_
  refine t_q (q_leq rfl rfl) ?_
  refine t_q (q_mv (.bool _) rfl) ?_
  refine t_case 7 rfl ?_ ?_
  · intro hg2
    have hg2d := of_decide_eq_true hg2
    refine t_yes rfl rfl hg2 ?_
    refine t_q (q_fieldAddr 4 Tryd.runUnderlying25 rfl Tryd.sizeOf23 (by decide) rfl rfl) ?_
    refine t_yes rfl rfl hg2 ?_
    refine t_q (q_load1 Tryd.isAgg23 rfl (hS.cell (by repeat first | exact .here _ _ | assumption | apply Pick.there) rfl)) ?_
    refine t_yes rfl rfl hg2 ?_
    refine t_q (q_len_slice Tryd.runUnderlying23 rfl) ?_
    refine t_yes rfl rfl hg2 ?_
    refine t_q (q_leq rfl rfl) ?_
    refine t_q (q_pick_t rfl hg2) ?_
    refine t_q (q_as (.bool _) rfl) ?_
    refine t_nil ?_
    refine c_ret ?_
    refine r_one rfl rfl ?_
    unfold lightR
    refine ⟨congrArg (fun b => Ending.returned (.bool b)) ?_, hS.nil⟩
    first
      | (rw [decide_eq_decide]; omega)
      | (symm; exact decide_eq_false (by omega))
      | (symm; exact decide_eq_true (by omega))
  · intro hg2
    have hg2d := of_decide_eq_false hg2
    refine t_no rfl rfl (by rw [hg2]; decide) ?_
    refine t_no rfl rfl (by rw [hg2]; decide) ?_
    refine t_no rfl rfl (by rw [hg2]; decide) ?_
    refine t_no rfl rfl (by rw [hg2]; decide) ?_
    refine t_q (q_pick_f rfl hg2) ?_
    refine t_q (q_as (.bool _) rfl) ?_
    refine t_nil ?_
    refine c_ret ?_
    refine r_one rfl rfl ?_
    unfold lightR
    refine ⟨congrArg (fun b => Ending.returned (.bool b)) ?_, hS.nil⟩
    first
      | (rw [decide_eq_decide]; omega)
      | (symm; exact decide_eq_false (by omega))
      | (symm; exact decide_eq_true (by omega))
set_option maxHeartbeats 2000000 in
set_option maxRecDepth 100000 in
theorem rcheck2_calls {x : RuV} (hx : x.Gd W) : Calls Tryd.prog 12 #[.agg x.cells.toArray] W fun e w' => ∃ v ps, e = .returned v ∧ ErrL ps v (errOf (chk x)) ∧ St W w' [rdsA ps] := by
  have hS := (St.init W).rds0
  refine calls_of_wpE (args := [_]) Tryd.func12 rfl rfl rfl ?_
  refine c_seq ?_
  refine c_region ?_
  refine t_box (v := (.agg _)) rfl rfl hS (fun g1 w hS => ?_)
  replace hS := hS.recast (show _ = blkA g1 25 [.int .i64 x.version, .slice x.ticks.A x.ticks.l.length x.ticks.c, .int .i64 x.lot, .int .i64 x.band, .slice x.fees.A x.fees.l.length x.fees.c, .int .i64 x.round, .int .i64 x.priority, .int .i64 x.self, .int .i64 x.layout] from rfl)
  refine t_q (q_assign) ?_
  refine t_nil ?_
  refine c_seq ?_
  refine c_block ?_
  refine c_seq ?_
  refine c_region ?_
  refine t_q (q_fieldAddr 0 Tryd.runUnderlying25 rfl Tryd.sizeOf3 (by decide) rfl rfl) ?_
  refine t_q (q_load1 Tryd.isAgg3 rfl (hS.cell (by repeat first | exact .here _ _ | assumption | apply Pick.there) rfl)) ?_
  refine t_call Tryd.call35 (within_calls) rfl ?_
  rintro e w ⟨rfl, hT⟩
  refine ⟨_, rfl, ?_⟩
  replace hS := hS.after hT
  refine t_q (q_not rfl) ?_
  refine t_q (q_as (.bool _) rfl) ?_
  refine t_nil ?_
  refine c_cond rfl ?_ ?_
  · intro hc2
    have hD := chk_1 (x := x) (of_decide_eq_false (not_back hc2))
    refine c_seq ?_
    refine c_region ?_
    refine t_call Tryd.call36 (eown_calls (hS.pick (A := rdsA []) (by repeat first | exact .here _ _ | assumption | apply Pick.there))) rfl ?_
    rintro e w ⟨v, ps, rfl, hv, _, hS⟩
    refine ⟨_, rfl, ?_⟩
    rw [own_eq] at hv
    refine t_q (q_as v rfl) ?_
    refine t_nil ?_
    refine c_ret ?_
    refine r_one rfl rfl ?_
    rw [hD]
    first
      | exact ⟨_, ps, rfl, hv, (hS.pick (A := rdsA ps) (by repeat first | exact .here _ _ | assumption | apply Pick.there)).front1⟩
      | exact ⟨_, [], rfl, rfl, (hS.pick (A := rdsA []) (by repeat first | exact .here _ _ | assumption | apply Pick.there)).front1⟩
  · intro hc2
    have h1 : (1 ≤ x.version ∧ x.version ≤ 32) := of_decide_eq_true (not_back hc2)
    refine c_seq ?_
    refine c_region ?_
    refine t_q (q_fieldAddr 1 Tryd.runUnderlying25 rfl Tryd.sizeOf22 (by decide) rfl rfl) ?_
    refine t_q (q_load1 Tryd.isAgg22 rfl (hS.cell (by repeat first | exact .here _ _ | assumption | apply Pick.there) rfl)) ?_
    refine t_call Tryd.call37 (gchk_calls (l := x.ticks.l) (hx.trd.st hS) hx.tin hx.tle) rfl ?_
    rintro e w ⟨rfl, hT⟩
    refine ⟨_, rfl, ?_⟩
    replace hS := hS.after hT
    refine t_q (q_neq rfl rfl) ?_
    refine t_q (q_as (.bool _) rfl) ?_
    refine t_nil ?_
    refine c_cond rfl ?_ ?_
    · intro hc6
      have hc6d := of_decide_eq_true hc6
      have h2 : ¬ GoodT x.ticks.l := fun h => by rw [if_pos h] at *; omega
      have hD := chk_2 h1 h2
      refine c_seq ?_
      refine c_region ?_
      refine t_q (q_fieldAddr 1 Tryd.runUnderlying25 rfl Tryd.sizeOf22 (by decide) rfl rfl) ?_
      refine t_q (q_load1 Tryd.isAgg22 rfl (hS.cell (by repeat first | exact .here _ _ | assumption | apply Pick.there) rfl)) ?_
      refine t_call Tryd.call37 (gchk_calls (l := x.ticks.l) (hx.trd.st hS) hx.tin hx.tle) rfl ?_
      rintro e w ⟨rfl, hT⟩
      refine ⟨_, rfl, ?_⟩
      replace hS := hS.after hT
      refine t_call Tryd.call38 (eof_calls (hS.pick (A := rdsA []) (by repeat first | exact .here _ _ | assumption | apply Pick.there))) rfl ?_
      rintro e w ⟨v, ps, rfl, hv, _, hS⟩
      refine ⟨_, rfl, ?_⟩
      rw [of_eq _ (by decide), if_neg h2] at hv
      refine t_q (q_as v rfl) ?_
      refine t_nil ?_
      refine c_ret ?_
      refine r_one rfl rfl ?_
      rw [hD]
      first
        | exact ⟨_, ps, rfl, hv, (hS.pick (A := rdsA ps) (by repeat first | exact .here _ _ | assumption | apply Pick.there)).front1⟩
        | exact ⟨_, [], rfl, rfl, (hS.pick (A := rdsA []) (by repeat first | exact .here _ _ | assumption | apply Pick.there)).front1⟩
    · intro hc6
      have hc6d := of_decide_eq_false hc6
      have h2 : GoodT x.ticks.l := by
        by_cases h : GoodT x.ticks.l
        · exact h
        · rw [if_neg h] at *; omega
      refine c_seq ?_
      refine c_region ?_
      refine t_q (q_fieldAddr 2 Tryd.runUnderlying25 rfl Tryd.sizeOf2 (by decide) rfl rfl) ?_
      refine t_q (q_load1 Tryd.isAgg2 rfl (hS.cell (by repeat first | exact .here _ _ | assumption | apply Pick.there) rfl)) ?_
      refine t_q (q_lss rfl rfl) ?_
      refine t_q (q_mv (.bool _) rfl) ?_
      refine t_case 22 rfl ?_ ?_
      · intro hg10
        have hg10d := of_decide_eq_true hg10
        refine t_no rfl rfl (by rw [hg10]; decide) ?_
        refine t_no rfl rfl (by rw [hg10]; decide) ?_
        refine t_no rfl rfl (by rw [hg10]; decide) ?_
        refine t_q (q_pick_t rfl hg10) ?_
        refine t_q (q_mv (.bool _) rfl) ?_
        refine t_no rfl rfl (by decide) ?_
        refine t_no rfl rfl (by decide) ?_
        refine t_no rfl rfl (by decide) ?_
        refine t_q (q_pick_t rfl rfl) ?_
        refine t_q (q_mv (.bool _) rfl) ?_
        refine t_no rfl rfl (by decide) ?_
        refine t_no rfl rfl (by decide) ?_
        refine t_no rfl rfl (by decide) ?_
        refine t_q (q_pick_t rfl rfl) ?_
        refine t_q (q_as (.bool _) rfl) ?_
        refine t_nil ?_
        refine c_cond_t rfl rfl ?_
        have h3 : ¬ (1 ≤ x.lot ∧ x.lot ≤ 1099511627776 ∧ 0 ≤ x.band ∧ x.band ≤ 1000000) := by
          rintro ⟨q1, q2, q3, q4⟩
          first | omega | (simp_all; omega)
        have hD := chk_3 h1 h2 h3
        refine c_seq ?_
        refine c_region ?_
        refine t_call Tryd.call36 (eown_calls (hS.pick (A := rdsA []) (by repeat first | exact .here _ _ | assumption | apply Pick.there))) rfl ?_
        rintro e w ⟨v, ps, rfl, hv, _, hS⟩
        refine ⟨_, rfl, ?_⟩
        rw [own_eq] at hv
        refine t_q (q_as v rfl) ?_
        refine t_nil ?_
        refine c_ret ?_
        refine r_one rfl rfl ?_
        rw [hD]
        first
          | exact ⟨_, ps, rfl, hv, (hS.pick (A := rdsA ps) (by repeat first | exact .here _ _ | assumption | apply Pick.there)).front1⟩
          | exact ⟨_, [], rfl, rfl, (hS.pick (A := rdsA []) (by repeat first | exact .here _ _ | assumption | apply Pick.there)).front1⟩
      · intro hg10
        have hg10d := of_decide_eq_false hg10
        refine t_yes rfl rfl hg10 ?_
        refine t_q (q_fieldAddr 2 Tryd.runUnderlying25 rfl Tryd.sizeOf2 (by decide) rfl rfl) ?_
        refine t_yes rfl rfl hg10 ?_
        refine t_q (q_load1 Tryd.isAgg2 rfl (hS.cell (by repeat first | exact .here _ _ | assumption | apply Pick.there) rfl)) ?_
        refine t_yes rfl rfl hg10 ?_
        refine t_q (q_gtr rfl rfl) ?_
        refine t_q (q_pick_f rfl hg10) ?_
        refine t_q (q_mv (.bool _) rfl) ?_
        refine t_case 27 rfl ?_ ?_
        · intro hg13
          have hg13d := of_decide_eq_true hg13
          refine t_no rfl rfl (by rw [hg13]; decide) ?_
          refine t_no rfl rfl (by rw [hg13]; decide) ?_
          refine t_no rfl rfl (by rw [hg13]; decide) ?_
          refine t_q (q_pick_t rfl hg13) ?_
          refine t_q (q_mv (.bool _) rfl) ?_
          refine t_no rfl rfl (by decide) ?_
          refine t_no rfl rfl (by decide) ?_
          refine t_no rfl rfl (by decide) ?_
          refine t_q (q_pick_t rfl rfl) ?_
          refine t_q (q_as (.bool _) rfl) ?_
          refine t_nil ?_
          refine c_cond_t rfl rfl ?_
          have h3 : ¬ (1 ≤ x.lot ∧ x.lot ≤ 1099511627776 ∧ 0 ≤ x.band ∧ x.band ≤ 1000000) := by
            rintro ⟨q1, q2, q3, q4⟩
            first | omega | (simp_all; omega)
          have hD := chk_3 h1 h2 h3
          refine c_seq ?_
          refine c_region ?_
          refine t_call Tryd.call36 (eown_calls (hS.pick (A := rdsA []) (by repeat first | exact .here _ _ | assumption | apply Pick.there))) rfl ?_
          rintro e w ⟨v, ps, rfl, hv, _, hS⟩
          refine ⟨_, rfl, ?_⟩
          rw [own_eq] at hv
          refine t_q (q_as v rfl) ?_
          refine t_nil ?_
          refine c_ret ?_
          refine r_one rfl rfl ?_
          rw [hD]
          first
            | exact ⟨_, ps, rfl, hv, (hS.pick (A := rdsA ps) (by repeat first | exact .here _ _ | assumption | apply Pick.there)).front1⟩
            | exact ⟨_, [], rfl, rfl, (hS.pick (A := rdsA []) (by repeat first | exact .here _ _ | assumption | apply Pick.there)).front1⟩
        · intro hg13
          have hg13d := of_decide_eq_false hg13
          refine t_yes rfl rfl hg13 ?_
          refine t_q (q_fieldAddr 3 Tryd.runUnderlying25 rfl Tryd.sizeOf2 (by decide) rfl rfl) ?_
          refine t_yes rfl rfl hg13 ?_
          refine t_q (q_load1 Tryd.isAgg2 rfl (hS.cell (by repeat first | exact .here _ _ | assumption | apply Pick.there) rfl)) ?_
          refine t_yes rfl rfl hg13 ?_
          refine t_q (q_lss rfl rfl) ?_
          refine t_q (q_pick_f rfl hg13) ?_
          refine t_q (q_mv (.bool _) rfl) ?_
          refine t_case 32 rfl ?_ ?_
          · intro hg16
            have hg16d := of_decide_eq_true hg16
            refine t_no rfl rfl (by rw [hg16]; decide) ?_
            refine t_no rfl rfl (by rw [hg16]; decide) ?_
            refine t_no rfl rfl (by rw [hg16]; decide) ?_
            refine t_q (q_pick_t rfl hg16) ?_
            refine t_q (q_as (.bool _) rfl) ?_
            refine t_nil ?_
            refine c_cond_t rfl rfl ?_
            have h3 : ¬ (1 ≤ x.lot ∧ x.lot ≤ 1099511627776 ∧ 0 ≤ x.band ∧ x.band ≤ 1000000) := by
              rintro ⟨q1, q2, q3, q4⟩
              first | omega | (simp_all; omega)
            have hD := chk_3 h1 h2 h3
            refine c_seq ?_
            refine c_region ?_
            refine t_call Tryd.call36 (eown_calls (hS.pick (A := rdsA []) (by repeat first | exact .here _ _ | assumption | apply Pick.there))) rfl ?_
            rintro e w ⟨v, ps, rfl, hv, _, hS⟩
            refine ⟨_, rfl, ?_⟩
            rw [own_eq] at hv
            refine t_q (q_as v rfl) ?_
            refine t_nil ?_
            refine c_ret ?_
            refine r_one rfl rfl ?_
            rw [hD]
            first
              | exact ⟨_, ps, rfl, hv, (hS.pick (A := rdsA ps) (by repeat first | exact .here _ _ | assumption | apply Pick.there)).front1⟩
              | exact ⟨_, [], rfl, rfl, (hS.pick (A := rdsA []) (by repeat first | exact .here _ _ | assumption | apply Pick.there)).front1⟩
          · intro hg16
            have hg16d := of_decide_eq_false hg16
            refine t_yes rfl rfl hg16 ?_
            refine t_q (q_fieldAddr 3 Tryd.runUnderlying25 rfl Tryd.sizeOf2 (by decide) rfl rfl) ?_
            refine t_yes rfl rfl hg16 ?_
            refine t_q (q_load1 Tryd.isAgg2 rfl (hS.cell (by repeat first | exact .here _ _ | assumption | apply Pick.there) rfl)) ?_
            refine t_yes rfl rfl hg16 ?_
            refine t_q (q_gtr rfl rfl) ?_
            refine t_q (q_pick_f rfl hg16) ?_
            refine t_q (q_as (.bool _) rfl) ?_
            refine t_nil ?_
            refine c_cond rfl ?_ ?_
            · intro hc19
              have hc19d := of_decide_eq_true hc19
              have h3 : ¬ (1 ≤ x.lot ∧ x.lot ≤ 1099511627776 ∧ 0 ≤ x.band ∧ x.band ≤ 1000000) := by
                rintro ⟨q1, q2, q3, q4⟩
                first | omega | (simp_all; omega)
              have hD := chk_3 h1 h2 h3
              refine c_seq ?_
              refine c_region ?_
              refine t_call Tryd.call36 (eown_calls (hS.pick (A := rdsA []) (by repeat first | exact .here _ _ | assumption | apply Pick.there))) rfl ?_
              rintro e w ⟨v, ps, rfl, hv, _, hS⟩
              refine ⟨_, rfl, ?_⟩
              rw [own_eq] at hv
              refine t_q (q_as v rfl) ?_
              refine t_nil ?_
              refine c_ret ?_
              refine r_one rfl rfl ?_
              rw [hD]
              first
                | exact ⟨_, ps, rfl, hv, (hS.pick (A := rdsA ps) (by repeat first | exact .here _ _ | assumption | apply Pick.there)).front1⟩
                | exact ⟨_, [], rfl, rfl, (hS.pick (A := rdsA []) (by repeat first | exact .here _ _ | assumption | apply Pick.there)).front1⟩
            · intro hc19
              have hc19d := of_decide_eq_false hc19
              have h3 : (1 ≤ x.lot ∧ x.lot ≤ 1099511627776 ∧ 0 ≤ x.band ∧ x.band ≤ 1000000) := by
                first | omega | (simp_all; omega)
              refine c_seq ?_
              refine c_region ?_
              refine t_q (q_fieldAddr 4 Tryd.runUnderlying25 rfl Tryd.sizeOf23 (by decide) rfl rfl) ?_
              refine t_q (q_load1 Tryd.isAgg23 rfl (hS.cell (by repeat first | exact .here _ _ | assumption | apply Pick.there) rfl)) ?_
              refine t_call Tryd.call39 (fchk_calls (l := x.fees.l) (hx.frd.st hS) hx.fin hx.fle) rfl ?_
              rintro e w ⟨rfl, hT⟩
              refine ⟨_, rfl, ?_⟩
              replace hS := hS.after hT
              refine t_q (q_neq rfl rfl) ?_
              refine t_q (q_as (.bool _) rfl) ?_
              refine t_nil ?_
              refine c_cond rfl ?_ ?_
              · intro hc23
                have hc23d := of_decide_eq_true hc23
                have h4 : ¬ GoodF x.fees.l := fun h => by rw [if_pos h] at *; omega
                have hD := chk_4 h1 h2 h3 h4
                refine c_seq ?_
                refine c_region ?_
                refine t_q (q_fieldAddr 4 Tryd.runUnderlying25 rfl Tryd.sizeOf23 (by decide) rfl rfl) ?_
                refine t_q (q_load1 Tryd.isAgg23 rfl (hS.cell (by repeat first | exact .here _ _ | assumption | apply Pick.there) rfl)) ?_
                refine t_call Tryd.call39 (fchk_calls (l := x.fees.l) (hx.frd.st hS) hx.fin hx.fle) rfl ?_
                rintro e w ⟨rfl, hT⟩
                refine ⟨_, rfl, ?_⟩
                replace hS := hS.after hT
                refine t_call Tryd.call38 (eof_calls (hS.pick (A := rdsA []) (by repeat first | exact .here _ _ | assumption | apply Pick.there))) rfl ?_
                rintro e w ⟨v, ps, rfl, hv, _, hS⟩
                refine ⟨_, rfl, ?_⟩
                rw [of_eq _ (by decide), if_neg h4] at hv
                refine t_q (q_as v rfl) ?_
                refine t_nil ?_
                refine c_ret ?_
                refine r_one rfl rfl ?_
                rw [hD]
                first
                  | exact ⟨_, ps, rfl, hv, (hS.pick (A := rdsA ps) (by repeat first | exact .here _ _ | assumption | apply Pick.there)).front1⟩
                  | exact ⟨_, [], rfl, rfl, (hS.pick (A := rdsA []) (by repeat first | exact .here _ _ | assumption | apply Pick.there)).front1⟩
              · intro hc23
                have hc23d := of_decide_eq_false hc23
                have h4 : GoodF x.fees.l := by
                  by_cases h : GoodF x.fees.l
                  · exact h
                  · rw [if_neg h] at *; omega
                refine c_seq ?_
                refine c_region ?_
                refine t_q (q_cast (v' := .agg x.cells.toArray) (q_load_blk Tryd.isAgg25 Tryd.sizeOf25 rfl (hS.blk (by repeat first | exact .here _ _ | assumption | apply Pick.there)) rfl) (by rfl)) ?_
                refine t_call Tryd.call40 (modes_calls (x := x)) rfl ?_
                rintro e w ⟨rfl, hT⟩
                refine ⟨_, rfl, ?_⟩
                replace hS := hS.after hT
                refine t_q (q_not rfl) ?_
                refine t_q (q_as (.bool _) rfl) ?_
                refine t_nil ?_
                refine c_cond rfl ?_ ?_
                · intro hc27
                  have h5 : ¬ ModesP x := of_decide_eq_false (not_back hc27)
                  have hD := chk_5 h1 h2 h3 h4 h5
                  refine c_seq ?_
                  refine c_region ?_
                  refine t_call Tryd.call36 (eown_calls (hS.pick (A := rdsA []) (by repeat first | exact .here _ _ | assumption | apply Pick.there))) rfl ?_
                  rintro e w ⟨v, ps, rfl, hv, _, hS⟩
                  refine ⟨_, rfl, ?_⟩
                  rw [own_eq] at hv
                  refine t_q (q_as v rfl) ?_
                  refine t_nil ?_
                  refine c_ret ?_
                  refine r_one rfl rfl ?_
                  rw [hD]
                  first
                    | exact ⟨_, ps, rfl, hv, (hS.pick (A := rdsA ps) (by repeat first | exact .here _ _ | assumption | apply Pick.there)).front1⟩
                    | exact ⟨_, [], rfl, rfl, (hS.pick (A := rdsA []) (by repeat first | exact .here _ _ | assumption | apply Pick.there)).front1⟩
                · intro hc27
                  have h5 : ModesP x := of_decide_eq_true (not_back hc27)
                  have hD := chk_6 h1 h2 h3 h4 h5
                  refine c_skip ?_
                  refine c_seq ?_
                  refine c_region ?_
                  refine t_q (q_assign) ?_
                  refine t_nil ?_
                  refine c_ret ?_
                  refine r_one rfl rfl ?_
                  rw [hD]
                  first
                    | exact ⟨_, ps, rfl, hv, (hS.pick (A := rdsA ps) (by repeat first | exact .here _ _ | assumption | apply Pick.there)).front1⟩
                    | exact ⟨_, [], rfl, rfl, (hS.pick (A := rdsA []) (by repeat first | exact .here _ _ | assumption | apply Pick.there)).front1⟩
set_option maxRecDepth 100000 in
theorem found_0 {w : World} {R : List Asn} {ps : List RdP} {layer : Int} (hE : EtOk W) (hS : St W w (rdsA ps :: R)) : Calls Tryd.prog 11 #[.nilIface, .int .i64 0, .int .i64 layer] w fun e w' => e = .returned (.bool true) ∧ St W w' (rdsA ps :: R) := by
  have hv : ErrL ps .nilIface [] := rfl
  refine calls_of_wpE (args := [_, _, _]) Tryd.func11 rfl rfl rfl ?_
  refine c_seq ?_
  refine c_region ?_
  refine t_q (q_assign) ?_
  refine t_nil ?_
  refine c_seq ?_
  refine c_region ?_
  refine t_q (q_mv .nilIface rfl) ?_
  refine t_call Tryd.call29 (layers_calls hE (hS.pick (A := rdsA ps) (by repeat first | exact .here _ _ | assumption | apply Pick.there)) hv (by simp)) rfl ?_
  rintro e w ⟨A9, c9, rfl, hS⟩
  refine ⟨_, rfl, ?_⟩
  refine t_q (q_as (.slice _ _ _) rfl) ?_
  refine t_nil ?_
  refine c_seq ?_
  refine c_seq ?_
  refine c_region ?_
  refine t_q (q_mv (.int _ _) rfl) ?_
  refine t_q (q_cast (v' := .bool true) (q_eql rfl rfl) (by rfl)) ?_
  refine t_nil ?_
  refine c_cond_t rfl rfl ?_
  refine c_seq ?_
  refine c_region ?_
  refine t_q (q_mv .nilIface rfl) ?_
  refine t_q (q_cast (v' := .bool true) (q_eql_iface_nil Tryd.runUnderlying32 rfl (.inl rfl)) (by rfl)) ?_
  refine t_q (q_mv (.bool _) rfl) ?_
  refine t_yes rfl rfl rfl ?_
  refine t_q (q_mv (.slice _ _ _) rfl) ?_
  refine t_yes rfl rfl rfl ?_
  refine t_q (q_len_slice Tryd.runUnderlying62 rfl) ?_
  refine t_yes rfl rfl rfl ?_
  refine t_q (q_cast (v' := .bool true) (q_eql rfl rfl) (by rfl)) ?_
  refine t_q (q_pick_t rfl rfl) ?_
  refine t_q (q_as (.bool _) rfl) ?_
  refine t_nil ?_
  refine c_ret ?_
  refine r_one rfl rfl ?_
  exact ⟨rfl, ((hS.pick (A := rowA 3 1 A9 (layF []).length c9 ((layF []).map (Value.int .i64))) (by repeat first | exact .here _ _ | assumption | apply Pick.there)).drop.pick (A := rdsA ps) (by repeat first | exact .here _ _ | assumption | apply Pick.there))⟩
set_option maxRecDepth 100000 in
theorem found_9 {w : World} {R : List Asn} {ps : List RdP} {t : Nat} {u : Value} {c l : Int} (hE : EtOk W) (hS : St W w (rdsA ps :: R)) (hv : ErrL ps (.iface t u) [(9, c)]) (hc : ¬ c = 0)  : Calls Tryd.prog 11 #[.iface t u, .int .i64 c, .int .i64 9] w fun e w' => e = .returned (.bool true) ∧ St W w' (rdsA ps :: R) := by
  have hll : (layF [(9, c)]).length = 1 := rfl
  refine calls_of_wpE (args := [_, _, _]) Tryd.func11 rfl rfl rfl ?_
  refine c_seq ?_
  refine c_region ?_
  refine t_q (q_assign) ?_
  refine t_nil ?_
  refine c_seq ?_
  refine c_region ?_
  refine t_q (q_mv (.iface _ _) rfl) ?_
  refine t_call Tryd.call29 (layers_calls hE (hS.pick (A := rdsA ps) (by repeat first | exact .here _ _ | assumption | apply Pick.there)) hv (by simp)) rfl ?_
  rintro e w ⟨A9, c9, rfl, hS⟩
  refine ⟨_, rfl, ?_⟩
  refine t_q (q_as (.slice _ _ _) rfl) ?_
  refine t_nil ?_
  refine c_seq ?_
  refine c_seq ?_
  refine c_region ?_
  refine t_q (q_mv (.int _ _) rfl) ?_
  refine t_q (q_cast (v' := .bool false) (q_eql rfl rfl) (congrArg Value.bool (decide_eq_false hc))) ?_
  refine t_nil ?_
  refine c_cond_f rfl rfl ?_
  refine c_skip ?_
  refine c_seq ?_
  refine c_seq ?_
  refine c_region ?_
  refine t_q (q_mv (.iface _ _) rfl) ?_
  refine t_call Tryd.call30 (code_calls hE (hS.pick (A := rdsA ps) (by repeat first | exact .here _ _ | assumption | apply Pick.there)) hv (by simp)) rfl ?_
  rintro e w ⟨rfl, hS⟩
  refine ⟨_, rfl, ?_⟩
  refine t_q (q_mv (.int _ _) rfl) ?_
  refine t_q (q_cast (v' := .bool false) (q_neq rfl rfl) (congrArg Value.bool (decide_eq_false (not_not_intro rfl)))) ?_
  refine t_q (q_mv (.bool _) rfl) ?_
  refine t_yes rfl rfl rfl ?_
  refine t_q (q_mv (.slice _ _ _) rfl) ?_
  refine t_yes rfl rfl rfl ?_
  refine t_q (q_len_slice Tryd.runUnderlying62 rfl) ?_
  refine t_yes rfl rfl rfl ?_
  refine t_q (q_cast (v' := .bool false) (q_eql rfl rfl) (by rfl)) ?_
  refine t_q (q_pick_f rfl rfl) ?_
  refine t_q (q_mv (.bool _) rfl) ?_
  refine t_yes rfl rfl rfl ?_
  refine t_q (q_mv (.slice _ _ _) rfl) ?_
  refine t_yes rfl rfl rfl ?_
  first | refine t_index_nat Tryd.runUnderlying62 Tryd.sizeOf3 ((hS.rowInts (ns := layF [(9, c)]) (A := A9) (c := c9) (by repeat first | exact .here _ _ | assumption | apply Pick.there) rfl)) rfl rfl (by show (0 : Int) ≤ 0 ∧ (0 : Int) < 1; decide) (fun ad6 hl6 hx6 => ?_) | refine t_index Tryd.runUnderlying62 Tryd.sizeOf3 ((hS.rowInts (ns := layF [(9, c)]) (A := A9) (c := c9) (by repeat first | exact .here _ _ | assumption | apply Pick.there) rfl)) rfl rfl (by show (0 : Int) ≤ 0 ∧ (0 : Int) < 1; decide) (fun ad6 hl6 hx6 => ?_)
  refine t_yes rfl rfl rfl ?_
  refine t_q (q_load1 Tryd.isAgg3 rfl (hx6 0 _ rfl)) ?_
  refine t_yes rfl rfl rfl ?_
  refine t_q (q_cast (v' := .bool false) (q_neq rfl rfl) (by rfl)) ?_
  refine t_q (q_pick_f rfl rfl) ?_
  refine t_q (q_mv (.bool _) rfl) ?_
  refine t_yes rfl rfl rfl ?_
  refine t_q (q_mv (.slice _ _ _) rfl) ?_
  refine t_yes rfl rfl rfl ?_
  refine t_q (q_mv (.slice _ _ _) rfl) ?_
  refine t_yes rfl rfl rfl ?_
  refine t_q (q_len_slice Tryd.runUnderlying62 rfl) ?_
  refine t_yes rfl rfl rfl ?_
  refine t_q (q_cast (v' := .int .i64 0) (q_sub_i64 rfl rfl (by omega)) (by rfl)) ?_
  refine t_yes rfl rfl rfl ?_
  first | refine t_index_nat Tryd.runUnderlying62 Tryd.sizeOf3 ((hS.rowInts (ns := layF [(9, c)]) (A := A9) (c := c9) (by repeat first | exact .here _ _ | assumption | apply Pick.there) rfl)) rfl rfl (by show (0 : Int) ≤ 0 ∧ (0 : Int) < 1; decide) (fun ad8 hl8 hx8 => ?_) | refine t_index Tryd.runUnderlying62 Tryd.sizeOf3 ((hS.rowInts (ns := layF [(9, c)]) (A := A9) (c := c9) (by repeat first | exact .here _ _ | assumption | apply Pick.there) rfl)) rfl rfl (by show (0 : Int) ≤ 0 ∧ (0 : Int) < 1; decide) (fun ad8 hl8 hx8 => ?_)
  refine t_yes rfl rfl rfl ?_
  refine t_q (q_load1 Tryd.isAgg3 rfl (hx8 0 _ rfl)) ?_
  refine t_yes rfl rfl rfl ?_
  refine t_q (q_mv (.int _ _) rfl) ?_
  refine t_yes rfl rfl rfl ?_
  refine t_q (q_cast (v' := .bool false) (q_neq rfl rfl) (congrArg Value.bool (decide_eq_false (not_not_intro rfl)))) ?_
  refine t_q (q_pick_f rfl rfl) ?_
  refine t_nil ?_
  refine c_cond_f rfl rfl ?_
  refine c_skip ?_
  refine c_seq ?_
  refine c_region ?_
  refine t_q (q_mv (.slice _ _ _) rfl) ?_
  refine t_q (q_len_slice Tryd.runUnderlying62 rfl) ?_
  refine t_q (q_cast (v' := .bool true) (q_eql rfl rfl) (by rfl)) ?_
  refine t_q (q_mv (.bool _) rfl) ?_
  refine t_yes rfl rfl rfl ?_
  refine t_q (q_mv (.int _ _) rfl) ?_
  refine t_yes rfl rfl rfl ?_
  refine t_q (q_cast (v' := .bool true) (q_eql rfl rfl) (by rfl)) ?_
  refine t_q (q_pick_t rfl rfl) ?_
  refine t_q (q_mv (.bool _) rfl) ?_
  refine t_no rfl rfl (by decide) ?_
  refine t_no rfl rfl (by decide) ?_
  refine t_no rfl rfl (by decide) ?_
  refine t_no rfl rfl (by decide) ?_
  refine t_nu rfl rfl ?_
  refine t_nu rfl rfl ?_
  refine t_no rfl rfl (by decide) ?_
  refine t_q (q_pick_t rfl rfl) ?_
  refine t_q (q_as (.bool _) rfl) ?_
  refine t_nil ?_
  refine c_ret ?_
  refine r_one rfl rfl ?_
  exact ⟨rfl, ((hS.pick (A := rowA 3 1 A9 (layF [(9, c)]).length c9 ((layF [(9, c)]).map (Value.int .i64))) (by repeat first | exact .here _ _ | assumption | apply Pick.there)).drop.pick (A := rdsA ps) (by repeat first | exact .here _ _ | assumption | apply Pick.there))⟩
set_option maxRecDepth 100000 in
theorem found_o {w : World} {R : List Asn} {ps : List RdP} {t : Nat} {u : Value} {c l : Int} (hE : EtOk W) (hS : St W w (rdsA ps :: R)) (hv : ErrL ps (.iface t u) [(9, 0), (l, c)]) (hc : ¬ c = 0) (hl : l ≠ 9) : Calls Tryd.prog 11 #[.iface t u, .int .i64 c, .int .i64 l] w fun e w' => e = .returned (.bool true) ∧ St W w' (rdsA ps :: R) := by
  have hll : (layF [(9, 0), (l, c)]).length = 2 := rfl
  refine calls_of_wpE (args := [_, _, _]) Tryd.func11 rfl rfl rfl ?_
  refine c_seq ?_
  refine c_region ?_
  refine t_q (q_assign) ?_
  refine t_nil ?_
  refine c_seq ?_
  refine c_region ?_
  refine t_q (q_mv (.iface _ _) rfl) ?_
  refine t_call Tryd.call29 (layers_calls hE (hS.pick (A := rdsA ps) (by repeat first | exact .here _ _ | assumption | apply Pick.there)) hv (by simp)) rfl ?_
  rintro e w ⟨A9, c9, rfl, hS⟩
  refine ⟨_, rfl, ?_⟩
  refine t_q (q_as (.slice _ _ _) rfl) ?_
  refine t_nil ?_
  refine c_seq ?_
  refine c_seq ?_
  refine c_region ?_
  refine t_q (q_mv (.int _ _) rfl) ?_
  refine t_q (q_cast (v' := .bool false) (q_eql rfl rfl) (congrArg Value.bool (decide_eq_false hc))) ?_
  refine t_nil ?_
  refine c_cond_f rfl rfl ?_
  refine c_skip ?_
  refine c_seq ?_
  refine c_seq ?_
  refine c_region ?_
  refine t_q (q_mv (.iface _ _) rfl) ?_
  refine t_call Tryd.call30 (code_calls hE (hS.pick (A := rdsA ps) (by repeat first | exact .here _ _ | assumption | apply Pick.there)) hv (by simp)) rfl ?_
  rintro e w ⟨rfl, hS⟩
  refine ⟨_, rfl, ?_⟩
  refine t_q (q_mv (.int _ _) rfl) ?_
  refine t_q (q_cast (v' := .bool false) (q_neq rfl rfl) (congrArg Value.bool (decide_eq_false (not_not_intro rfl)))) ?_
  refine t_q (q_mv (.bool _) rfl) ?_
  refine t_yes rfl rfl rfl ?_
  refine t_q (q_mv (.slice _ _ _) rfl) ?_
  refine t_yes rfl rfl rfl ?_
  refine t_q (q_len_slice Tryd.runUnderlying62 rfl) ?_
  refine t_yes rfl rfl rfl ?_
  refine t_q (q_cast (v' := .bool false) (q_eql rfl rfl) (by rfl)) ?_
  refine t_q (q_pick_f rfl rfl) ?_
  refine t_q (q_mv (.bool _) rfl) ?_
  refine t_yes rfl rfl rfl ?_
  refine t_q (q_mv (.slice _ _ _) rfl) ?_
  refine t_yes rfl rfl rfl ?_
  first | refine t_index_nat Tryd.runUnderlying62 Tryd.sizeOf3 ((hS.rowInts (ns := layF [(9, 0), (l, c)]) (A := A9) (c := c9) (by repeat first | exact .here _ _ | assumption | apply Pick.there) rfl)) rfl rfl (by show (0 : Int) ≤ 0 ∧ (0 : Int) < 2; decide) (fun ad6 hl6 hx6 => ?_) | refine t_index Tryd.runUnderlying62 Tryd.sizeOf3 ((hS.rowInts (ns := layF [(9, 0), (l, c)]) (A := A9) (c := c9) (by repeat first | exact .here _ _ | assumption | apply Pick.there) rfl)) rfl rfl (by show (0 : Int) ≤ 0 ∧ (0 : Int) < 2; decide) (fun ad6 hl6 hx6 => ?_)
  refine t_yes rfl rfl rfl ?_
  refine t_q (q_load1 Tryd.isAgg3 rfl (hx6 0 _ rfl)) ?_
  refine t_yes rfl rfl rfl ?_
  refine t_q (q_cast (v' := .bool false) (q_neq rfl rfl) (by rfl)) ?_
  refine t_q (q_pick_f rfl rfl) ?_
  refine t_q (q_mv (.bool _) rfl) ?_
  refine t_yes rfl rfl rfl ?_
  refine t_q (q_mv (.slice _ _ _) rfl) ?_
  refine t_yes rfl rfl rfl ?_
  refine t_q (q_mv (.slice _ _ _) rfl) ?_
  refine t_yes rfl rfl rfl ?_
  refine t_q (q_len_slice Tryd.runUnderlying62 rfl) ?_
  refine t_yes rfl rfl rfl ?_
  refine t_q (q_cast (v' := .int .i64 1) (q_sub_i64 rfl rfl (by omega)) (by rfl)) ?_
  refine t_yes rfl rfl rfl ?_
  first | refine t_index_nat Tryd.runUnderlying62 Tryd.sizeOf3 ((hS.rowInts (ns := layF [(9, 0), (l, c)]) (A := A9) (c := c9) (by repeat first | exact .here _ _ | assumption | apply Pick.there) rfl)) rfl rfl (by show (0 : Int) ≤ 1 ∧ (1 : Int) < 2; decide) (fun ad8 hl8 hx8 => ?_) | refine t_index Tryd.runUnderlying62 Tryd.sizeOf3 ((hS.rowInts (ns := layF [(9, 0), (l, c)]) (A := A9) (c := c9) (by repeat first | exact .here _ _ | assumption | apply Pick.there) rfl)) rfl rfl (by show (0 : Int) ≤ 1 ∧ (1 : Int) < 2; decide) (fun ad8 hl8 hx8 => ?_)
  refine t_yes rfl rfl rfl ?_
  refine t_q (q_load1 Tryd.isAgg3 rfl (hx8 0 _ rfl)) ?_
  refine t_yes rfl rfl rfl ?_
  refine t_q (q_mv (.int _ _) rfl) ?_
  refine t_yes rfl rfl rfl ?_
  refine t_q (q_cast (v' := .bool false) (q_neq rfl rfl) (congrArg Value.bool (decide_eq_false (not_not_intro rfl)))) ?_
  refine t_q (q_pick_f rfl rfl) ?_
  refine t_nil ?_
  refine c_cond_f rfl rfl ?_
  refine c_skip ?_
  refine c_seq ?_
  refine c_region ?_
  refine t_q (q_mv (.slice _ _ _) rfl) ?_
  refine t_q (q_len_slice Tryd.runUnderlying62 rfl) ?_
  refine t_q (q_cast (v' := .bool false) (q_eql rfl rfl) (by rfl)) ?_
  refine t_q (q_mv (.bool _) rfl) ?_
  refine t_no rfl rfl (by decide) ?_
  refine t_no rfl rfl (by decide) ?_
  refine t_q (q_pick_f rfl rfl) ?_
  refine t_q (q_mv (.bool _) rfl) ?_
  refine t_yes rfl rfl rfl ?_
  refine t_q (q_mv (.slice _ _ _) rfl) ?_
  refine t_yes rfl rfl rfl ?_
  refine t_q (q_len_slice Tryd.runUnderlying62 rfl) ?_
  refine t_yes rfl rfl rfl ?_
  refine t_q (q_cast (v' := .bool true) (q_eql rfl rfl) (by rfl)) ?_
  refine t_yes rfl rfl rfl ?_
  refine t_q (q_mv (.bool _) rfl) ?_
  refine t_yes rfl rfl rfl ?_
  refine t_q (q_mv (.int _ _) rfl) ?_
  refine t_yes rfl rfl rfl ?_
  refine t_q (q_cast (v' := .bool true) (q_neq rfl rfl) (congrArg Value.bool (decide_eq_true hl))) ?_
  refine t_yes rfl rfl rfl ?_
  refine t_q (q_pick_t rfl rfl) ?_
  refine t_q (q_pick_f rfl rfl) ?_
  refine t_q (q_as (.bool _) rfl) ?_
  refine t_nil ?_
  refine c_ret ?_
  refine r_one rfl rfl ?_
  exact ⟨rfl, ((hS.pick (A := rowA 3 1 A9 (layF [(9, 0), (l, c)]).length c9 ((layF [(9, 0), (l, c)]).map (Value.int .i64))) (by repeat first | exact .here _ _ | assumption | apply Pick.there)).drop.pick (A := rdsA ps) (by repeat first | exact .here _ _ | assumption | apply Pick.there))⟩
theorem found_calls {w : World} {R : List Asn} {ps : List RdP} {v : Value} {p : Int × Int} (hE : EtOk W) (hS : St W w (rdsA ps :: R)) (hv : ErrL ps v (errOf p)) : Calls Tryd.prog 11 #[v, .int .i64 p.1, .int .i64 p.2] w fun e w' => e = .returned (.bool true) ∧ St W w' (rdsA ps :: R) := by
  obtain ⟨c, l⟩ := p
  unfold errOf at hv
  by_cases hc : c = 0
  · rw [if_pos hc] at hv
    obtain rfl : v = .nilIface := hv
    subst hc
    exact found_0 hE hS
  · rw [if_neg hc] at hv
    by_cases hl : l = 9
    · rw [if_pos hl] at hv
      subst hl
      have hv2 := hv
      obtain ⟨g, u, rfl, _, _⟩ := hv2
      exact found_9 (l := 9) hE hS hv hc
    · rw [if_neg hl] at hv
      have hv2 := hv
      obtain ⟨g, u, rfl, _, _⟩ := hv2
      exact found_o hE hS hv hc hl
end Go.Proofs.YtmgobaojioaioaaDoor
