/- Registries: put, made, dropped. -/
import Derived.Test.YtmgobaojioaioaaWc
import Derived.Test.YtmgobaojioaioaaUb
namespace Go.Proofs.Ytmgobaojioaioaa
open Go Go.RowKit Go.Lib
variable {W : World}
attribute [local irreducible] blkA rowA rdsA mapA regA
set_option maxHeartbeats 1000000 in
set_option maxRecDepth 100000 in
theorem rgput_calls {w : World} {R : List Asn} {g : Nat} {M : List RuV} {ps : List RdP} {x : RuV} (hS : St W w (regA W g M ps :: rdsA ps :: R)) (hb : RuBy W ps x) : Calls Try.prog 21 #[.pointer (some ⟨g, 0, none⟩), .agg x.cells.toArray] w fun e w' => ∃ ps', e = .returned (.int .i64 (gputE M x)) ∧ (∀ p ∈ ps, p ∈ ps') ∧ St W w' (regA W g (gputM M x) ps' :: rdsA ps' :: R) := by
  obtain ⟨r, X, hk, hS⟩ := hS.reg
  obtain ⟨z, hget, hsome, hnf, hbz⟩ := reg_get hk x.version
  have hlk := hk.len
  refine calls_of_wpE (args := [_, _]) Try.func21 rfl rfl rfl ?_
  refine c_seq ?_
  refine c_region ?_
  refine t_box (v := (.agg _)) rfl rfl hS (fun g3 w hS => ?_)
  replace hS := hS.recast (show _ = blkA g3 47 [.int .i64 x.version, .slice x.ticks.A x.ticks.l.length x.ticks.c, .int .i64 x.lot, .int .i64 x.band, .slice x.fees.A x.fees.l.length x.fees.c, .int .i64 x.round, .int .i64 x.priority, .int .i64 x.self, .int .i64 x.layout] from rfl)
  refine t_q (q_assign) ?_
  refine t_nil ?_
  refine c_seq ?_
  refine c_seq ?_
  refine c_region ?_
  refine t_q (q_mv (.pointer _) rfl) ?_
  refine t_call Try.call73 (rgnone_calls hS (by repeat first | exact .here _ _ | assumption | apply Pick.there)) rfl ?_
  rintro e w ⟨rfl, hS⟩
  refine ⟨_, rfl, ?_⟩
  refine t_nil ?_
  refine c_cond_f rfl rfl ?_
  refine c_skip ?_
  refine c_seq ?_
  refine c_draw ?_
  refine d_keep3 (blkA g 120 [.map (some r)]) (mapA .i64 r (X.map rkv)) (blkA g3 47 [.int .i64 x.version, .slice x.ticks.A x.ticks.l.length x.ticks.c, .int .i64 x.lot, .int .i64 x.band, .slice x.fees.A x.fees.l.length x.fees.c, .int .i64 x.round, .int .i64 x.priority, .int .i64 x.self, .int .i64 x.layout]) 13 [0, 1, 2, 3, 4, 5, 6, 7, 8, 9, 10, 11, 12] [0, 1, 2, 3, 4, 5, 6, 7, 8, 10, 11, 9, 12] hS rfl (by kernel_rfl) (by kernel_rfl) (by kernel_rfl) (by kernel_rfl) (fun hap hsel w hS => ?_)
  refine p_q hap hsel 0 rfl rfl ⟨_, (((hS.pick (A := blkA g3 47 [.int .i64 x.version, .slice x.ticks.A x.ticks.l.length x.ticks.c, .int .i64 x.lot, .int .i64 x.band, .slice x.fees.A x.fees.l.length x.fees.c, .int .i64 x.round, .int .i64 x.priority, .int .i64 x.self, .int .i64 x.layout]) (by repeat first | exact .here _ _ | assumption | apply Pick.there)).pick (A := mapA .i64 r (X.map rkv)) (by repeat first | exact .here _ _ | assumption | apply Pick.there)).pick (A := blkA g 120 [.map (some r)]) (by repeat first | exact .here _ _ | assumption | apply Pick.there))⟩ (fun w hI => q_mv (.pointer _) rfl) ?_
  refine p_q hap hsel 1 rfl rfl ⟨_, (((hS.pick (A := blkA g3 47 [.int .i64 x.version, .slice x.ticks.A x.ticks.l.length x.ticks.c, .int .i64 x.lot, .int .i64 x.band, .slice x.fees.A x.fees.l.length x.fees.c, .int .i64 x.round, .int .i64 x.priority, .int .i64 x.self, .int .i64 x.layout]) (by repeat first | exact .here _ _ | assumption | apply Pick.there)).pick (A := mapA .i64 r (X.map rkv)) (by repeat first | exact .here _ _ | assumption | apply Pick.there)).pick (A := blkA g 120 [.map (some r)]) (by repeat first | exact .here _ _ | assumption | apply Pick.there))⟩ (fun w hI => q_nilCheck rfl) ?_
  refine p_q hap hsel 2 rfl rfl ⟨_, (((hS.pick (A := blkA g3 47 [.int .i64 x.version, .slice x.ticks.A x.ticks.l.length x.ticks.c, .int .i64 x.lot, .int .i64 x.band, .slice x.fees.A x.fees.l.length x.fees.c, .int .i64 x.round, .int .i64 x.priority, .int .i64 x.self, .int .i64 x.layout]) (by repeat first | exact .here _ _ | assumption | apply Pick.there)).pick (A := mapA .i64 r (X.map rkv)) (by repeat first | exact .here _ _ | assumption | apply Pick.there)).pick (A := blkA g 120 [.map (some r)]) (by repeat first | exact .here _ _ | assumption | apply Pick.there))⟩ (fun w hI => q_fieldAddr 0 Try.runUnderlying120 rfl Try.sizeOf118 (by decide) rfl rfl) ?_
  refine p_q hap hsel 3 rfl rfl ⟨_, (((hS.pick (A := blkA g3 47 [.int .i64 x.version, .slice x.ticks.A x.ticks.l.length x.ticks.c, .int .i64 x.lot, .int .i64 x.band, .slice x.fees.A x.fees.l.length x.fees.c, .int .i64 x.round, .int .i64 x.priority, .int .i64 x.self, .int .i64 x.layout]) (by repeat first | exact .here _ _ | assumption | apply Pick.there)).pick (A := mapA .i64 r (X.map rkv)) (by repeat first | exact .here _ _ | assumption | apply Pick.there)).pick (A := blkA g 120 [.map (some r)]) (by repeat first | exact .here _ _ | assumption | apply Pick.there))⟩ (fun w hI => q_load1 Try.isAgg118 rfl (hI.choose_spec.cell (by repeat first | exact .here _ _ | assumption | apply Pick.there) rfl)) ?_
  refine p_q hap hsel 4 rfl rfl ⟨_, (((hS.pick (A := blkA g3 47 [.int .i64 x.version, .slice x.ticks.A x.ticks.l.length x.ticks.c, .int .i64 x.lot, .int .i64 x.band, .slice x.fees.A x.fees.l.length x.fees.c, .int .i64 x.round, .int .i64 x.priority, .int .i64 x.self, .int .i64 x.layout]) (by repeat first | exact .here _ _ | assumption | apply Pick.there)).pick (A := mapA .i64 r (X.map rkv)) (by repeat first | exact .here _ _ | assumption | apply Pick.there)).pick (A := blkA g 120 [.map (some r)]) (by repeat first | exact .here _ _ | assumption | apply Pick.there))⟩ (fun w hI => q_fieldAddr 0 Try.runUnderlying47 rfl Try.sizeOf3 (by decide) rfl rfl) ?_
  refine p_q hap hsel 5 rfl rfl ⟨_, (((hS.pick (A := blkA g3 47 [.int .i64 x.version, .slice x.ticks.A x.ticks.l.length x.ticks.c, .int .i64 x.lot, .int .i64 x.band, .slice x.fees.A x.fees.l.length x.fees.c, .int .i64 x.round, .int .i64 x.priority, .int .i64 x.self, .int .i64 x.layout]) (by repeat first | exact .here _ _ | assumption | apply Pick.there)).pick (A := mapA .i64 r (X.map rkv)) (by repeat first | exact .here _ _ | assumption | apply Pick.there)).pick (A := blkA g 120 [.map (some r)]) (by repeat first | exact .here _ _ | assumption | apply Pick.there))⟩ (fun w hI => q_load1 Try.isAgg3 rfl (hI.choose_spec.cell (by repeat first | exact .here _ _ | assumption | apply Pick.there) rfl)) ?_
  refine p_q hap hsel 6 rfl rfl ⟨_, (((hS.pick (A := blkA g3 47 [.int .i64 x.version, .slice x.ticks.A x.ticks.l.length x.ticks.c, .int .i64 x.lot, .int .i64 x.band, .slice x.fees.A x.fees.l.length x.fees.c, .int .i64 x.round, .int .i64 x.priority, .int .i64 x.self, .int .i64 x.layout]) (by repeat first | exact .here _ _ | assumption | apply Pick.there)).pick (A := mapA .i64 r (X.map rkv)) (by repeat first | exact .here _ _ | assumption | apply Pick.there)).pick (A := blkA g 120 [.map (some r)]) (by repeat first | exact .here _ _ | assumption | apply Pick.there))⟩ (fun w hI => (q_cast (v' := .tuple #[.agg z.cells.toArray, .bool (rgF M x.version).isSome]) (q_lookup (ok := true) Try.underlying118 Try.underlying3 Try.zeroValue47 (hI.choose_spec) (by repeat first | exact .here _ _ | assumption | apply Pick.there) rfl rfl) (show Value.tuple #[(mfind (X.map rkv) x.version).getD (.agg ruZ.cells.toArray), .bool (mfind (X.map rkv) x.version).isSome] = _ from by rw [hget, hsome]))) ?_
  refine p_q hap hsel 7 rfl rfl ⟨_, (((hS.pick (A := blkA g3 47 [.int .i64 x.version, .slice x.ticks.A x.ticks.l.length x.ticks.c, .int .i64 x.lot, .int .i64 x.band, .slice x.fees.A x.fees.l.length x.fees.c, .int .i64 x.round, .int .i64 x.priority, .int .i64 x.self, .int .i64 x.layout]) (by repeat first | exact .here _ _ | assumption | apply Pick.there)).pick (A := mapA .i64 r (X.map rkv)) (by repeat first | exact .here _ _ | assumption | apply Pick.there)).pick (A := blkA g 120 [.map (some r)]) (by repeat first | exact .here _ _ | assumption | apply Pick.there))⟩ (fun w hI => q_mv (.tuple _) rfl) ?_
  refine p_q hap hsel 8 rfl rfl ⟨_, (((hS.pick (A := blkA g3 47 [.int .i64 x.version, .slice x.ticks.A x.ticks.l.length x.ticks.c, .int .i64 x.lot, .int .i64 x.band, .slice x.fees.A x.fees.l.length x.fees.c, .int .i64 x.round, .int .i64 x.priority, .int .i64 x.self, .int .i64 x.layout]) (by repeat first | exact .here _ _ | assumption | apply Pick.there)).pick (A := mapA .i64 r (X.map rkv)) (by repeat first | exact .here _ _ | assumption | apply Pick.there)).pick (A := blkA g 120 [.map (some r)]) (by repeat first | exact .here _ _ | assumption | apply Pick.there))⟩ (fun w hI => q_extract rfl rfl) ?_
  refine p_q hap hsel 9 rfl rfl ⟨_, (((hS.pick (A := blkA g3 47 [.int .i64 x.version, .slice x.ticks.A x.ticks.l.length x.ticks.c, .int .i64 x.lot, .int .i64 x.band, .slice x.fees.A x.fees.l.length x.fees.c, .int .i64 x.round, .int .i64 x.priority, .int .i64 x.self, .int .i64 x.layout]) (by repeat first | exact .here _ _ | assumption | apply Pick.there)).pick (A := mapA .i64 r (X.map rkv)) (by repeat first | exact .here _ _ | assumption | apply Pick.there)).pick (A := blkA g 120 [.map (some r)]) (by repeat first | exact .here _ _ | assumption | apply Pick.there))⟩ (fun w hI => q_extract rfl rfl) ?_
  refine p_one 10 rfl (by kernel_rfl) ?_
  refine t_alloc Try.zeroValue47 rfl hS (fun g5 w hS => ?_)
  refine t_nil ?_
  refine ⟨.inr ⟨_, (((hS.pick (A := blkA g3 47 [.int .i64 x.version, .slice x.ticks.A x.ticks.l.length x.ticks.c, .int .i64 x.lot, .int .i64 x.band, .slice x.fees.A x.fees.l.length x.fees.c, .int .i64 x.round, .int .i64 x.priority, .int .i64 x.self, .int .i64 x.layout]) (by repeat first | exact .here _ _ | assumption | apply Pick.there)).pick (A := mapA .i64 r (X.map rkv)) (by repeat first | exact .here _ _ | assumption | apply Pick.there)).pick (A := blkA g 120 [.map (some r)]) (by repeat first | exact .here _ _ | assumption | apply Pick.there))⟩, ?_⟩
  refine p_one 11 rfl (by kernel_rfl) ?_
  refine t_store (v := (.agg _)) Try.sizeOf47 hS (by repeat first | exact .here _ _ | assumption | apply Pick.there) rfl rfl rfl rfl rfl rfl (fun w hS => ?_)
  replace hS := hS.recast (congrArg (blkA g5 47) (rset_full (vs := z.cells) rfl))
  replace hS := hS.recast (show _ = blkA g5 47 [.int .i64 z.version, .slice z.ticks.A z.ticks.l.length z.ticks.c, .int .i64 z.lot, .int .i64 z.band, .slice z.fees.A z.fees.l.length z.fees.c, .int .i64 z.round, .int .i64 z.priority, .int .i64 z.self, .int .i64 z.layout] from rfl)
  refine t_nil ?_
  refine ⟨.inr ⟨_, (((hS.pick (A := blkA g3 47 [.int .i64 x.version, .slice x.ticks.A x.ticks.l.length x.ticks.c, .int .i64 x.lot, .int .i64 x.band, .slice x.fees.A x.fees.l.length x.fees.c, .int .i64 x.round, .int .i64 x.priority, .int .i64 x.self, .int .i64 x.layout]) (by repeat first | exact .here _ _ | assumption | apply Pick.there)).pick (A := mapA .i64 r (X.map rkv)) (by repeat first | exact .here _ _ | assumption | apply Pick.there)).pick (A := blkA g 120 [.map (some r)]) (by repeat first | exact .here _ _ | assumption | apply Pick.there))⟩, ?_⟩
  refine p_q hap hsel 12 rfl rfl ⟨_, (((hS.pick (A := blkA g3 47 [.int .i64 x.version, .slice x.ticks.A x.ticks.l.length x.ticks.c, .int .i64 x.lot, .int .i64 x.band, .slice x.fees.A x.fees.l.length x.fees.c, .int .i64 x.round, .int .i64 x.priority, .int .i64 x.self, .int .i64 x.layout]) (by repeat first | exact .here _ _ | assumption | apply Pick.there)).pick (A := mapA .i64 r (X.map rkv)) (by repeat first | exact .here _ _ | assumption | apply Pick.there)).pick (A := blkA g 120 [.map (some r)]) (by repeat first | exact .here _ _ | assumption | apply Pick.there))⟩ (fun w hI => q_as (.bool _) rfl) ?_
  refine p_end (by kernel_rfl) ?_
  refine c_seq ?_
  refine c_block ?_
  refine c_seq ?_
  refine c_region ?_
  refine t_q (q_cast (v' := .agg x.cells.toArray) (q_load_blk Try.isAgg47 Try.sizeOf47 rfl (hS.blk (by repeat first | exact .here _ _ | assumption | apply Pick.there)) rfl) (by rfl)) ?_
  refine t_call Try.call74 (rcheck_calls (x := x) (hb.gd hS (by repeat first | exact .here _ _ | assumption | apply Pick.there))) rfl ?_
  rintro e w ⟨v, rfl, hIf, hnil, hT⟩
  refine ⟨_, rfl, ?_⟩
  replace hS := hS.after hT
  refine t_q (q_neq_iface_nil Try.runUnderlying135 rfl (hIf)) ?_
  refine t_q (q_as (.bool _) rfl) ?_
  refine t_nil ?_
  refine c_cond rfl ?_ ?_
  · intro hc6
    have h1 : goodR x = false := by rw [← hnil]; exact bnt (by assumption : (!isNilI v) = true)
    obtain ⟨e1, e2⟩ := gputE_1 (M := M) h1
    refine c_seq ?_
    refine c_region ?_
    refine t_q (q_assign) ?_
    refine t_nil ?_
    refine c_ret ?_
    refine r_one rfl rfl ?_
    first
      | (rw [e1, e2]
         exact ⟨ps, rfl, (fun _ h => h), (((St.unreg hk ((((hS.pick (A := blkA g3 47 _) (by repeat first | exact .here _ _ | assumption | apply Pick.there)).drop.pick (A := blkA g5 47 _) (by repeat first | exact .here _ _ | assumption | apply Pick.there)).drop.pick (A := mapA .i64 r (X.map rkv)) (by repeat first | exact .here _ _ | assumption | apply Pick.there)).pick (A := blkA g 120 [.map (some r)]) (by repeat first | exact .here _ _ | assumption | apply Pick.there))).pick (A := rdsA _) (by repeat first | exact .here _ _ | assumption | apply Pick.there)).pick (A := regA W g _ _) (by repeat first | exact .here _ _ | assumption | apply Pick.there))⟩)
      | (have hS0 := ((hS.pick (A := blkA g3 47 _) (by repeat first | exact .here _ _ | assumption | apply Pick.there)).drop.pick (A := blkA g5 47 _) (by repeat first | exact .here _ _ | assumption | apply Pick.there)).drop
         have hS1 := rows_rds (y := (x.own A39 c39 B39 d39)) (((hS0.pick (A := rdsA ps) (by repeat first | exact .here _ _ | assumption | apply Pick.there)).pick (A := rowA 170 3 B39 x.fees.l.length d39 (x.fees.l.flatMap Tr.cells)) (by repeat first | exact .here _ _ | assumption | apply Pick.there)).pick (A := rowA 168 2 A39 x.ticks.l.length c39 (x.ticks.l.flatMap Tk.cells)) (by repeat first | exact .here _ _ | assumption | apply Pick.there))
         rw [e0]
         exact ⟨ruP (x.own A39 c39 B39 d39) ++ ps, rfl, (fun p hp => List.mem_append_right _ hp), (((St.unreg (reg_put hk e0 (y := (x.own A39 c39 B39 d39)) rfl (RuBy.own hgx (fun p hp => List.mem_append_left _ hp)) (fun p hp => List.mem_append_right _ hp)) ((hS1.pick (A := mapA .i64 r _) (by repeat first | exact .here _ _ | assumption | apply Pick.there)).pick (A := blkA g 120 [.map (some r)]) (by repeat first | exact .here _ _ | assumption | apply Pick.there))).pick (A := rdsA _) (by repeat first | exact .here _ _ | assumption | apply Pick.there)).pick (A := regA W g _ _) (by repeat first | exact .here _ _ | assumption | apply Pick.there))⟩)
  · intro hc6
    have h1 : goodR x = true := by rw [← hnil]; exact bnf (by assumption : (!isNilI v) = false)
    refine c_seq ?_
    refine c_region ?_
    refine t_q (q_mv (.bool _) rfl) ?_
    refine t_q (q_as (.bool _) rfl) ?_
    refine t_nil ?_
    refine c_cond rfl ?_ ?_
    · intro hc7
      obtain ⟨e1, e2⟩ := gputE_2 (M := M) h1 hc7
      refine c_seq ?_
      refine c_region ?_
      refine t_q (q_assign) ?_
      refine t_nil ?_
      refine c_ret ?_
      refine r_one rfl rfl ?_
      first
        | (rw [e1, e2]
           exact ⟨ps, rfl, (fun _ h => h), (((St.unreg hk ((((hS.pick (A := blkA g3 47 _) (by repeat first | exact .here _ _ | assumption | apply Pick.there)).drop.pick (A := blkA g5 47 _) (by repeat first | exact .here _ _ | assumption | apply Pick.there)).drop.pick (A := mapA .i64 r (X.map rkv)) (by repeat first | exact .here _ _ | assumption | apply Pick.there)).pick (A := blkA g 120 [.map (some r)]) (by repeat first | exact .here _ _ | assumption | apply Pick.there))).pick (A := rdsA _) (by repeat first | exact .here _ _ | assumption | apply Pick.there)).pick (A := regA W g _ _) (by repeat first | exact .here _ _ | assumption | apply Pick.there))⟩)
        | (have hS0 := ((hS.pick (A := blkA g3 47 _) (by repeat first | exact .here _ _ | assumption | apply Pick.there)).drop.pick (A := blkA g5 47 _) (by repeat first | exact .here _ _ | assumption | apply Pick.there)).drop
           have hS1 := rows_rds (y := (x.own A39 c39 B39 d39)) (((hS0.pick (A := rdsA ps) (by repeat first | exact .here _ _ | assumption | apply Pick.there)).pick (A := rowA 170 3 B39 x.fees.l.length d39 (x.fees.l.flatMap Tr.cells)) (by repeat first | exact .here _ _ | assumption | apply Pick.there)).pick (A := rowA 168 2 A39 x.ticks.l.length c39 (x.ticks.l.flatMap Tk.cells)) (by repeat first | exact .here _ _ | assumption | apply Pick.there))
           rw [e0]
           exact ⟨ruP (x.own A39 c39 B39 d39) ++ ps, rfl, (fun p hp => List.mem_append_right _ hp), (((St.unreg (reg_put hk e0 (y := (x.own A39 c39 B39 d39)) rfl (RuBy.own hgx (fun p hp => List.mem_append_left _ hp)) (fun p hp => List.mem_append_right _ hp)) ((hS1.pick (A := mapA .i64 r _) (by repeat first | exact .here _ _ | assumption | apply Pick.there)).pick (A := blkA g 120 [.map (some r)]) (by repeat first | exact .here _ _ | assumption | apply Pick.there))).pick (A := rdsA _) (by repeat first | exact .here _ _ | assumption | apply Pick.there)).pick (A := regA W g _ _) (by repeat first | exact .here _ _ | assumption | apply Pick.there))⟩)
    · intro hc7
      have h2 : (rgF M x.version).isSome = false := hc7
      refine c_seq ?_
      refine c_region ?_
      refine t_q (q_mv (.pointer _) rfl) ?_
      refine t_q (q_nilCheck rfl) ?_
      refine t_q (q_fieldAddr 0 Try.runUnderlying120 rfl Try.sizeOf118 (by decide) rfl rfl) ?_
      refine t_q (q_load1 Try.isAgg118 rfl (hS.cell (by repeat first | exact .here _ _ | assumption | apply Pick.there) rfl)) ?_
      refine t_q (q_len_map Try.underlying118 (hS) (by repeat first | exact .here _ _ | assumption | apply Pick.there) rfl) ?_
      refine t_q (q_geq rfl rfl) ?_
      refine t_q (q_as (.bool _) rfl) ?_
      refine t_nil ?_
      refine c_cond rfl ?_ ?_
      · intro hc9
        have hc9d := of_decide_eq_true hc9
        have h3 : 16 ≤ M.length := by
          have h4 := hc9d
          rw [List.length_map] at h4
          omega
        obtain ⟨e1, e2⟩ := gputE_3 (M := M) h1 h2 h3
        refine c_seq ?_
        refine c_region ?_
        refine t_q (q_assign) ?_
        refine t_nil ?_
        refine c_ret ?_
        refine r_one rfl rfl ?_
        first
          | (rw [e1, e2]
             exact ⟨ps, rfl, (fun _ h => h), (((St.unreg hk ((((hS.pick (A := blkA g3 47 _) (by repeat first | exact .here _ _ | assumption | apply Pick.there)).drop.pick (A := blkA g5 47 _) (by repeat first | exact .here _ _ | assumption | apply Pick.there)).drop.pick (A := mapA .i64 r (X.map rkv)) (by repeat first | exact .here _ _ | assumption | apply Pick.there)).pick (A := blkA g 120 [.map (some r)]) (by repeat first | exact .here _ _ | assumption | apply Pick.there))).pick (A := rdsA _) (by repeat first | exact .here _ _ | assumption | apply Pick.there)).pick (A := regA W g _ _) (by repeat first | exact .here _ _ | assumption | apply Pick.there))⟩)
          | (have hS0 := ((hS.pick (A := blkA g3 47 _) (by repeat first | exact .here _ _ | assumption | apply Pick.there)).drop.pick (A := blkA g5 47 _) (by repeat first | exact .here _ _ | assumption | apply Pick.there)).drop
             have hS1 := rows_rds (y := (x.own A39 c39 B39 d39)) (((hS0.pick (A := rdsA ps) (by repeat first | exact .here _ _ | assumption | apply Pick.there)).pick (A := rowA 170 3 B39 x.fees.l.length d39 (x.fees.l.flatMap Tr.cells)) (by repeat first | exact .here _ _ | assumption | apply Pick.there)).pick (A := rowA 168 2 A39 x.ticks.l.length c39 (x.ticks.l.flatMap Tk.cells)) (by repeat first | exact .here _ _ | assumption | apply Pick.there))
             rw [e0]
             exact ⟨ruP (x.own A39 c39 B39 d39) ++ ps, rfl, (fun p hp => List.mem_append_right _ hp), (((St.unreg (reg_put hk e0 (y := (x.own A39 c39 B39 d39)) rfl (RuBy.own hgx (fun p hp => List.mem_append_left _ hp)) (fun p hp => List.mem_append_right _ hp)) ((hS1.pick (A := mapA .i64 r _) (by repeat first | exact .here _ _ | assumption | apply Pick.there)).pick (A := blkA g 120 [.map (some r)]) (by repeat first | exact .here _ _ | assumption | apply Pick.there))).pick (A := rdsA _) (by repeat first | exact .here _ _ | assumption | apply Pick.there)).pick (A := regA W g _ _) (by repeat first | exact .here _ _ | assumption | apply Pick.there))⟩)
      · intro hc9
        have hc9d := of_decide_eq_false hc9
        have h3 : ¬ 16 ≤ M.length := by
          have h4 := hc9d
          rw [List.length_map] at h4
          omega
        have e0 := (gputE_4 (M := M) h1 h2 h3).1
        refine c_skip ?_
        refine c_seq ?_
        refine c_draw ?_
        refine d_keep2 (blkA g 120 [.map (some r)]) (blkA g3 47 [.int .i64 x.version, .slice x.ticks.A x.ticks.l.length x.ticks.c, .int .i64 x.lot, .int .i64 x.band, .slice x.fees.A x.fees.l.length x.fees.c, .int .i64 x.round, .int .i64 x.priority, .int .i64 x.self, .int .i64 x.layout]) 9 [0, 1, 2, 3, 4, 5, 6, 7, 8] [0, 1, 2, 3, 4, 5, 6, 7, 8] hS rfl (by kernel_rfl) (by kernel_rfl) (by kernel_rfl) (by kernel_rfl) (fun hap hsel w hS => ?_)
        refine p_q hap hsel 0 rfl rfl ⟨_, ((hS.pick (A := blkA g3 47 [.int .i64 x.version, .slice x.ticks.A x.ticks.l.length x.ticks.c, .int .i64 x.lot, .int .i64 x.band, .slice x.fees.A x.fees.l.length x.fees.c, .int .i64 x.round, .int .i64 x.priority, .int .i64 x.self, .int .i64 x.layout]) (by repeat first | exact .here _ _ | assumption | apply Pick.there)).pick (A := blkA g 120 [.map (some r)]) (by repeat first | exact .here _ _ | assumption | apply Pick.there))⟩ (fun w hI => q_mv (.pointer _) rfl) ?_
        refine p_q hap hsel 1 rfl rfl ⟨_, ((hS.pick (A := blkA g3 47 [.int .i64 x.version, .slice x.ticks.A x.ticks.l.length x.ticks.c, .int .i64 x.lot, .int .i64 x.band, .slice x.fees.A x.fees.l.length x.fees.c, .int .i64 x.round, .int .i64 x.priority, .int .i64 x.self, .int .i64 x.layout]) (by repeat first | exact .here _ _ | assumption | apply Pick.there)).pick (A := blkA g 120 [.map (some r)]) (by repeat first | exact .here _ _ | assumption | apply Pick.there))⟩ (fun w hI => q_nilCheck rfl) ?_
        refine p_q hap hsel 2 rfl rfl ⟨_, ((hS.pick (A := blkA g3 47 [.int .i64 x.version, .slice x.ticks.A x.ticks.l.length x.ticks.c, .int .i64 x.lot, .int .i64 x.band, .slice x.fees.A x.fees.l.length x.fees.c, .int .i64 x.round, .int .i64 x.priority, .int .i64 x.self, .int .i64 x.layout]) (by repeat first | exact .here _ _ | assumption | apply Pick.there)).pick (A := blkA g 120 [.map (some r)]) (by repeat first | exact .here _ _ | assumption | apply Pick.there))⟩ (fun w hI => q_fieldAddr 0 Try.runUnderlying120 rfl Try.sizeOf118 (by decide) rfl rfl) ?_
        refine p_q hap hsel 3 rfl rfl ⟨_, ((hS.pick (A := blkA g3 47 [.int .i64 x.version, .slice x.ticks.A x.ticks.l.length x.ticks.c, .int .i64 x.lot, .int .i64 x.band, .slice x.fees.A x.fees.l.length x.fees.c, .int .i64 x.round, .int .i64 x.priority, .int .i64 x.self, .int .i64 x.layout]) (by repeat first | exact .here _ _ | assumption | apply Pick.there)).pick (A := blkA g 120 [.map (some r)]) (by repeat first | exact .here _ _ | assumption | apply Pick.there))⟩ (fun w hI => q_load1 Try.isAgg118 rfl (hI.choose_spec.cell (by repeat first | exact .here _ _ | assumption | apply Pick.there) rfl)) ?_
        refine p_q hap hsel 4 rfl rfl ⟨_, ((hS.pick (A := blkA g3 47 [.int .i64 x.version, .slice x.ticks.A x.ticks.l.length x.ticks.c, .int .i64 x.lot, .int .i64 x.band, .slice x.fees.A x.fees.l.length x.fees.c, .int .i64 x.round, .int .i64 x.priority, .int .i64 x.self, .int .i64 x.layout]) (by repeat first | exact .here _ _ | assumption | apply Pick.there)).pick (A := blkA g 120 [.map (some r)]) (by repeat first | exact .here _ _ | assumption | apply Pick.there))⟩ (fun w hI => q_fieldAddr 0 Try.runUnderlying47 rfl Try.sizeOf3 (by decide) rfl rfl) ?_
        refine p_q hap hsel 5 rfl rfl ⟨_, ((hS.pick (A := blkA g3 47 [.int .i64 x.version, .slice x.ticks.A x.ticks.l.length x.ticks.c, .int .i64 x.lot, .int .i64 x.band, .slice x.fees.A x.fees.l.length x.fees.c, .int .i64 x.round, .int .i64 x.priority, .int .i64 x.self, .int .i64 x.layout]) (by repeat first | exact .here _ _ | assumption | apply Pick.there)).pick (A := blkA g 120 [.map (some r)]) (by repeat first | exact .here _ _ | assumption | apply Pick.there))⟩ (fun w hI => q_load1 Try.isAgg3 rfl (hI.choose_spec.cell (by repeat first | exact .here _ _ | assumption | apply Pick.there) rfl)) ?_
        refine p_q hap hsel 6 rfl rfl ⟨_, ((hS.pick (A := blkA g3 47 [.int .i64 x.version, .slice x.ticks.A x.ticks.l.length x.ticks.c, .int .i64 x.lot, .int .i64 x.band, .slice x.fees.A x.fees.l.length x.fees.c, .int .i64 x.round, .int .i64 x.priority, .int .i64 x.self, .int .i64 x.layout]) (by repeat first | exact .here _ _ | assumption | apply Pick.there)).pick (A := blkA g 120 [.map (some r)]) (by repeat first | exact .here _ _ | assumption | apply Pick.there))⟩ (fun w hI => (q_cast (v' := .agg x.cells.toArray) (q_load_blk Try.isAgg47 Try.sizeOf47 rfl (hI.choose_spec.blk (by repeat first | exact .here _ _ | assumption | apply Pick.there)) rfl) (by rfl))) ?_
        refine p_one 7 rfl (by kernel_rfl) ?_
        refine t_call Try.call75 (rcopy_calls (x := x) (hb.gd hS (by repeat first | exact .here _ _ | assumption | apply Pick.there))) rfl ?_
        rintro e w ⟨A39, c39, B39, d39, rfl, hT⟩
        refine ⟨_, rfl, ?_⟩
        have hgx := hb.gd hS (by repeat first | exact .here _ _ | assumption | apply Pick.there)
        have hS : St W w (_ :: _) := hS.lift hT
        refine t_nil ?_
        refine ⟨.inr ⟨_, ((hS.pick (A := blkA g3 47 [.int .i64 x.version, .slice x.ticks.A x.ticks.l.length x.ticks.c, .int .i64 x.lot, .int .i64 x.band, .slice x.fees.A x.fees.l.length x.fees.c, .int .i64 x.round, .int .i64 x.priority, .int .i64 x.self, .int .i64 x.layout]) (by repeat first | exact .here _ _ | assumption | apply Pick.there)).pick (A := blkA g 120 [.map (some r)]) (by repeat first | exact .here _ _ | assumption | apply Pick.there))⟩, ?_⟩
        refine p_one 8 rfl (by kernel_rfl) ?_
        refine t_mapUpdate Try.underlying118 Try.underlying3 hS (by repeat first | exact .here _ _ | assumption | apply Pick.there) rfl rfl rfl (fun w hS => ?_)
        replace hS := hS.recast (congrArg (mapA .i64 r) (show _ = (X ++ [(x.own A39 c39 B39 d39)]).map rkv from by rw [reg_new hk h2, List.map_append]; rfl))
        refine t_nil ?_
        refine ⟨.inl (by kernel_rfl), ?_⟩
        refine p_end (by kernel_rfl) ?_
        refine c_seq ?_
        refine c_region ?_
        refine t_q (q_assign) ?_
        refine t_nil ?_
        refine c_ret ?_
        refine r_one rfl rfl ?_
        first
          | (rw [e1, e2]
             exact ⟨ps, rfl, (fun _ h => h), (((St.unreg hk ((((hS.pick (A := blkA g3 47 _) (by repeat first | exact .here _ _ | assumption | apply Pick.there)).drop.pick (A := blkA g5 47 _) (by repeat first | exact .here _ _ | assumption | apply Pick.there)).drop.pick (A := mapA .i64 r (X.map rkv)) (by repeat first | exact .here _ _ | assumption | apply Pick.there)).pick (A := blkA g 120 [.map (some r)]) (by repeat first | exact .here _ _ | assumption | apply Pick.there))).pick (A := rdsA _) (by repeat first | exact .here _ _ | assumption | apply Pick.there)).pick (A := regA W g _ _) (by repeat first | exact .here _ _ | assumption | apply Pick.there))⟩)
          | (have hS0 := ((hS.pick (A := blkA g3 47 _) (by repeat first | exact .here _ _ | assumption | apply Pick.there)).drop.pick (A := blkA g5 47 _) (by repeat first | exact .here _ _ | assumption | apply Pick.there)).drop
             have hS1 := rows_rds (y := (x.own A39 c39 B39 d39)) (((hS0.pick (A := rdsA ps) (by repeat first | exact .here _ _ | assumption | apply Pick.there)).pick (A := rowA 170 3 B39 x.fees.l.length d39 (x.fees.l.flatMap Tr.cells)) (by repeat first | exact .here _ _ | assumption | apply Pick.there)).pick (A := rowA 168 2 A39 x.ticks.l.length c39 (x.ticks.l.flatMap Tk.cells)) (by repeat first | exact .here _ _ | assumption | apply Pick.there))
             rw [e0]
             exact ⟨ruP (x.own A39 c39 B39 d39) ++ ps, rfl, (fun p hp => List.mem_append_right _ hp), (((St.unreg (reg_put hk e0 (y := (x.own A39 c39 B39 d39)) rfl (RuBy.own hgx (fun p hp => List.mem_append_left _ hp)) (fun p hp => List.mem_append_right _ hp)) ((hS1.pick (A := mapA .i64 r _) (by repeat first | exact .here _ _ | assumption | apply Pick.there)).pick (A := blkA g 120 [.map (some r)]) (by repeat first | exact .here _ _ | assumption | apply Pick.there))).pick (A := rdsA _) (by repeat first | exact .here _ _ | assumption | apply Pick.there)).pick (A := regA W g _ _) (by repeat first | exact .here _ _ | assumption | apply Pick.there))⟩)
theorem gput_nil (x : RuV) : gputE [] x = (if goodR x then 0 else 43) ∧ gputM [] x = (if goodR x then [nf x] else []) := by
  cases h : goodR x with
  | false => exact ⟨(gputE_1 h).1, (gputE_1 h).2⟩
  | true => exact ⟨(gputE_4 (M := []) h rfl (by decide)).1, (gputE_4 (M := []) h rfl (by decide)).2⟩
theorem regok_nil {ps : List RdP} : RegOk W [] [] ps := ⟨List.Perm.refl _, GReg.nil, fun _ h => by cases h⟩
set_option maxRecDepth 100000 in
theorem rgnew_calls {w : World} {R : List Asn} {ps : List RdP} {x : RuV} (hS : St W w (rdsA ps :: R)) (hb : RuBy W ps x) : Calls Try.prog 54 #[.agg x.cells.toArray] w fun e w' => ∃ p ps', e = .returned (.pointer p) ∧ (∀ q ∈ ps, q ∈ ps') ∧ ((goodR x = true ∧ ∃ g, p = some ⟨g, 0, none⟩ ∧ St W w' (regA W g [nf x] ps' :: rdsA ps' :: R)) ∨ (goodR x = false ∧ p = none ∧ St W w' (rdsA ps' :: R))) := by
  obtain ⟨en1, en2⟩ := gput_nil x
  refine calls_of_wpE (args := [_]) Try.func54 rfl rfl rfl ?_
  refine c_seq ?_
  refine c_region ?_
  refine t_box (v := (.agg _)) rfl rfl hS (fun g1 w hS => ?_)
  replace hS := hS.recast (show _ = blkA g1 47 [.int .i64 x.version, .slice x.ticks.A x.ticks.l.length x.ticks.c, .int .i64 x.lot, .int .i64 x.band, .slice x.fees.A x.fees.l.length x.fees.c, .int .i64 x.round, .int .i64 x.priority, .int .i64 x.self, .int .i64 x.layout] from rfl)
  refine t_q (q_assign) ?_
  refine t_nil ?_
  refine c_seq ?_
  refine c_region ?_
  refine t_makeMap (k := .i64) hS (fun r4 w hS => ?_)
  refine t_q (q_build (qs := [(0, 1)]) [(.map _)] Try.zeroValue120 Try.runUnderlying120 ⟨rfl, Try.sizeOf118, trivial⟩ rfl rfl) ?_
  refine t_box (v := (.agg _)) rfl rfl hS (fun g6 w hS => ?_)
  replace hS := hS.recast (show _ = blkA g6 120 [.map (some r4)] from rfl)
  replace hS := St.unreg (X := []) (M := []) (ps := ps) (regok_nil (W := W)) ((hS.pick (A := mapA .i64 r4 []) (by repeat first | exact .here _ _ | assumption | apply Pick.there)).pick (A := blkA g6 120 [.map (some r4)]) (by repeat first | exact .here _ _ | assumption | apply Pick.there))
  refine t_q (q_as (.pointer _) rfl) ?_
  refine t_nil ?_
  refine c_seq ?_
  refine c_seq ?_
  refine c_region ?_
  refine t_q (q_mv (.pointer _) rfl) ?_
  refine t_q (q_cast (v' := .agg x.cells.toArray) (q_load_blk Try.isAgg47 Try.sizeOf47 rfl (hS.blk (by repeat first | exact .here _ _ | assumption | apply Pick.there)) rfl) (by rfl)) ?_
  refine t_call Try.call21 (rgput_calls (M := []) (x := x) ((hS.pick (A := rdsA ps) (by repeat first | exact .here _ _ | assumption | apply Pick.there)).pick (A := regA W g6 [] ps) (by repeat first | exact .here _ _ | assumption | apply Pick.there)) hb) rfl ?_
  rintro e w ⟨ps', rfl, hsub, hS⟩
  refine ⟨_, rfl, ?_⟩
  rw [en1]
  rw [en2] at hS
  refine t_q (q_neq rfl rfl) ?_
  refine t_nil ?_
  refine c_cond rfl ?_ ?_
  · intro hc3
    have hc3d := of_decide_eq_true hc3
    have h1 : goodR x = false := by
      cases h : goodR x with
      | false => rfl
      | true => exfalso; have h2 := hc3d; rw [h] at h2; exact h2 rfl
    refine c_seq ?_
    refine c_region ?_
    refine t_q (q_assign) ?_
    refine t_nil ?_
    refine c_ret ?_
    refine r_one rfl rfl ?_
    first
      | (rw [h1] at hS
         exact ⟨none, ps', rfl, hsub, .inr ⟨h1, rfl, (((hS.pick (A := regA W g6 _ _) (by repeat first | exact .here _ _ | assumption | apply Pick.there)).drop.pick (A := blkA g1 47 _) (by repeat first | exact .here _ _ | assumption | apply Pick.there)).drop).pick (A := rdsA ps') (by repeat first | exact .here _ _ | assumption | apply Pick.there)⟩⟩)
      | (rw [h1] at hS
         exact ⟨_, ps', rfl, hsub, .inl ⟨h1, g6, rfl, (((hS.pick (A := blkA g1 47 _) (by repeat first | exact .here _ _ | assumption | apply Pick.there)).drop.pick (A := rdsA _) (by repeat first | exact .here _ _ | assumption | apply Pick.there)).pick (A := regA W g6 _ _) (by repeat first | exact .here _ _ | assumption | apply Pick.there))⟩⟩)
  · intro hc3
    have hc3d := of_decide_eq_false hc3
    have h1 : goodR x = true := by
      cases h : goodR x with
      | true => rfl
      | false => exfalso; have h2 := hc3d; rw [h] at h2; simp at h2
    refine c_skip ?_
    refine c_seq ?_
    refine c_region ?_
    refine t_q (q_mv (.pointer _) rfl) ?_
    refine t_q (q_as (.pointer _) rfl) ?_
    refine t_nil ?_
    refine c_ret ?_
    refine r_one rfl rfl ?_
    first
      | (rw [h1] at hS
         exact ⟨none, ps', rfl, hsub, .inr ⟨h1, rfl, (((hS.pick (A := regA W g6 _ _) (by repeat first | exact .here _ _ | assumption | apply Pick.there)).drop.pick (A := blkA g1 47 _) (by repeat first | exact .here _ _ | assumption | apply Pick.there)).drop).pick (A := rdsA ps') (by repeat first | exact .here _ _ | assumption | apply Pick.there)⟩⟩)
      | (rw [h1] at hS
         exact ⟨_, ps', rfl, hsub, .inl ⟨h1, g6, rfl, (((hS.pick (A := blkA g1 47 _) (by repeat first | exact .here _ _ | assumption | apply Pick.there)).drop.pick (A := rdsA _) (by repeat first | exact .here _ _ | assumption | apply Pick.there)).pick (A := regA W g6 _ _) (by repeat first | exact .here _ _ | assumption | apply Pick.there))⟩⟩)
end Go.Proofs.Ytmgobaojioaioaa
