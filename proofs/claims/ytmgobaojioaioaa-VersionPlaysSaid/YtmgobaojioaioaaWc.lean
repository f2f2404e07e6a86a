/- Registries: told, cloned, got, put, dropped. -/
import Derived.Test.YtmgobaojioaioaaWb
import Derived.Test.YtmgobaojioaioaaUb
namespace Go.Proofs.Ytmgobaojioaioaa
open Go Go.RowKit Go.Lib
variable {W : World}
attribute [local irreducible] blkA rowA rdsA mapA regA
set_option maxRecDepth 100000 in
theorem rgnone_calls {w : World} {L R : List Asn} {g r : Nat} (hS : St W w L) (pk : Pick L (blkA g 120 [.map (some r)]) R) : Calls Try.prog 73 #[.pointer (some ⟨g, 0, none⟩)] w fun e w' => e = .returned (.bool false) ∧ St W w' (blkA g 120 [.map (some r)] :: R) := by
  refine calls_of_wpE (args := [_]) Try.func73 rfl rfl rfl ?_
  refine c_seq ?_
  refine c_region ?_
  refine t_q (q_assign) ?_
  refine t_nil ?_
  refine c_seq ?_
  refine c_region ?_
  refine t_q (q_mv (.pointer _) rfl) ?_
  refine t_q (q_eql_ptr_nil Try.runUnderlying29 rfl rfl) ?_
  refine t_q (q_mv (.bool _) rfl) ?_
  refine t_yes rfl rfl rfl ?_
  refine t_q (q_mv (.pointer _) rfl) ?_
  refine t_yes rfl rfl rfl ?_
  refine t_q (q_nilCheck rfl) ?_
  refine t_yes rfl rfl rfl ?_
  refine t_q (q_fieldAddr 0 Try.runUnderlying120 rfl Try.sizeOf118 (by decide) rfl rfl) ?_
  refine t_yes rfl rfl rfl ?_
  refine t_q (q_load1 Try.isAgg118 rfl (hS.cell (by repeat first | exact .here _ _ | assumption | apply Pick.there) rfl)) ?_
  refine t_yes rfl rfl rfl ?_
  refine t_q (q_cast (v' := .bool false) (q_eql_map_nil Try.underlying118 rfl rfl) (by rfl)) ?_
  refine t_q (q_pick_f rfl rfl) ?_
  refine t_q (q_as (.bool _) rfl) ?_
  refine t_nil ?_
  refine c_ret ?_
  refine r_one rfl rfl ?_
  exact ⟨rfl, hS.pick pk⟩
set_option maxRecDepth 100000 in
theorem rgver_calls {w : World} {R : List Asn} {g : Nat} {M : List RuV} {ps : List RdP} (hS : St W w (regA W g M ps :: R)) : Calls Try.prog 63 #[.pointer (some ⟨g, 0, none⟩)] w fun e w' => ∃ A c, e = .returned (.slice A M.length c) ∧ St W w' (rowA 3 1 A M.length c ((M.map (·.version)).map (Value.int .i64)) :: regA W g M ps :: R) := by
  obtain ⟨r, X, hk, hS⟩ := hS.reg
  refine calls_of_wpE (args := [_]) Try.func63 rfl rfl rfl ?_
  refine c_seq ?_
  refine c_region ?_
  refine t_q (q_assign) ?_
  refine t_nil ?_
  refine c_seq ?_
  refine c_seq ?_
  refine c_region ?_
  refine t_q (q_mv (.pointer _) rfl) ?_
  refine t_call Try.call73 (rgnone_calls hS (by repeat first | exact .here _ _ | assumption | apply Pick.there)) rfl ?_
  rintro e w ⟨rfl, hS⟩
  refine ⟨_, rfl, ?_⟩
  refine t_nil ?_
  refine c_cond_f rfl rfl ?_
  refine c_skip ?_
  refine c_seq ?_
  refine c_region ?_
  refine t_q (q_mv (.pointer _) rfl) ?_
  refine t_q (q_nilCheck rfl) ?_
  refine t_q (q_fieldAddr 0 Try.runUnderlying120 rfl Try.sizeOf118 (by decide) rfl rfl) ?_
  refine t_q (q_load1 Try.isAgg118 rfl (hS.cell (by repeat first | exact .here _ _ | assumption | apply Pick.there) rfl)) ?_
  refine t_call Try.call106 (keys_calls hS) rfl ?_
  rintro e w ⟨g9, rfl, hS⟩
  refine ⟨_, rfl, ?_⟩
  refine t_call Try.call105 (sorted_calls hk ((hS.pick (A := mapA .i64 r (X.map rkv)) (by repeat first | exact .here _ _ | assumption | apply Pick.there)).pick (A := blkA g9 118 [.map (some r)]) (by repeat first | exact .here _ _ | assumption | apply Pick.there))) rfl ?_
  rintro e w ⟨A10, c10, rfl, hS⟩
  refine ⟨_, rfl, ?_⟩
  replace hS := (hS.pick (A := blkA g9 118 [.map (some r)]) (by repeat first | exact .here _ _ | assumption | apply Pick.there)).drop
  refine t_q (q_as (.slice _ _ _) rfl) ?_
  refine t_nil ?_
  refine c_ret ?_
  refine r_one rfl rfl ?_
  exact ⟨A10, c10, rfl, (St.unreg hk ((hS.pick (A := mapA .i64 r (X.map rkv)) (by repeat first | exact .here _ _ | assumption | apply Pick.there)).pick (A := blkA g 120 [.map (some r)]) (by repeat first | exact .here _ _ | assumption | apply Pick.there))).pick (A := rowA 3 1 A10 M.length c10 ((M.map (·.version)).map (Value.int .i64))) (by repeat first | exact .here _ _ | assumption | apply Pick.there)⟩
set_option maxRecDepth 100000 in
theorem rgget_calls {w : World} {R : List Asn} {g : Nat} {M : List RuV} {ps : List RdP} {v : Int} (hS : St W w (regA W g M ps :: rdsA ps :: R)) : Calls Try.prog 59 #[.pointer (some ⟨g, 0, none⟩), .int .i64 v] w fun e w' => ∃ y, e = .returned (.tuple #[.agg y.cells.toArray, .bool (rgF M v).isSome]) ∧ nf y = (rgF M v).getD ruZ ∧ RuBy W (ruP y) y ∧ St W w' (rdsA (ruP y) :: regA W g M ps :: rdsA ps :: R) := by
  obtain ⟨r, X, hk, hS⟩ := hS.reg
  obtain ⟨x, hget, hsome, hnf, hb⟩ := reg_get hk v
  refine calls_of_wpE (args := [_, _]) Try.func59 rfl rfl rfl ?_
  refine c_seq ?_
  refine c_region ?_
  refine t_alloc Try.zeroValue47 rfl hS (fun g4 w hS => ?_)
  refine t_q (q_assign) ?_
  refine t_nil ?_
  refine c_seq ?_
  refine c_seq ?_
  refine c_region ?_
  refine t_q (q_mv (.pointer _) rfl) ?_
  refine t_call Try.call73 (rgnone_calls hS (by repeat first | exact .here _ _ | assumption | apply Pick.there)) rfl ?_
  rintro e w ⟨rfl, hS⟩
  refine ⟨_, rfl, ?_⟩
  refine t_nil ?_
  refine c_cond_f rfl rfl ?_
  refine c_skip ?_
  refine c_seq ?_
  refine c_region ?_
  refine t_q (q_mv (.pointer _) rfl) ?_
  refine t_q (q_nilCheck rfl) ?_
  refine t_q (q_fieldAddr 0 Try.runUnderlying120 rfl Try.sizeOf118 (by decide) rfl rfl) ?_
  refine t_q (q_load1 Try.isAgg118 rfl (hS.cell (by repeat first | exact .here _ _ | assumption | apply Pick.there) rfl)) ?_
  refine t_q (q_mv (.int _ _) rfl) ?_
  refine t_q (q_cast (v' := .tuple #[.agg x.cells.toArray, .bool (rgF M v).isSome]) (q_lookup (ok := true) Try.underlying118 Try.underlying3 Try.zeroValue47 (hS) (by repeat first | exact .here _ _ | assumption | apply Pick.there) rfl rfl) (show Value.tuple #[(mfind (X.map rkv) v).getD (.agg ruZ.cells.toArray), .bool (mfind (X.map rkv) v).isSome] = _ from by rw [hget, hsome])) ?_
  refine t_q (q_mv (.tuple _) rfl) ?_
  refine t_q (q_extract rfl rfl) ?_
  refine t_q (q_extract rfl rfl) ?_
  refine t_alloc Try.zeroValue47 rfl hS (fun g6 w hS => ?_)
  refine t_store (v := (.agg _)) Try.sizeOf47 hS (by repeat first | exact .here _ _ | assumption | apply Pick.there) rfl rfl rfl rfl rfl rfl (fun w hS => ?_)
  replace hS := hS.recast (congrArg (blkA g6 47) (rset_full (vs := x.cells) rfl))
  replace hS := hS.recast (show _ = blkA g6 47 [.int .i64 x.version, .slice x.ticks.A x.ticks.l.length x.ticks.c, .int .i64 x.lot, .int .i64 x.band, .slice x.fees.A x.fees.l.length x.fees.c, .int .i64 x.round, .int .i64 x.priority, .int .i64 x.self, .int .i64 x.layout] from rfl)
  refine t_q (q_as (.bool _) rfl) ?_
  refine t_nil ?_
  refine c_seq ?_
  refine c_region ?_
  refine t_q (q_cast (v' := .agg x.cells.toArray) (q_load_blk Try.isAgg47 Try.sizeOf47 rfl (hS.blk (by repeat first | exact .here _ _ | assumption | apply Pick.there)) rfl) (by rfl)) ?_
  refine t_call Try.call75 (rcopy_calls (x := x) (hb.gd hS (by repeat first | exact .here _ _ | assumption | apply Pick.there))) rfl ?_
  rintro e w ⟨A21, c21, B21, d21, rfl, hT⟩
  refine ⟨_, rfl, ?_⟩
  have hgx := hb.gd hS (by repeat first | exact .here _ _ | assumption | apply Pick.there)
  have hS : St W w (_ :: _) := hS.lift hT
  refine t_q (q_mv (.bool _) rfl) ?_
  refine t_store (v := (.agg _)) Try.sizeOf47 hS (by repeat first | exact .here _ _ | assumption | apply Pick.there) rfl rfl rfl rfl rfl rfl (fun w hS => ?_)
  replace hS := hS.recast (congrArg (blkA g4 47) (rset_full (vs := (x.own A21 c21 B21 d21).cells) rfl))
  refine t_q (q_as (.bool _) rfl) ?_
  refine t_nil ?_
  refine c_ret ?_
  refine r_two rfl (res1_cellN Try.isAgg47 Try.sizeOf47 rfl (hS.blk (by repeat first | exact .here _ _ | assumption | apply Pick.there)) rfl) rfl ?_
  replace hS := St.unreg hk ((hS.pick (A := mapA .i64 r (X.map rkv)) (by repeat first | exact .here _ _ | assumption | apply Pick.there)).pick (A := blkA g 120 [.map (some r)]) (by repeat first | exact .here _ _ | assumption | apply Pick.there))
  have hS0 := (((hS.pick (A := blkA g4 47 _) (by repeat first | exact .here _ _ | assumption | apply Pick.there)).drop.pick (A := blkA g6 47 _) (by repeat first | exact .here _ _ | assumption | apply Pick.there)).drop).rds0
  have hS1 := rows_rds (y := (x.own A21 c21 B21 d21)) (((hS0.pick (A := rdsA []) (by repeat first | exact .here _ _ | assumption | apply Pick.there)).pick (A := rowA 170 3 B21 x.fees.l.length d21 (x.fees.l.flatMap Tr.cells)) (by repeat first | exact .here _ _ | assumption | apply Pick.there)).pick (A := rowA 168 2 A21 x.ticks.l.length c21 (x.ticks.l.flatMap Tk.cells)) (by repeat first | exact .here _ _ | assumption | apply Pick.there))
  exact ⟨(x.own A21 c21 B21 d21), rfl, hnf, RuBy.own hgx (fun p hp => hp), ((((hS1.recast (congrArg rdsA (List.append_nil _))).pick (A := rdsA ps) (by repeat first | exact .here _ _ | assumption | apply Pick.there)).pick (A := regA W g M ps) (by repeat first | exact .here _ _ | assumption | apply Pick.there)).pick (A := rdsA (ruP _)) (by repeat first | exact .here _ _ | assumption | apply Pick.there))⟩
end Go.Proofs.Ytmgobaojioaioaa
