/- Boards begun. -/
import Derived.Test.YtmgobaojioaioaaYe
import Derived.Test.YtmgobaojioaioaaWt
import Derived.Test.YtmgobaojioaioaaWh
import Derived.Test.YtmgobaojioaioaaAq
namespace Go.Proofs.Ytmgobaojioaioaa
open Go Go.RowKit Go.Lib
variable {W : World}
attribute [local irreducible] blkA rowA rdsA mapA regA
set_option maxRecDepth 100000 in
theorem vof_calls {w : World} {L : List Asn} {v : Int} (hS : St W w L) (hv : -9223372036854775808 ≤ v ∧ v ≤ 9223372036854775807) : Calls Try.prog 22 #[.int .i64 v] w fun e w' => ∃ y, e = .returned (.agg y.cells.toArray) ∧ nf y = (bas v none 0 none 0) ∧ RuBy W (ruP y) y ∧ St W w' (rdsA (ruP y) :: L) := by
  refine calls_of_wpE (args := [_]) Try.func22 rfl rfl rfl ?_
  refine c_seq ?_
  refine c_region ?_
  refine t_alloc Try.zeroValue47 rfl hS (fun g2 w hS => ?_)
  refine t_nil ?_
  refine c_seq ?_
  refine c_region ?_
  refine t_call Try.call76 (basic_calls) rfl ?_
  rintro e w ⟨A4, c4, B4, d4, rfl, hT⟩
  refine ⟨_, rfl, ?_⟩
  have hS : St W w (_ :: _) := hS.lift hT
  refine t_alloc Try.zeroValue47 rfl hS (fun g3 w hS => ?_)
  refine t_store (v := (.agg _)) Try.sizeOf47 hS (by repeat first | exact .here _ _ | assumption | apply Pick.there) rfl rfl rfl rfl rfl rfl (fun w hS => ?_)
  replace hS := hS.recast (congrArg (blkA g3 47) (rset_full (vs := (bas 1 A4 c4 B4 d4).cells) rfl))
  replace hS := hS.recast (show _ = blkA g3 47 [.int .i64 (bas 1 A4 c4 B4 d4).version, .slice (bas 1 A4 c4 B4 d4).ticks.A (bas 1 A4 c4 B4 d4).ticks.l.length (bas 1 A4 c4 B4 d4).ticks.c, .int .i64 (bas 1 A4 c4 B4 d4).lot, .int .i64 (bas 1 A4 c4 B4 d4).band, .slice (bas 1 A4 c4 B4 d4).fees.A (bas 1 A4 c4 B4 d4).fees.l.length (bas 1 A4 c4 B4 d4).fees.c, .int .i64 (bas 1 A4 c4 B4 d4).round, .int .i64 (bas 1 A4 c4 B4 d4).priority, .int .i64 (bas 1 A4 c4 B4 d4).self, .int .i64 (bas 1 A4 c4 B4 d4).layout] from rfl)
  refine t_nil ?_
  refine c_seq ?_
  refine c_region ?_
  refine t_q (q_mv (.int _ _) rfl) ?_
  refine t_q (q_fieldAddr 0 Try.runUnderlying47 rfl Try.sizeOf3 (by decide) rfl rfl) ?_
  refine t_store (v := (.int _ _)) Try.sizeOf3 hS (by repeat first | exact .here _ _ | assumption | apply Pick.there) rfl rfl rfl rfl rfl rfl (fun w hS => ?_)
  replace hS := hS.recast (show blkA g3 47 _ = blkA g3 47 [.int .i64 (bas v A4 c4 B4 d4).version, .slice (bas v A4 c4 B4 d4).ticks.A (bas v A4 c4 B4 d4).ticks.l.length (bas v A4 c4 B4 d4).ticks.c, .int .i64 (bas v A4 c4 B4 d4).lot, .int .i64 (bas v A4 c4 B4 d4).band, .slice (bas v A4 c4 B4 d4).fees.A (bas v A4 c4 B4 d4).fees.l.length (bas v A4 c4 B4 d4).fees.c, .int .i64 (bas v A4 c4 B4 d4).round, .int .i64 (bas v A4 c4 B4 d4).priority, .int .i64 (bas v A4 c4 B4 d4).self, .int .i64 (bas v A4 c4 B4 d4).layout] from rfl)
  refine t_nil ?_
  refine c_seq ?_
  refine c_region ?_
  refine t_q (q_cast (v' := .agg (bas v A4 c4 B4 d4).cells.toArray) (q_load_blk Try.isAgg47 Try.sizeOf47 rfl (hS.blk (by repeat first | exact .here _ _ | assumption | apply Pick.there)) rfl) (by rfl)) ?_
  refine t_store (v := (.agg _)) Try.sizeOf47 hS (by repeat first | exact .here _ _ | assumption | apply Pick.there) rfl rfl rfl rfl rfl rfl (fun w hS => ?_)
  replace hS := hS.recast (congrArg (blkA g2 47) (rset_full (vs := (bas v A4 c4 B4 d4).cells) rfl))
  refine t_nil ?_
  refine c_ret ?_
  refine r_one rfl (res1_cellN Try.isAgg47 Try.sizeOf47 rfl (hS.blk (by repeat first | exact .here _ _ | assumption | apply Pick.there)) rfl) ?_
  have hS0 := (((hS.pick (A := blkA g2 47 _) (by repeat first | exact .here _ _ | assumption | apply Pick.there)).drop.pick (A := blkA g3 47 _) (by repeat first | exact .here _ _ | assumption | apply Pick.there)).drop).rds0
  have hS1 := rows_rds (y := (bas v A4 c4 B4 d4)) (((hS0.pick (A := rdsA []) (by repeat first | exact .here _ _ | assumption | apply Pick.there)).pick (A := rowA 170 3 B4 1 d4 [.int .i64 0, .int .i64 100, .int .i64 200]) (by repeat first | exact .here _ _ | assumption | apply Pick.there)).pick (A := rowA 168 2 A4 1 c4 [.int .i64 0, .int .i64 5]) (by repeat first | exact .here _ _ | assumption | apply Pick.there))
  exact ⟨(bas v A4 c4 B4 d4), rfl, rfl, RuBy.bas hv (fun p hp => hp), hS1.recast (congrArg rdsA (List.append_nil _))⟩
set_option maxHeartbeats 1000000 in
set_option maxRecDepth 100000 in
theorem begin_calls {w : World} {L : List Asn} {n : Int} (hS : St W w L) (hn : 1 ≤ n ∧ n ≤ 7) : Calls Try.prog 17 #[.int .i64 n] w fun e w' => ∃ g q A c ps y, e = .returned (.tuple #[.agg (bdc (⟨1, 0, 0, 0, 0⟩ : StV) (some ⟨g, 0, none⟩) n (fun _ => 0)).toArray, .agg (([.int .i64 1, .int .i64 0, .int .i64 0, .int .u64 0, .int .i64 0, .pointer (some ⟨q, 0, none⟩), .int .i64 n, .slice none 0 0] : List Value)).toArray]) ∧ nf y = (bas 1 none 0 none 0) ∧ RuBy W ps y ∧ St W w' (regA W g [(bas 1 none 0 none 0)] ps :: blkA q 141 [.slice A [y].length c] :: rowA 47 9 A [y].length c ([y].flatMap RuV.cells) :: rdsA ps :: L) := by
  refine calls_of_wpE (args := [_]) Try.func17 rfl rfl rfl ?_
  refine c_seq ?_
  refine c_region ?_
  refine t_alloc Try.zeroValue34 rfl hS (fun g2 w hS => ?_)
  refine t_alloc Try.zeroValue41 rfl hS (fun g3 w hS => ?_)
  refine t_nil ?_
  refine c_seq ?_
  refine c_region ?_
  refine t_q (q_mv (.int _ _) rfl) ?_
  refine t_call Try.call70 (new_in hn) rfl ?_
  rintro e w ⟨rfl, hT⟩
  refine ⟨_, rfl, ?_⟩
  replace hS := hS.after hT
  refine t_q (q_mv (.tuple _) rfl) ?_
  refine t_q (q_extract rfl rfl) ?_
  refine t_q (q_extract rfl rfl) ?_
  refine t_alloc Try.zeroValue32 rfl hS (fun g4 w hS => ?_)
  refine t_store (v := (.agg _)) Try.sizeOf32 hS (by repeat first | exact .here _ _ | assumption | apply Pick.there) rfl rfl rfl rfl rfl rfl (fun w hS => ?_)
  replace hS := hS.recast (congrArg (blkA g4 32) (rset_full (vs := tcs n (fun _ => 0)) rfl))
  replace hS := hS.recast (show _ = blkA g4 32 [.int .i64 n, .int .u64 0, .int .u64 0, .int .u64 0, .int .u64 0, .int .u64 0, .int .u64 0, .int .u64 0] from rfl)
  refine t_q (q_as (.int _ _) rfl) ?_
  refine t_nil ?_
  refine c_seq ?_
  refine c_region ?_
  refine t_call Try.call22 (vof_calls (v := 1) hS (by decide)) rfl ?_
  rintro e w ⟨y1, rfl, hy1, hb1, hS⟩
  refine ⟨_, rfl, ?_⟩
  refine t_call Try.call55 (qgnew_calls (x := y1) (hS.pick (A := rdsA (ruP y1)) (by repeat first | exact .here _ _ | assumption | apply Pick.there)) hb1) rfl ?_
  rintro e w ⟨q, A, c, rfl, hS⟩
  refine ⟨_, rfl, ?_⟩
  refine t_q (q_mv (.tuple _) rfl) ?_
  refine t_q (q_extract rfl rfl) ?_
  refine t_q (q_extract rfl rfl) ?_
  refine t_q (q_as (.pointer _) rfl) ?_
  refine t_q (q_as (.bool _) rfl) ?_
  refine t_nil ?_
  refine c_seq ?_
  refine c_draw ?_
  refine d_keep (blkA g4 32 [.int .i64 n, .int .u64 0, .int .u64 0, .int .u64 0, .int .u64 0, .int .u64 0, .int .u64 0, .int .u64 0]) 12 [0, 1, 2, 3, 4, 5, 6, 7, 8, 9, 10, 11] [0, 1, 2, 3, 4, 10, 5, 6, 7, 8, 9, 11] hS rfl (by kernel_rfl) (by kernel_rfl) (by kernel_rfl) (by kernel_rfl) (fun hap hsel w hS => ?_)
  refine p_q hap hsel 0 rfl rfl ⟨_, hS.pick (by repeat first | exact .here _ _ | assumption | apply Pick.there)⟩ (fun w hI => q_build (qs := [(0, 1), (1, 1), (2, 1), (3, 1), (4, 1)]) [(.int _ _), (.int _ _), (.int _ _), (.int _ _), (.int _ _)] Try.zeroValue28 Try.runUnderlying28 ⟨rfl, Try.sizeOf3, rfl, Try.sizeOf3, rfl, Try.sizeOf3, rfl, Try.sizeOf26, rfl, Try.sizeOf3, trivial⟩ rfl rfl) ?_
  refine p_q hap hsel 3 rfl rfl ⟨_, hS.pick (by repeat first | exact .here _ _ | assumption | apply Pick.there)⟩ (fun w hI => q_load_blk Try.isAgg32 Try.sizeOf32 rfl (hI.choose_spec.blk (by repeat first | exact .here _ _ | assumption | apply Pick.there)) rfl) ?_
  refine p_q hap hsel 5 rfl rfl ⟨_, hS.pick (by repeat first | exact .here _ _ | assumption | apply Pick.there)⟩ (fun w hI => q_build (qs := [(0, 1), (1, 1), (2, 1), (3, 1), (4, 1)]) [(.int _ _), (.int _ _), (.int _ _), (.int _ _), (.int _ _)] Try.zeroValue35 Try.runUnderlying35 ⟨rfl, Try.sizeOf3, rfl, Try.sizeOf3, rfl, Try.sizeOf3, rfl, Try.sizeOf26, rfl, Try.sizeOf3, trivial⟩ rfl rfl) ?_
  refine p_q hap hsel 6 rfl rfl ⟨_, hS.pick (by repeat first | exact .here _ _ | assumption | apply Pick.there)⟩ (fun w hI => q_mv (.pointer _) rfl) ?_
  refine p_q hap hsel 7 rfl rfl ⟨_, hS.pick (by repeat first | exact .here _ _ | assumption | apply Pick.there)⟩ (fun w hI => q_mv (.int _ _) rfl) ?_
  refine p_q hap hsel 8 rfl rfl ⟨_, hS.pick (by repeat first | exact .here _ _ | assumption | apply Pick.there)⟩ (fun w hI => q_build (qs := [(0, 1), (1, 1)]) [(.int _ _), (.slice _ _ _)] Try.zeroValue39 Try.runUnderlying39 ⟨rfl, Try.sizeOf3, rfl, Try.sizeOf37, trivial⟩ rfl rfl) ?_
  refine p_q hap hsel 9 rfl rfl ⟨_, hS.pick (by repeat first | exact .here _ _ | assumption | apply Pick.there)⟩ (fun w hI => q_build (qs := [(0, 5), (5, 1), (6, 2)]) [.int .i64 1, .int .i64 0, .int .i64 0, .int .u64 0, .int .i64 0, .pointer (some ⟨q, 0, none⟩), .int .i64 n, .slice none 0 0] Try.zeroValue41 Try.runUnderlying41 ⟨rfl, Try.sizeOf35, rfl, Try.sizeOf36, rfl, Try.sizeOf39, trivial⟩ rfl rfl) ?_
  refine p_one 1 rfl (by kernel_rfl) ?_
  refine t_call Try.call22 (vof_calls (v := 1) hS (by decide)) rfl ?_
  rintro e w ⟨y2, rfl, hy2, hb2, hS⟩
  refine ⟨_, rfl, ?_⟩
  refine t_nil ?_
  refine ⟨.inr ⟨_, hS.pick (by repeat first | exact .here _ _ | assumption | apply Pick.there)⟩, ?_⟩
  refine p_one 2 rfl (by kernel_rfl) ?_
  refine t_call Try.call54 (rgnew_calls (x := y2) (hS.pick (A := rdsA (ruP y2)) (by repeat first | exact .here _ _ | assumption | apply Pick.there)) hb2) rfl ?_
  rintro e w ⟨p, ps3, rfl, hs3, hor⟩
  refine ⟨_, rfl, ?_⟩
  have hgy : goodR y2 = true := by rw [← nf_good, hy2, bas_goodP]; decide
  rcases hor with ⟨_, g, rfl, hS⟩ | ⟨h, _⟩
  rotate_left
  · rw [hgy] at h; cases h
  rw [hy2] at hS
  replace hS := rds_join ((hS.pick (A := rdsA (ruP y1)) (by repeat first | exact .here _ _ | assumption | apply Pick.there)).pick (A := rdsA ps3) (by repeat first | exact .here _ _ | assumption | apply Pick.there))
  replace hS := St.reg_mono (hS.pick (A := regA W g _ ps3) (by repeat first | exact .here _ _ | assumption | apply Pick.there)) (ps' := ps3 ++ ruP y1) (fun p hp => List.mem_append_left _ hp)
  refine t_nil ?_
  refine ⟨.inr ⟨_, hS.pick (by repeat first | exact .here _ _ | assumption | apply Pick.there)⟩, ?_⟩
  refine p_q hap hsel 4 rfl rfl ⟨_, hS.pick (by repeat first | exact .here _ _ | assumption | apply Pick.there)⟩ (fun w hI => q_build (qs := [(0, 5), (5, 1), (6, 8)]) [.int .i64 1, .int .i64 0, .int .i64 0, .int .u64 0, .int .i64 0, .pointer (some ⟨g, 0, none⟩), .int .i64 n, .int .u64 0, .int .u64 0, .int .u64 0, .int .u64 0, .int .u64 0, .int .u64 0, .int .u64 0] Try.zeroValue34 Try.runUnderlying34 ⟨rfl, Try.sizeOf28, rfl, Try.sizeOf29, rfl, Try.sizeOf32, trivial⟩ rfl rfl) ?_
  refine p_one 10 rfl (by kernel_rfl) ?_
  refine t_store (v := (.agg _)) Try.sizeOf34 hS (by repeat first | exact .here _ _ | assumption | apply Pick.there) rfl rfl rfl rfl rfl rfl (fun w hS => ?_)
  replace hS := hS.recast (congrArg (blkA g2 34) (rset_full (vs := [.int .i64 1, .int .i64 0, .int .i64 0, .int .u64 0, .int .i64 0, .pointer (some ⟨g, 0, none⟩), .int .i64 n, .int .u64 0, .int .u64 0, .int .u64 0, .int .u64 0, .int .u64 0, .int .u64 0, .int .u64 0]) rfl))
  refine t_nil ?_
  refine ⟨.inr ⟨_, hS.pick (by repeat first | exact .here _ _ | assumption | apply Pick.there)⟩, ?_⟩
  refine p_one 11 rfl (by kernel_rfl) ?_
  refine t_store (v := (.agg _)) Try.sizeOf41 hS (by repeat first | exact .here _ _ | assumption | apply Pick.there) rfl rfl rfl rfl rfl rfl (fun w hS => ?_)
  replace hS := hS.recast (congrArg (blkA g3 41) (rset_full (vs := [.int .i64 1, .int .i64 0, .int .i64 0, .int .u64 0, .int .i64 0, .pointer (some ⟨q, 0, none⟩), .int .i64 n, .slice none 0 0]) rfl))
  refine t_nil ?_
  refine ⟨.inl (by kernel_rfl), ?_⟩
  refine p_end (by kernel_rfl) ?_
  refine c_ret ?_
  refine r_two rfl (res1_cellN Try.isAgg34 Try.sizeOf34 rfl (hS.blk (by repeat first | exact .here _ _ | assumption | apply Pick.there)) rfl) (res1_cellN Try.isAgg41 Try.sizeOf41 rfl (hS.blk (by repeat first | exact .here _ _ | assumption | apply Pick.there)) rfl) ?_
  exact ⟨g, q, A, c, ps3 ++ ruP y1, y1, rfl, hy1, hb1.mono (fun p hp => List.mem_append_right _ hp), (((((((hS.pick (A := blkA g2 34 _) (by repeat first | exact .here _ _ | assumption | apply Pick.there)).drop.pick (A := blkA g3 41 _) (by repeat first | exact .here _ _ | assumption | apply Pick.there)).drop.pick (A := blkA g4 32 _) (by repeat first | exact .here _ _ | assumption | apply Pick.there)).drop.pick (A := rdsA (_ ++ _)) (by repeat first | exact .here _ _ | assumption | apply Pick.there)).pick (A := rowA 47 9 A [y1].length c ([y1].flatMap RuV.cells)) (by repeat first | exact .here _ _ | assumption | apply Pick.there)).pick (A := blkA q 141 [.slice A [y1].length c]) (by repeat first | exact .here _ _ | assumption | apply Pick.there)).pick (A := regA W g _ _) (by repeat first | exact .here _ _ | assumption | apply Pick.there))⟩
end Go.Proofs.Ytmgobaojioaioaa
