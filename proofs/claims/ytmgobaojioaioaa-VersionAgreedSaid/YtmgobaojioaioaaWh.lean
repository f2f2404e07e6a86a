/- Registries: the document's. -/
import Derived.Test.YtmgobaojioaioaaWe
import Derived.Test.YtmgobaojioaioaaWb
namespace Go.Proofs.Ytmgobaojioaioaa
open Go Go.RowKit Go.Lib
variable {W : World}
attribute [local irreducible] blkA rowA rdsA mapA regA
set_option maxRecDepth 100000 in
theorem qgnew_calls {w : World} {R : List Asn} {ps : List RdP} {x : RuV} (hS : St W w (rdsA ps :: R)) (hb : RuBy W ps x) : Calls Try.prog 55 #[.agg x.cells.toArray] w fun e w' => ∃ q A c, e = .returned (.tuple #[.pointer (some ⟨q, 0, none⟩), .bool (goodR x)]) ∧ St W w' (blkA q 141 [.slice A [x].length c] :: rowA 47 9 A [x].length c ([x].flatMap RuV.cells) :: rdsA ps :: R) := by
  refine calls_of_wpE (args := [_]) Try.func55 rfl rfl rfl ?_
  refine c_seq ?_
  refine c_region ?_
  refine t_box (v := (.agg _)) rfl rfl hS (fun g1 w hS => ?_)
  replace hS := hS.recast (show _ = blkA g1 47 [.int .i64 x.version, .slice x.ticks.A x.ticks.l.length x.ticks.c, .int .i64 x.lot, .int .i64 x.band, .slice x.fees.A x.fees.l.length x.fees.c, .int .i64 x.round, .int .i64 x.priority, .int .i64 x.self, .int .i64 x.layout] from rfl)
  refine t_q (q_assign) ?_
  refine t_q (q_assign) ?_
  refine t_nil ?_
  refine c_seq ?_
  refine c_draw ?_
  refine d_keep (blkA g1 47 [.int .i64 x.version, .slice x.ticks.A x.ticks.l.length x.ticks.c, .int .i64 x.lot, .int .i64 x.band, .slice x.fees.A x.fees.l.length x.fees.c, .int .i64 x.round, .int .i64 x.priority, .int .i64 x.self, .int .i64 x.layout]) 8 [0, 1, 2, 3, 4, 5, 6, 7] [0, 1, 2, 3, 4, 5, 6, 7] hS rfl (by kernel_rfl) (by kernel_rfl) (by kernel_rfl) (by kernel_rfl) (fun hap hsel w hS => ?_)
  refine p_q hap hsel 0 rfl rfl ⟨_, hS.pick (by repeat first | exact .here _ _ | assumption | apply Pick.there)⟩ (fun w hI => (q_cast (v' := .agg x.cells.toArray) (q_load_blk Try.isAgg47 Try.sizeOf47 rfl (hI.choose_spec.blk (by repeat first | exact .here _ _ | assumption | apply Pick.there)) rfl) (by rfl))) ?_
  refine p_q hap hsel 4 rfl rfl ⟨_, hS.pick (by repeat first | exact .here _ _ | assumption | apply Pick.there)⟩ (fun w hI => (q_cast (v' := .agg x.cells.toArray) (q_load_blk Try.isAgg47 Try.sizeOf47 rfl (hI.choose_spec.blk (by repeat first | exact .here _ _ | assumption | apply Pick.there)) rfl) (by rfl))) ?_
  refine p_two 1 5 rfl rfl (by kernel_rfl) ?_ ?_
  ·
    refine t_buildSlice Try.runUnderlying139 Try.sizeOf47 Try.zeroValue47 rfl rfl (by intro v hv; simp at hv; try (first | (subst hv; rfl) | (rcases hv with rfl | rfl <;> rfl))) (by decide) (by decide) hS (fun g5 w hS => ?_)
    replace hS := hS.recast (show _ = rowA 47 9 (some ⟨g5, 0, none⟩) [x].length 1 ([x].flatMap RuV.cells) from rfl)
    refine t_nil ?_
    refine ⟨.inr ⟨_, hS.pick (by repeat first | exact .here _ _ | assumption | apply Pick.there)⟩, ?_⟩
    refine p_q hap hsel 2 rfl rfl ⟨_, hS.pick (by repeat first | exact .here _ _ | assumption | apply Pick.there)⟩ (fun w hI => q_build (qs := [(0, 1)]) [(.slice _ _ _)] Try.zeroValue141 Try.runUnderlying141 ⟨rfl, Try.sizeOf139, trivial⟩ rfl rfl) ?_
    refine p_two 3 5 rfl rfl (by kernel_rfl) ?_ ?_
    ·
      refine t_box (v := (.agg _)) rfl rfl hS (fun g7 w hS => ?_)
      replace hS := hS.recast (show _ = blkA g7 141 [.slice (some ⟨g5, 0, none⟩) [x].length 1] from rfl)
      refine t_nil ?_
      refine ⟨.inr ⟨_, hS.pick (by repeat first | exact .here _ _ | assumption | apply Pick.there)⟩, ?_⟩
      refine p_one 5 rfl (by kernel_rfl) ?_
      refine t_call Try.call77 (qgoodr_calls (x := x) (hb.gd hS (by repeat first | exact .here _ _ | assumption | apply Pick.there))) rfl ?_
      rintro e w ⟨rfl, hT⟩
      refine ⟨_, rfl, ?_⟩
      replace hS := hS.after hT
      refine t_nil ?_
      refine ⟨.inr ⟨_, hS.pick (by repeat first | exact .here _ _ | assumption | apply Pick.there)⟩, ?_⟩
      refine p_q hap hsel 6 rfl rfl ⟨_, hS.pick (by repeat first | exact .here _ _ | assumption | apply Pick.there)⟩ (fun w hI => q_as (.pointer _) rfl) ?_
      refine p_q hap hsel 7 rfl rfl ⟨_, hS.pick (by repeat first | exact .here _ _ | assumption | apply Pick.there)⟩ (fun w hI => q_as (.bool _) rfl) ?_
      refine p_end (by kernel_rfl) ?_
      refine c_ret ?_
      refine r_two rfl rfl rfl ?_
      exact ⟨g7, _, _, rfl, ((((hS.pick (A := blkA g1 47 _) (by repeat first | exact .here _ _ | assumption | apply Pick.there)).drop.pick (A := rdsA ps) (by repeat first | exact .here _ _ | assumption | apply Pick.there)).pick (A := rowA 47 9 (some ⟨g5, 0, none⟩) [x].length 1 ([x].flatMap RuV.cells)) (by repeat first | exact .here _ _ | assumption | apply Pick.there)).pick (A := blkA g7 141 [.slice (some ⟨g5, 0, none⟩) [x].length 1]) (by repeat first | exact .here _ _ | assumption | apply Pick.there))⟩
    ·
      refine t_call Try.call77 (qgoodr_calls (x := x) (hb.gd hS (by repeat first | exact .here _ _ | assumption | apply Pick.there))) rfl ?_
      rintro e w ⟨rfl, hT⟩
      refine ⟨_, rfl, ?_⟩
      replace hS := hS.after hT
      refine t_nil ?_
      refine ⟨.inr ⟨_, hS.pick (by repeat first | exact .here _ _ | assumption | apply Pick.there)⟩, ?_⟩
      refine p_one 3 rfl (by kernel_rfl) ?_
      refine t_box (v := (.agg _)) rfl rfl hS (fun g7 w hS => ?_)
      replace hS := hS.recast (show _ = blkA g7 141 [.slice (some ⟨g5, 0, none⟩) [x].length 1] from rfl)
      refine t_nil ?_
      refine ⟨.inr ⟨_, hS.pick (by repeat first | exact .here _ _ | assumption | apply Pick.there)⟩, ?_⟩
      refine p_q hap hsel 6 rfl rfl ⟨_, hS.pick (by repeat first | exact .here _ _ | assumption | apply Pick.there)⟩ (fun w hI => q_as (.pointer _) rfl) ?_
      refine p_q hap hsel 7 rfl rfl ⟨_, hS.pick (by repeat first | exact .here _ _ | assumption | apply Pick.there)⟩ (fun w hI => q_as (.bool _) rfl) ?_
      refine p_end (by kernel_rfl) ?_
      refine c_ret ?_
      refine r_two rfl rfl rfl ?_
      exact ⟨g7, _, _, rfl, ((((hS.pick (A := blkA g1 47 _) (by repeat first | exact .here _ _ | assumption | apply Pick.there)).drop.pick (A := rdsA ps) (by repeat first | exact .here _ _ | assumption | apply Pick.there)).pick (A := rowA 47 9 (some ⟨g5, 0, none⟩) [x].length 1 ([x].flatMap RuV.cells)) (by repeat first | exact .here _ _ | assumption | apply Pick.there)).pick (A := blkA g7 141 [.slice (some ⟨g5, 0, none⟩) [x].length 1]) (by repeat first | exact .here _ _ | assumption | apply Pick.there))⟩
  ·
    refine t_call Try.call77 (qgoodr_calls (x := x) (hb.gd hS (by repeat first | exact .here _ _ | assumption | apply Pick.there))) rfl ?_
    rintro e w ⟨rfl, hT⟩
    refine ⟨_, rfl, ?_⟩
    replace hS := hS.after hT
    refine t_nil ?_
    refine ⟨.inr ⟨_, hS.pick (by repeat first | exact .here _ _ | assumption | apply Pick.there)⟩, ?_⟩
    refine p_one 1 rfl (by kernel_rfl) ?_
    refine t_buildSlice Try.runUnderlying139 Try.sizeOf47 Try.zeroValue47 rfl rfl (by intro v hv; simp at hv; try (first | (subst hv; rfl) | (rcases hv with rfl | rfl <;> rfl))) (by decide) (by decide) hS (fun g5 w hS => ?_)
    replace hS := hS.recast (show _ = rowA 47 9 (some ⟨g5, 0, none⟩) [x].length 1 ([x].flatMap RuV.cells) from rfl)
    refine t_nil ?_
    refine ⟨.inr ⟨_, hS.pick (by repeat first | exact .here _ _ | assumption | apply Pick.there)⟩, ?_⟩
    refine p_q hap hsel 2 rfl rfl ⟨_, hS.pick (by repeat first | exact .here _ _ | assumption | apply Pick.there)⟩ (fun w hI => q_build (qs := [(0, 1)]) [(.slice _ _ _)] Try.zeroValue141 Try.runUnderlying141 ⟨rfl, Try.sizeOf139, trivial⟩ rfl rfl) ?_
    refine p_one 3 rfl (by kernel_rfl) ?_
    refine t_box (v := (.agg _)) rfl rfl hS (fun g7 w hS => ?_)
    replace hS := hS.recast (show _ = blkA g7 141 [.slice (some ⟨g5, 0, none⟩) [x].length 1] from rfl)
    refine t_nil ?_
    refine ⟨.inr ⟨_, hS.pick (by repeat first | exact .here _ _ | assumption | apply Pick.there)⟩, ?_⟩
    refine p_q hap hsel 6 rfl rfl ⟨_, hS.pick (by repeat first | exact .here _ _ | assumption | apply Pick.there)⟩ (fun w hI => q_as (.pointer _) rfl) ?_
    refine p_q hap hsel 7 rfl rfl ⟨_, hS.pick (by repeat first | exact .here _ _ | assumption | apply Pick.there)⟩ (fun w hI => q_as (.bool _) rfl) ?_
    refine p_end (by kernel_rfl) ?_
    refine c_ret ?_
    refine r_two rfl rfl rfl ?_
    exact ⟨g7, _, _, rfl, ((((hS.pick (A := blkA g1 47 _) (by repeat first | exact .here _ _ | assumption | apply Pick.there)).drop.pick (A := rdsA ps) (by repeat first | exact .here _ _ | assumption | apply Pick.there)).pick (A := rowA 47 9 (some ⟨g5, 0, none⟩) [x].length 1 ([x].flatMap RuV.cells)) (by repeat first | exact .here _ _ | assumption | apply Pick.there)).pick (A := blkA g7 141 [.slice (some ⟨g5, 0, none⟩) [x].length 1]) (by repeat first | exact .here _ _ | assumption | apply Pick.there))⟩
end Go.Proofs.Ytmgobaojioaioaa
