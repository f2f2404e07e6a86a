/- A registry that is nil, or that no call made, has nothing: the walk. -/
import Derived.Test.YtmgobaojioaioaaWv
import Derived.Test.YtmgobaojioaioaaWx
import Derived.Test.YtmgobaojioaioaaVk
import Derived.Test.YtmgobaojioaioaaR
namespace Go.Proofs.Ytmgobaojioaioaa
open Go Go.RowKit Go.Lib
variable {W : World}
attribute [local irreducible] blkA rowA rdsA mapA regA
set_option maxHeartbeats 1000000 in
set_option maxRecDepth 100000 in
theorem RegistryNobody_calls {x : RuV} {v : Int} : Calls Try.prog 11 #[.agg x.cells.toArray, .int .i64 v] W fun e w' => e = .returned (.bool true) ∧ St W w' [] := by
  have hS := St.init W
  refine calls_of_wpE (args := [_, _]) Try.func11 rfl rfl rfl ?_
  refine c_seq ?_
  refine c_region ?_
  refine t_box (v := (.agg _)) rfl rfl hS (fun g2 w hS => ?_)
  replace hS := hS.recast (show _ = blkA g2 47 [.int .i64 x.version, .slice x.ticks.A x.ticks.l.length x.ticks.c, .int .i64 x.lot, .int .i64 x.band, .slice x.fees.A x.fees.l.length x.fees.c, .int .i64 x.round, .int .i64 x.priority, .int .i64 x.self, .int .i64 x.layout] from rfl)
  refine t_q (q_assign) ?_
  refine t_nil ?_
  refine c_seq ?_
  refine c_seq ?_
  refine c_region ?_
  refine t_q (q_cast (v' := .agg x.cells.toArray) (q_load_blk Try.isAgg47 Try.sizeOf47 rfl (hS.blk (by repeat first | exact .here _ _ | assumption | apply Pick.there)) rfl) (by rfl)) ?_
  refine t_call Try.call41 (rlight_calls (x := x)) rfl ?_
  rintro e w ⟨rfl, hT⟩
  refine ⟨_, rfl, ?_⟩
  replace hS := hS.after hT
  refine t_q (q_not rfl) ?_
  refine t_nil ?_
  refine c_cond rfl ?_ ?_
  · intro hc2
    refine c_seq ?_
    refine c_region ?_
    refine t_call Try.call53 (rglives_calls) rfl ?_
    rintro e w ⟨rfl, hT⟩
    refine ⟨_, rfl, ?_⟩
    replace hS := hS.after hT
    refine t_q (q_as (.bool _) rfl) ?_
    refine t_nil ?_
    refine c_ret ?_
    refine r_one rfl rfl ?_
    exact ⟨rfl, hS.nil⟩
  · intro hc2
    refine c_skip ?_
    refine c_seq ?_
    refine c_region ?_
    refine t_q (q_assign) ?_
    refine t_nil ?_
    refine c_seq ?_
    refine c_seq ?_
    refine c_region ?_
    refine t_q (q_mv (.pointer _) rfl) ?_
    refine t_q (q_build (qs := [(0, 1)]) [(.map _)] Try.zeroValue120 Try.runUnderlying120 ⟨rfl, Try.sizeOf118, trivial⟩ rfl rfl) ?_
    refine t_box (v := (.agg _)) rfl rfl hS (fun g16 w hS => ?_)
    replace hS := hS.recast (show _ = blkA g16 120 [.map none] from rfl)
    refine t_buildSlice Try.runUnderlying121 Try.sizeOf29 Try.zeroValue29 rfl rfl (by intro v hv; simp at hv; try (first | (subst hv; rfl) | (rcases hv with rfl | rfl <;> rfl))) (by decide) (by decide) hS (fun g17 w hS => ?_)
    replace hS := hS.recast (show _ = rowA 29 1 (some ⟨g17, 0, none⟩) 2 2 (([none, some ⟨g16, 0, none⟩] : List (Option Addr)).flatMap (fun p => [Value.pointer p])) from rfl)
    refine t_q (q_len_slice Try.runUnderlying121 rfl) ?_
    refine t_q (q_move) ?_
    refine t_nil ?_
    refine c_block ?_
    refine c_loop [4, 7, 8, 9, 19, 20, 21, 22, 23, 24, 25, 26, 27, 28, 29, 30, 31, 32, 33, 34, 35, 36, 37, 38, 39, 40, 41, 42, 43, 44, 45, 46, 47, 48, 49, 50, 51, 52] (fun k σ w => ∃ j : Nat, σ 19 = .int .i64 (j : Int) ∧ j ≤ 2 ∧ 2 - j ≤ k ∧ St W w [rowA 29 1 (some ⟨g17, 0, none⟩) 2 2 (([none, some ⟨g16, 0, none⟩] : List (Option Addr)).flatMap (fun p => [Value.pointer p])), blkA g16 120 [.map none], blkA g2 47 [.int .i64 x.version, .slice x.ticks.A x.ticks.l.length x.ticks.c, .int .i64 x.lot, .int .i64 x.band, .slice x.fees.A x.fees.l.length x.fees.c, .int .i64 x.round, .int .i64 x.priority, .int .i64 x.self, .int .i64 x.layout]]) (2) rfl (⟨0, rfl, by omega, by omega, ((((hS.pick (A := blkA g2 47 [.int .i64 x.version, .slice x.ticks.A x.ticks.l.length x.ticks.c, .int .i64 x.lot, .int .i64 x.band, .slice x.fees.A x.fees.l.length x.fees.c, .int .i64 x.round, .int .i64 x.priority, .int .i64 x.self, .int .i64 x.layout]) (by repeat first | exact .here _ _ | assumption | apply Pick.there)).pick (A := blkA g16 120 [.map none]) (by repeat first | exact .here _ _ | assumption | apply Pick.there)).pick (A := rowA 29 1 (some ⟨g17, 0, none⟩) 2 2 (([none, some ⟨g16, 0, none⟩] : List (Option Addr)).flatMap (fun p => [Value.pointer p]))) (by repeat first | exact .here _ _ | assumption | apply Pick.there))).front3⟩) ?_
    skip
    rintro k σ w ⟨j, h19, hj, hk, hS⟩
    refine c_know 19 h19 ?_
    clear h19
    refine c_seq ?_
    refine c_region ?_
    refine t_q (q_lss rfl rfl) ?_
    refine t_nil ?_
    refine c_seq ?_
    refine c_cond rfl ?_ ?_
    · intro hc5
      have hc5d := of_decide_eq_true hc5
      have hN : ∀ {w' : World} {L R : List Asn}, St W w' L → Pick L (blkA g16 120 [.map none]) R → NoneP w' (([none, some ⟨g16, 0, none⟩] : List (Option Addr)).getD j none) := fun hS pk => by
        rcases (show j = 0 ∨ j = 1 by omega) with rfl | rfl
        · exact .inl rfl
        · exact .inr ⟨g16, rfl, (hS.blk pk).lt, hS.cell pk rfl⟩
      refine c_skip ?_
      refine c_seq ?_
      refine c_block ?_
      refine c_seq ?_
      refine c_region ?_
      first | refine t_index_nat Try.runUnderlying121 Try.sizeOf29 ((show Rd w 1 (some ⟨g17, 0, none⟩) 2 (fun i => [Value.pointer (([none, some ⟨g16, 0, none⟩] : List (Option Addr)).getD i none)]) from hS.rowRdL (l := ([none, some ⟨g16, 0, none⟩] : List (Option Addr))) (cells := fun p => [Value.pointer p]) (by repeat first | exact .here _ _ | assumption | apply Pick.there) rfl (fun _ => rfl))) rfl rfl (by omega) (fun ad6 hl6 hx6 => ?_) | refine t_index Try.runUnderlying121 Try.sizeOf29 ((show Rd w 1 (some ⟨g17, 0, none⟩) 2 (fun i => [Value.pointer (([none, some ⟨g16, 0, none⟩] : List (Option Addr)).getD i none)]) from hS.rowRdL (l := ([none, some ⟨g16, 0, none⟩] : List (Option Addr))) (cells := fun p => [Value.pointer p]) (by repeat first | exact .here _ _ | assumption | apply Pick.there) rfl (fun _ => rfl))) rfl rfl (by omega) (fun ad6 hl6 hx6 => ?_)
      refine t_q (q_cast (v' := .pointer (([none, some ⟨g16, 0, none⟩] : List (Option Addr)).getD j none)) (q_load1 Try.isAgg29 rfl (hx6 0 _ rfl)) (by rcases (show j = 0 ∨ j = 1 by omega) with rfl | rfl <;> rfl)) ?_
      refine t_q (q_as (.pointer _) rfl) ?_
      refine t_nil ?_
      refine c_seq ?_
      refine c_region ?_
      refine t_q (q_mv (.pointer _) rfl) ?_
      refine t_q (q_mv (.int _ _) rfl) ?_
      refine t_call Try.call59 (rgget_none (hN hS (by repeat first | exact .here _ _ | assumption | apply Pick.there))) rfl ?_
      rintro e w ⟨rfl, hT⟩
      refine ⟨_, rfl, ?_⟩
      replace hS := hS.after hT
      refine t_q (q_mv (.tuple _) rfl) ?_
      refine t_q (q_extract rfl rfl) ?_
      refine t_q (q_extract rfl rfl) ?_
      refine t_alloc Try.zeroValue47 rfl hS (fun g8 w hS => ?_)
      refine t_store (v := (.agg _)) Try.sizeOf47 hS (by repeat first | exact .here _ _ | assumption | apply Pick.there) rfl rfl rfl rfl rfl rfl (fun w hS => ?_)
      replace hS := hS.recast (congrArg (blkA g8 47) (rset_full (vs := ruZ.cells) rfl))
      refine t_q (q_as (.bool _) rfl) ?_
      refine t_nil ?_
      refine c_seq ?_
      refine c_region ?_
      refine t_q (q_mv (.pointer _) rfl) ?_
      refine t_q (q_cast (v' := .agg x.cells.toArray) (q_load_blk Try.isAgg47 Try.sizeOf47 rfl (hS.blk (by repeat first | exact .here _ _ | assumption | apply Pick.there)) rfl) (by rfl)) ?_
      refine t_call Try.call21 (rgput_none (hN hS (by repeat first | exact .here _ _ | assumption | apply Pick.there))) rfl ?_
      rintro e w ⟨rfl, hT⟩
      refine ⟨_, rfl, ?_⟩
      replace hS := hS.after hT
      refine t_q (q_cast (v' := .bool false) (q_neq rfl rfl) (by rfl)) ?_
      refine t_q (q_mv (.bool _) rfl) ?_
      refine t_yes rfl rfl rfl ?_
      refine t_q (q_mv (.pointer _) rfl) ?_
      refine t_yes rfl rfl rfl ?_
      refine t_q (q_mv (.int _ _) rfl) ?_
      refine t_yes rfl rfl rfl ?_
      refine t_call Try.call56 (rgdrop_none (hN hS (by repeat first | exact .here _ _ | assumption | apply Pick.there))) rfl ?_
      rintro e w ⟨rfl, hT⟩
      refine ⟨_, rfl, ?_⟩
      replace hS := hS.after hT
      refine t_yes rfl rfl rfl ?_
      refine t_q (q_cast (v' := .bool false) (q_neq rfl rfl) (by rfl)) ?_
      refine t_q (q_pick_f rfl rfl) ?_
      refine t_q (q_mv (.bool _) rfl) ?_
      refine t_yes rfl rfl rfl ?_
      refine t_q (q_mv (.bool _) rfl) ?_
      refine t_q (q_pick_f rfl rfl) ?_
      refine t_q (q_mv (.bool _) rfl) ?_
      refine t_yes rfl rfl rfl ?_
      refine t_q (q_mv (.pointer _) rfl) ?_
      refine t_yes rfl rfl rfl ?_
      refine t_call Try.call63 (rgver_none (hN hS (by repeat first | exact .here _ _ | assumption | apply Pick.there))) rfl ?_
      rintro e w ⟨rfl, hT⟩
      refine ⟨_, rfl, ?_⟩
      replace hS := hS.after hT
      refine t_yes rfl rfl rfl ?_
      refine t_q (q_len_slice Try.runUnderlying59 rfl) ?_
      refine t_yes rfl rfl rfl ?_
      refine t_q (q_mv (.pointer _) rfl) ?_
      refine t_yes rfl rfl rfl ?_
      refine t_call Try.call64 (rgbytes_none (hN hS (by repeat first | exact .here _ _ | assumption | apply Pick.there))) rfl ?_
      rintro e w ⟨rfl, hT⟩
      refine ⟨_, rfl, ?_⟩
      replace hS := hS.after hT
      refine t_yes rfl rfl rfl ?_
      refine t_q (q_len_slice Try.runUnderlying74 rfl) ?_
      refine t_yes rfl rfl rfl ?_
      refine t_q (q_add_i64 rfl rfl (by omega)) ?_
      refine t_yes rfl rfl rfl ?_
      refine t_q (q_cast (v' := .bool false) (q_neq rfl rfl) (by rfl)) ?_
      refine t_q (q_pick_f rfl rfl) ?_
      refine t_nil ?_
      refine c_cond_f rfl rfl ?_
      refine c_skip ?_
      refine c_region ?_
      refine t_q (q_add_i64 rfl rfl (by omega)) ?_
      refine t_q (q_mv (.int _ _) rfl) ?_
      refine t_nil ?_
      exact ⟨k - 1, by omega, j + 1, rfl, by omega, by omega, ((((hS.pick (A := blkA g2 47 [.int .i64 x.version, .slice x.ticks.A x.ticks.l.length x.ticks.c, .int .i64 x.lot, .int .i64 x.band, .slice x.fees.A x.fees.l.length x.fees.c, .int .i64 x.round, .int .i64 x.priority, .int .i64 x.self, .int .i64 x.layout]) (by repeat first | exact .here _ _ | assumption | apply Pick.there)).pick (A := blkA g16 120 [.map none]) (by repeat first | exact .here _ _ | assumption | apply Pick.there)).pick (A := rowA 29 1 (some ⟨g17, 0, none⟩) 2 2 (([none, some ⟨g16, 0, none⟩] : List (Option Addr)).flatMap (fun p => [Value.pointer p]))) (by repeat first | exact .here _ _ | assumption | apply Pick.there))).front3⟩
    · intro hc5
      have hc5d := of_decide_eq_false hc5
      refine c_exit ?_
      refine ite_t rfl ?_
      refine c_seq ?_
      refine c_region ?_
      refine t_q (q_mv (.pointer _) rfl) ?_
      refine t_call Try.call58 (rgclone_nil) rfl ?_
      rintro e w ⟨rfl, hT⟩
      refine ⟨_, rfl, ?_⟩
      replace hS := hS.after hT
      refine t_q (q_eql_ptr_nil Try.runUnderlying29 rfl rfl) ?_
      refine t_q (q_mv (.bool _) rfl) ?_
      refine t_yes rfl rfl rfl ?_
      refine t_call Try.call53 (rglives_calls) rfl ?_
      rintro e w ⟨rfl, hT⟩
      refine ⟨_, rfl, ?_⟩
      replace hS := hS.after hT
      refine t_q (q_pick_t rfl rfl) ?_
      refine t_q (q_as (.bool _) rfl) ?_
      refine t_nil ?_
      refine c_ret ?_
      refine r_one rfl rfl ?_
      exact ⟨rfl, hS.nil⟩
end Go.Proofs.Ytmgobaojioaioaa
