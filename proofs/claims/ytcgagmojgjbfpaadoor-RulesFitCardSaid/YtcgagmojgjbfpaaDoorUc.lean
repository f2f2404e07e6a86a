/- Rule sets: which may be: the document's. -/
import Derived.Test.YtcgagmojgjbfpaaDoorUb
namespace Go.Proofs.YtcgagmojgjbfpaaDoor
open Go Go.RowKit Go.Lib
variable {W : World}
theorem goodT_take (l : List Tk) : GoodT (l.take 9) ↔ GoodT l := by
  rcases Nat.lt_or_ge 8 l.length with h | h
  · constructor
    · rintro ⟨_, h2, _⟩
      rw [List.length_take] at h2
      omega
    · rintro ⟨_, h2, _⟩
      omega
  · rw [List.take_of_length_le (by omega)]
theorem goodF_take (l : List Tr) : GoodF (l.take 9) ↔ GoodF l := by
  rcases Nat.lt_or_ge 8 l.length with h | h
  · constructor
    · rintro ⟨_, h2, _⟩
      rw [List.length_take] at h2
      omega
    · rintro ⟨_, h2, _⟩
      omega
  · rw [List.take_of_length_le (by omega)]
theorem take_nine {α : Type} {l : List α} {j : Nat} (hj : j ≤ l.length) (h9 : j ≤ 9) (h : ¬ (j < l.length ∧ j < 9)) : l.take j = l.take 9 := by
  rcases Nat.lt_or_ge j 9 with h1 | h1
  · have : j = l.length := by omega
    rw [this, List.take_length, List.take_of_length_le (by omega)]
  · rw [show j = 9 by omega]
attribute [local irreducible] blkA rowA
set_option maxRecDepth 100000 in
theorem qticks_calls {x : RuV} (hx : x.Gd W) : Calls Tryd.prog 46 #[.agg x.cells.toArray] W fun e w' => ∃ A' c', e = .returned (.slice A' (x.ticks.l.take 9).length c') ∧ St W w' [rowA 117 2 A' (x.ticks.l.take 9).length c' ((x.ticks.l.take 9).flatMap Tk.cells)] := by
  have hS := St.init W
  refine calls_of_wpE (args := [_]) Tryd.func46 rfl rfl rfl ?_
  refine c_seq ?_
  refine c_region ?_
  refine t_box (v := (.agg _)) rfl rfl hS (fun g1 w hS => ?_)
  replace hS := hS.recast (show _ = blkA g1 42 [.int .i64 x.version, .slice x.ticks.A x.ticks.l.length x.ticks.c, .int .i64 x.lot, .int .i64 x.band, .slice x.fees.A x.fees.l.length x.fees.c, .int .i64 x.round, .int .i64 x.priority, .int .i64 x.self, .int .i64 x.layout] from rfl)
  refine t_q (q_assign) ?_
  refine t_nil ?_
  refine c_seq ?_
  refine c_region ?_
  refine t_q (q_assign) ?_
  refine t_nil ?_
  refine c_seq ?_
  refine c_seq ?_
  refine c_region ?_
  refine t_q (q_assign) ?_
  refine t_nil ?_
  refine c_block ?_
  refine c_loop [3, 4, 5, 6, 7, 8, 9, 10, 11, 12, 13, 14, 15, 16, 17, 18, 19, 20, 21, 22, 23, 24, 25, 26, 27, 28, 29, 30, 31] (fun k σ w => ∃ (j : Nat) (A' : Option Addr) (c' : Nat), σ 4 = .int .i64 (j : Int) ∧ σ 3 = .slice A' j c' ∧ j ≤ x.ticks.l.length ∧ j ≤ 9 ∧ 9 - j ≤ k ∧ St W w [rowA 117 2 A' j c' ((x.ticks.l.take j).flatMap Tk.cells), blkA g1 42 [.int .i64 x.version, .slice x.ticks.A x.ticks.l.length x.ticks.c, .int .i64 x.lot, .int .i64 x.band, .slice x.fees.A x.fees.l.length x.fees.c, .int .i64 x.round, .int .i64 x.priority, .int .i64 x.self, .int .i64 x.layout]]) (9) rfl (⟨0, none, 0, rfl, rfl, by omega, by omega, by omega, ((((hS.nilrow 117 2).pick (A := blkA g1 42 [.int .i64 x.version, .slice x.ticks.A x.ticks.l.length x.ticks.c, .int .i64 x.lot, .int .i64 x.band, .slice x.fees.A x.fees.l.length x.fees.c, .int .i64 x.round, .int .i64 x.priority, .int .i64 x.self, .int .i64 x.layout]) (by repeat first | exact .here _ _ | assumption | apply Pick.there)).pick (A := rowA 117 2 none 0 0 []) (by repeat first | exact .here _ _ | assumption | apply Pick.there))).front2⟩) ?_
  skip
  rintro k σ w ⟨j, A', c', h4, h3, hj, hj9, hk, hS⟩
  refine c_know 4 h4 ?_
  refine c_know 3 h3 ?_
  clear h4 h3
  refine c_seq ?_
  refine c_seq ?_
  refine c_region ?_
  refine t_q (q_mv (.int _ _) rfl) ?_
  refine t_q (q_fieldAddr 1 Tryd.runUnderlying42 rfl Tryd.sizeOf39 (by decide) rfl rfl) ?_
  refine t_q (q_load1 Tryd.isAgg39 rfl (hS.cell (by repeat first | exact .here _ _ | assumption | apply Pick.there) rfl)) ?_
  refine t_q (q_len_slice Tryd.runUnderlying39 rfl) ?_
  refine t_q (q_lss rfl rfl) ?_
  refine t_q (q_mv (.bool _) rfl) ?_
  refine t_case 10 rfl ?_ ?_
  · intro hg2
    have hg2d := of_decide_eq_true hg2
    refine t_yes rfl rfl hg2 ?_
    refine t_q (q_mv (.int _ _) rfl) ?_
    refine t_yes rfl rfl hg2 ?_
    refine t_q (q_lss rfl rfl) ?_
    refine t_q (q_pick_t rfl hg2) ?_
    refine t_nil ?_
    refine c_cond rfl ?_ ?_
    · intro hc4
      have hc4d := of_decide_eq_true hc4
      refine c_skip ?_
      refine c_seq ?_
      refine c_block ?_
      refine c_draw ?_
      refine d_keep (blkA g1 42 [.int .i64 x.version, .slice x.ticks.A x.ticks.l.length x.ticks.c, .int .i64 x.lot, .int .i64 x.band, .slice x.fees.A x.fees.l.length x.fees.c, .int .i64 x.round, .int .i64 x.priority, .int .i64 x.self, .int .i64 x.layout]) 17 [0, 1, 2, 3, 4, 5, 6, 7, 8, 9, 10, 11, 12, 13, 14, 15, 16] [0, 1, 2, 3, 4, 5, 6, 7, 8, 9, 10, 11, 12, 13, 14, 15, 16] hS rfl (by kernel_rfl) (by kernel_rfl) (by kernel_rfl) (by kernel_rfl) (fun hap hsel w hS => ?_)
      refine p_q hap hsel 0 rfl rfl ⟨_, hS.pick (by repeat first | exact .here _ _ | assumption | apply Pick.there)⟩ (fun w hI => q_mv (.slice _ _ _) rfl) ?_
      refine p_q hap hsel 1 rfl rfl ⟨_, hS.pick (by repeat first | exact .here _ _ | assumption | apply Pick.there)⟩ (fun w hI => q_fieldAddr 1 Tryd.runUnderlying42 rfl Tryd.sizeOf39 (by decide) rfl rfl) ?_
      refine p_q hap hsel 2 rfl rfl ⟨_, hS.pick (by repeat first | exact .here _ _ | assumption | apply Pick.there)⟩ (fun w hI => q_load1 Tryd.isAgg39 rfl (hI.choose_spec.cell (by repeat first | exact .here _ _ | assumption | apply Pick.there) rfl)) ?_
      refine p_q hap hsel 3 rfl rfl ⟨_, hS.pick (by repeat first | exact .here _ _ | assumption | apply Pick.there)⟩ (fun w hI => q_mv (.int _ _) rfl) ?_
      refine p_index hap hsel 4 rfl rfl ⟨_, hS.pick (by repeat first | exact .here _ _ | assumption | apply Pick.there)⟩ Tryd.runUnderlying39 Tryd.sizeOf54 (fun w hI => (hx.trd).st hI.choose_spec) rfl rfl (by omega) (fun ad5 hl5 hx5 => ?_)
      refine p_q hap hsel 5 rfl rfl ⟨_, hS.pick (by repeat first | exact .here _ _ | assumption | apply Pick.there)⟩ (fun w hI => q_fieldAddr 0 Tryd.runUnderlying54 rfl Tryd.sizeOf2 (by decide) rfl rfl) ?_
      refine p_q hap hsel 6 rfl rfl ⟨_, hS.pick (by repeat first | exact .here _ _ | assumption | apply Pick.there)⟩ (fun w hI => q_load1 Tryd.isAgg2 rfl ((hx5 w hI) 0 _ rfl)) ?_
      refine p_q hap hsel 7 rfl rfl ⟨_, hS.pick (by repeat first | exact .here _ _ | assumption | apply Pick.there)⟩ (fun w hI => q_fieldAddr 1 Tryd.runUnderlying42 rfl Tryd.sizeOf39 (by decide) rfl rfl) ?_
      refine p_q hap hsel 8 rfl rfl ⟨_, hS.pick (by repeat first | exact .here _ _ | assumption | apply Pick.there)⟩ (fun w hI => q_load1 Tryd.isAgg39 rfl (hI.choose_spec.cell (by repeat first | exact .here _ _ | assumption | apply Pick.there) rfl)) ?_
      refine p_q hap hsel 9 rfl rfl ⟨_, hS.pick (by repeat first | exact .here _ _ | assumption | apply Pick.there)⟩ (fun w hI => q_mv (.int _ _) rfl) ?_
      refine p_index hap hsel 10 rfl rfl ⟨_, hS.pick (by repeat first | exact .here _ _ | assumption | apply Pick.there)⟩ Tryd.runUnderlying39 Tryd.sizeOf54 (fun w hI => (hx.trd).st hI.choose_spec) rfl rfl (by omega) (fun ad6 hl6 hx6 => ?_)
      refine p_q hap hsel 11 rfl rfl ⟨_, hS.pick (by repeat first | exact .here _ _ | assumption | apply Pick.there)⟩ (fun w hI => q_fieldAddr 1 Tryd.runUnderlying54 rfl Tryd.sizeOf2 (by decide) rfl rfl) ?_
      refine p_q hap hsel 12 rfl rfl ⟨_, hS.pick (by repeat first | exact .here _ _ | assumption | apply Pick.there)⟩ (fun w hI => q_load1 Tryd.isAgg2 rfl ((hx6 w hI) 1 _ rfl)) ?_
      refine p_q hap hsel 13 rfl rfl ⟨_, hS.pick (by repeat first | exact .here _ _ | assumption | apply Pick.there)⟩ (fun w hI => q_build (qs := [(0, 1), (1, 1)]) [(.int _ _), (.int _ _)] Tryd.zeroValue117 Tryd.runUnderlying117 ⟨rfl, Tryd.sizeOf2, rfl, Tryd.sizeOf2, trivial⟩ rfl rfl) ?_
      refine p_one 14 rfl (by kernel_rfl) ?_
      refine t_buildSlice Tryd.runUnderlying82 Tryd.sizeOf117 Tryd.zeroValue117 rfl rfl (by intro v hv; simp at hv; try (first | (subst hv; rfl) | (rcases hv with rfl | rfl <;> rfl))) (by decide) (by decide) hS (fun g30 w hS => ?_)
      refine t_nil ?_
      refine ⟨.inr ⟨_, hS.pick (by repeat first | exact .here _ _ | assumption | apply Pick.there)⟩, ?_⟩
      refine p_one 15 rfl (by kernel_rfl) ?_
      refine t_append_own (size := 2) (bytes := 16) Tryd.underlying82 (info_of Tryd.type117) rfl rfl rfl rfl (by decide) hS (by repeat first | exact .here _ _ | assumption | apply Pick.there) (by repeat first | exact .here _ _ | assumption | apply Pick.there) rfl rfl (by first | exact allOne_bv _ | exact allOne_ints _ _ | rfl) (by unfold maxLen; omega) (by omega) (fun A31 c31 w hS => ?_)
      refine t_nil ?_
      refine ⟨.inr ⟨_, hS.pick (by repeat first | exact .here _ _ | assumption | apply Pick.there)⟩, ?_⟩
      refine p_q hap hsel 16 rfl rfl ⟨_, hS.pick (by repeat first | exact .here _ _ | assumption | apply Pick.there)⟩ (fun w hI => q_as (.slice _ _ _) rfl) ?_
      refine p_end (by kernel_rfl) ?_
      refine c_region ?_
      refine t_q (q_mv (.int _ _) rfl) ?_
      refine t_q (q_add_i64 rfl rfl (by omega)) ?_
      refine t_q (q_as (.int _ _) rfl) ?_
      refine t_nil ?_
      replace hS := (hS.pick (A := rowA 117 2 A31 _ c31 _) (by repeat first | exact .here _ _ | assumption | apply Pick.there)).recast (congrArg (rowA 117 2 A31 _ c31) (show _ = (x.ticks.l.take (j + 1)).flatMap Tk.cells from by rw [flat_tk (by omega)]; rfl))
      exact ⟨k - 1, by omega, j + 1, A31, c31, rfl, rfl, by omega, by omega, by omega, (((hS.pick (A := blkA g1 42 [.int .i64 x.version, .slice x.ticks.A x.ticks.l.length x.ticks.c, .int .i64 x.lot, .int .i64 x.band, .slice x.fees.A x.fees.l.length x.fees.c, .int .i64 x.round, .int .i64 x.priority, .int .i64 x.self, .int .i64 x.layout]) (by repeat first | exact .here _ _ | assumption | apply Pick.there)).pick (A := rowA 117 2 A31 _ c31 _) (by repeat first | exact .here _ _ | assumption | apply Pick.there))).front2⟩
    · intro hc4
      have hc4d := of_decide_eq_false hc4
      have he : x.ticks.l.take j = x.ticks.l.take 9 := take_nine hj hj9 (by omega)
      have hl9 : (x.ticks.l.take 9).length = j := by rw [← he, List.length_take]; omega
      refine c_exit ?_
      refine ite_t rfl ?_
      refine c_seq ?_
      refine c_region ?_
      refine t_q (q_mv (.slice _ _ _) rfl) ?_
      refine t_q (q_as (.slice _ _ _) rfl) ?_
      refine t_nil ?_
      refine c_ret ?_
      refine r_one rfl rfl ?_
      refine ⟨A', c', (by show Ending.returned (.slice A' j c') = _; rw [hl9]), ?_⟩
      have h := hS.front1
      rw [he] at h
      rw [hl9]
      exact h
  · intro hg2
    have hg2d := of_decide_eq_false hg2
    refine t_no rfl rfl (by rw [hg2]; decide) ?_
    refine t_no rfl rfl (by rw [hg2]; decide) ?_
    refine t_q (q_pick_f rfl hg2) ?_
    refine t_nil ?_
    refine c_cond_f rfl rfl ?_
    have he : x.ticks.l.take j = x.ticks.l.take 9 := take_nine hj hj9 (by omega)
    have hl9 : (x.ticks.l.take 9).length = j := by rw [← he, List.length_take]; omega
    refine c_exit ?_
    refine ite_t rfl ?_
    refine c_seq ?_
    refine c_region ?_
    refine t_q (q_mv (.slice _ _ _) rfl) ?_
    refine t_q (q_as (.slice _ _ _) rfl) ?_
    refine t_nil ?_
    refine c_ret ?_
    refine r_one rfl rfl ?_
    refine ⟨A', c', (by show Ending.returned (.slice A' j c') = _; rw [hl9]), ?_⟩
    have h := hS.front1
    rw [he] at h
    rw [hl9]
    exact h
set_option maxRecDepth 100000 in
theorem qtiers_calls {x : RuV} (hx : x.Gd W) : Calls Tryd.prog 48 #[.agg x.cells.toArray] W fun e w' => ∃ A' c', e = .returned (.slice A' (x.fees.l.take 9).length c') ∧ St W w' [rowA 118 3 A' (x.fees.l.take 9).length c' ((x.fees.l.take 9).flatMap Tr.cells)] := by
  have hS := St.init W
  refine calls_of_wpE (args := [_]) Tryd.func48 rfl rfl rfl ?_
  refine c_seq ?_
  refine c_region ?_
  refine t_box (v := (.agg _)) rfl rfl hS (fun g1 w hS => ?_)
  replace hS := hS.recast (show _ = blkA g1 42 [.int .i64 x.version, .slice x.ticks.A x.ticks.l.length x.ticks.c, .int .i64 x.lot, .int .i64 x.band, .slice x.fees.A x.fees.l.length x.fees.c, .int .i64 x.round, .int .i64 x.priority, .int .i64 x.self, .int .i64 x.layout] from rfl)
  refine t_q (q_assign) ?_
  refine t_nil ?_
  refine c_seq ?_
  refine c_region ?_
  refine t_q (q_assign) ?_
  refine t_nil ?_
  refine c_seq ?_
  refine c_seq ?_
  refine c_region ?_
  refine t_q (q_assign) ?_
  refine t_nil ?_
  refine c_block ?_
  refine c_loop [3, 4, 5, 6, 7, 8, 9, 10, 11, 12, 13, 14, 15, 16, 17, 18, 19, 20, 21, 22, 23, 24, 25, 26, 27, 28, 29, 30, 31, 32, 33, 34, 35, 36, 37] (fun k σ w => ∃ (j : Nat) (A' : Option Addr) (c' : Nat), σ 4 = .int .i64 (j : Int) ∧ σ 3 = .slice A' j c' ∧ j ≤ x.fees.l.length ∧ j ≤ 9 ∧ 9 - j ≤ k ∧ St W w [rowA 118 3 A' j c' ((x.fees.l.take j).flatMap Tr.cells), blkA g1 42 [.int .i64 x.version, .slice x.ticks.A x.ticks.l.length x.ticks.c, .int .i64 x.lot, .int .i64 x.band, .slice x.fees.A x.fees.l.length x.fees.c, .int .i64 x.round, .int .i64 x.priority, .int .i64 x.self, .int .i64 x.layout]]) (9) rfl (⟨0, none, 0, rfl, rfl, by omega, by omega, by omega, ((((hS.nilrow 118 3).pick (A := blkA g1 42 [.int .i64 x.version, .slice x.ticks.A x.ticks.l.length x.ticks.c, .int .i64 x.lot, .int .i64 x.band, .slice x.fees.A x.fees.l.length x.fees.c, .int .i64 x.round, .int .i64 x.priority, .int .i64 x.self, .int .i64 x.layout]) (by repeat first | exact .here _ _ | assumption | apply Pick.there)).pick (A := rowA 118 3 none 0 0 []) (by repeat first | exact .here _ _ | assumption | apply Pick.there))).front2⟩) ?_
  skip
  rintro k σ w ⟨j, A', c', h4, h3, hj, hj9, hk, hS⟩
  refine c_know 4 h4 ?_
  refine c_know 3 h3 ?_
  clear h4 h3
  refine c_seq ?_
  refine c_seq ?_
  refine c_region ?_
  refine t_q (q_mv (.int _ _) rfl) ?_
  refine t_q (q_fieldAddr 4 Tryd.runUnderlying42 rfl Tryd.sizeOf40 (by decide) rfl rfl) ?_
  refine t_q (q_load1 Tryd.isAgg40 rfl (hS.cell (by repeat first | exact .here _ _ | assumption | apply Pick.there) rfl)) ?_
  refine t_q (q_len_slice Tryd.runUnderlying40 rfl) ?_
  refine t_q (q_lss rfl rfl) ?_
  refine t_q (q_mv (.bool _) rfl) ?_
  refine t_case 10 rfl ?_ ?_
  · intro hg2
    have hg2d := of_decide_eq_true hg2
    refine t_yes rfl rfl hg2 ?_
    refine t_q (q_mv (.int _ _) rfl) ?_
    refine t_yes rfl rfl hg2 ?_
    refine t_q (q_lss rfl rfl) ?_
    refine t_q (q_pick_t rfl hg2) ?_
    refine t_nil ?_
    refine c_cond rfl ?_ ?_
    · intro hc4
      have hc4d := of_decide_eq_true hc4
      refine c_skip ?_
      refine c_seq ?_
      refine c_block ?_
      refine c_draw ?_
      refine d_keep (blkA g1 42 [.int .i64 x.version, .slice x.ticks.A x.ticks.l.length x.ticks.c, .int .i64 x.lot, .int .i64 x.band, .slice x.fees.A x.fees.l.length x.fees.c, .int .i64 x.round, .int .i64 x.priority, .int .i64 x.self, .int .i64 x.layout]) 23 [0, 1, 2, 3, 4, 5, 6, 7, 8, 9, 10, 11, 12, 13, 14, 15, 16, 17, 18, 19, 20, 21, 22] [0, 1, 2, 3, 4, 5, 6, 7, 8, 9, 10, 11, 12, 13, 14, 15, 16, 17, 18, 19, 20, 21, 22] hS rfl (by kernel_rfl) (by kernel_rfl) (by kernel_rfl) (by kernel_rfl) (fun hap hsel w hS => ?_)
      refine p_q hap hsel 0 rfl rfl ⟨_, hS.pick (by repeat first | exact .here _ _ | assumption | apply Pick.there)⟩ (fun w hI => q_mv (.slice _ _ _) rfl) ?_
      refine p_q hap hsel 1 rfl rfl ⟨_, hS.pick (by repeat first | exact .here _ _ | assumption | apply Pick.there)⟩ (fun w hI => q_fieldAddr 4 Tryd.runUnderlying42 rfl Tryd.sizeOf40 (by decide) rfl rfl) ?_
      refine p_q hap hsel 2 rfl rfl ⟨_, hS.pick (by repeat first | exact .here _ _ | assumption | apply Pick.there)⟩ (fun w hI => q_load1 Tryd.isAgg40 rfl (hI.choose_spec.cell (by repeat first | exact .here _ _ | assumption | apply Pick.there) rfl)) ?_
      refine p_q hap hsel 3 rfl rfl ⟨_, hS.pick (by repeat first | exact .here _ _ | assumption | apply Pick.there)⟩ (fun w hI => q_mv (.int _ _) rfl) ?_
      refine p_index hap hsel 4 rfl rfl ⟨_, hS.pick (by repeat first | exact .here _ _ | assumption | apply Pick.there)⟩ Tryd.runUnderlying40 Tryd.sizeOf56 (fun w hI => (hx.frd).st hI.choose_spec) rfl rfl (by omega) (fun ad5 hl5 hx5 => ?_)
      refine p_q hap hsel 5 rfl rfl ⟨_, hS.pick (by repeat first | exact .here _ _ | assumption | apply Pick.there)⟩ (fun w hI => q_fieldAddr 0 Tryd.runUnderlying56 rfl Tryd.sizeOf2 (by decide) rfl rfl) ?_
      refine p_q hap hsel 6 rfl rfl ⟨_, hS.pick (by repeat first | exact .here _ _ | assumption | apply Pick.there)⟩ (fun w hI => q_load1 Tryd.isAgg2 rfl ((hx5 w hI) 0 _ rfl)) ?_
      refine p_q hap hsel 7 rfl rfl ⟨_, hS.pick (by repeat first | exact .here _ _ | assumption | apply Pick.there)⟩ (fun w hI => q_fieldAddr 4 Tryd.runUnderlying42 rfl Tryd.sizeOf40 (by decide) rfl rfl) ?_
      refine p_q hap hsel 8 rfl rfl ⟨_, hS.pick (by repeat first | exact .here _ _ | assumption | apply Pick.there)⟩ (fun w hI => q_load1 Tryd.isAgg40 rfl (hI.choose_spec.cell (by repeat first | exact .here _ _ | assumption | apply Pick.there) rfl)) ?_
      refine p_q hap hsel 9 rfl rfl ⟨_, hS.pick (by repeat first | exact .here _ _ | assumption | apply Pick.there)⟩ (fun w hI => q_mv (.int _ _) rfl) ?_
      refine p_index hap hsel 10 rfl rfl ⟨_, hS.pick (by repeat first | exact .here _ _ | assumption | apply Pick.there)⟩ Tryd.runUnderlying40 Tryd.sizeOf56 (fun w hI => (hx.frd).st hI.choose_spec) rfl rfl (by omega) (fun ad6 hl6 hx6 => ?_)
      refine p_q hap hsel 11 rfl rfl ⟨_, hS.pick (by repeat first | exact .here _ _ | assumption | apply Pick.there)⟩ (fun w hI => q_fieldAddr 1 Tryd.runUnderlying56 rfl Tryd.sizeOf2 (by decide) rfl rfl) ?_
      refine p_q hap hsel 12 rfl rfl ⟨_, hS.pick (by repeat first | exact .here _ _ | assumption | apply Pick.there)⟩ (fun w hI => q_load1 Tryd.isAgg2 rfl ((hx6 w hI) 1 _ rfl)) ?_
      refine p_q hap hsel 13 rfl rfl ⟨_, hS.pick (by repeat first | exact .here _ _ | assumption | apply Pick.there)⟩ (fun w hI => q_fieldAddr 4 Tryd.runUnderlying42 rfl Tryd.sizeOf40 (by decide) rfl rfl) ?_
      refine p_q hap hsel 14 rfl rfl ⟨_, hS.pick (by repeat first | exact .here _ _ | assumption | apply Pick.there)⟩ (fun w hI => q_load1 Tryd.isAgg40 rfl (hI.choose_spec.cell (by repeat first | exact .here _ _ | assumption | apply Pick.there) rfl)) ?_
      refine p_q hap hsel 15 rfl rfl ⟨_, hS.pick (by repeat first | exact .here _ _ | assumption | apply Pick.there)⟩ (fun w hI => q_mv (.int _ _) rfl) ?_
      refine p_index hap hsel 16 rfl rfl ⟨_, hS.pick (by repeat first | exact .here _ _ | assumption | apply Pick.there)⟩ Tryd.runUnderlying40 Tryd.sizeOf56 (fun w hI => (hx.frd).st hI.choose_spec) rfl rfl (by omega) (fun ad7 hl7 hx7 => ?_)
      refine p_q hap hsel 17 rfl rfl ⟨_, hS.pick (by repeat first | exact .here _ _ | assumption | apply Pick.there)⟩ (fun w hI => q_fieldAddr 2 Tryd.runUnderlying56 rfl Tryd.sizeOf2 (by decide) rfl rfl) ?_
      refine p_q hap hsel 18 rfl rfl ⟨_, hS.pick (by repeat first | exact .here _ _ | assumption | apply Pick.there)⟩ (fun w hI => q_load1 Tryd.isAgg2 rfl ((hx7 w hI) 2 _ rfl)) ?_
      refine p_q hap hsel 19 rfl rfl ⟨_, hS.pick (by repeat first | exact .here _ _ | assumption | apply Pick.there)⟩ (fun w hI => q_build (qs := [(0, 1), (1, 1), (2, 1)]) [(.int _ _), (.int _ _), (.int _ _)] Tryd.zeroValue118 Tryd.runUnderlying118 ⟨rfl, Tryd.sizeOf2, rfl, Tryd.sizeOf2, rfl, Tryd.sizeOf2, trivial⟩ rfl rfl) ?_
      refine p_one 20 rfl (by kernel_rfl) ?_
      refine t_buildSlice Tryd.runUnderlying85 Tryd.sizeOf118 Tryd.zeroValue118 rfl rfl (by intro v hv; simp at hv; try (first | (subst hv; rfl) | (rcases hv with rfl | rfl <;> rfl))) (by decide) (by decide) hS (fun g36 w hS => ?_)
      refine t_nil ?_
      refine ⟨.inr ⟨_, hS.pick (by repeat first | exact .here _ _ | assumption | apply Pick.there)⟩, ?_⟩
      refine p_one 21 rfl (by kernel_rfl) ?_
      refine t_append_own (size := 3) (bytes := 24) Tryd.underlying85 (info_of Tryd.type118) rfl rfl rfl rfl (by decide) hS (by repeat first | exact .here _ _ | assumption | apply Pick.there) (by repeat first | exact .here _ _ | assumption | apply Pick.there) rfl rfl (by first | exact allOne_bv _ | exact allOne_ints _ _ | rfl) (by unfold maxLen; omega) (by omega) (fun A37 c37 w hS => ?_)
      refine t_nil ?_
      refine ⟨.inr ⟨_, hS.pick (by repeat first | exact .here _ _ | assumption | apply Pick.there)⟩, ?_⟩
      refine p_q hap hsel 22 rfl rfl ⟨_, hS.pick (by repeat first | exact .here _ _ | assumption | apply Pick.there)⟩ (fun w hI => q_as (.slice _ _ _) rfl) ?_
      refine p_end (by kernel_rfl) ?_
      refine c_region ?_
      refine t_q (q_mv (.int _ _) rfl) ?_
      refine t_q (q_add_i64 rfl rfl (by omega)) ?_
      refine t_q (q_as (.int _ _) rfl) ?_
      refine t_nil ?_
      replace hS := (hS.pick (A := rowA 118 3 A37 _ c37 _) (by repeat first | exact .here _ _ | assumption | apply Pick.there)).recast (congrArg (rowA 118 3 A37 _ c37) (show _ = (x.fees.l.take (j + 1)).flatMap Tr.cells from by rw [flat_tr (by omega)]; rfl))
      exact ⟨k - 1, by omega, j + 1, A37, c37, rfl, rfl, by omega, by omega, by omega, (((hS.pick (A := blkA g1 42 [.int .i64 x.version, .slice x.ticks.A x.ticks.l.length x.ticks.c, .int .i64 x.lot, .int .i64 x.band, .slice x.fees.A x.fees.l.length x.fees.c, .int .i64 x.round, .int .i64 x.priority, .int .i64 x.self, .int .i64 x.layout]) (by repeat first | exact .here _ _ | assumption | apply Pick.there)).pick (A := rowA 118 3 A37 _ c37 _) (by repeat first | exact .here _ _ | assumption | apply Pick.there))).front2⟩
    · intro hc4
      have hc4d := of_decide_eq_false hc4
      have he : x.fees.l.take j = x.fees.l.take 9 := take_nine hj hj9 (by omega)
      have hl9 : (x.fees.l.take 9).length = j := by rw [← he, List.length_take]; omega
      refine c_exit ?_
      refine ite_t rfl ?_
      refine c_seq ?_
      refine c_region ?_
      refine t_q (q_mv (.slice _ _ _) rfl) ?_
      refine t_q (q_as (.slice _ _ _) rfl) ?_
      refine t_nil ?_
      refine c_ret ?_
      refine r_one rfl rfl ?_
      refine ⟨A', c', (by show Ending.returned (.slice A' j c') = _; rw [hl9]), ?_⟩
      have h := hS.front1
      rw [he] at h
      rw [hl9]
      exact h
  · intro hg2
    have hg2d := of_decide_eq_false hg2
    refine t_no rfl rfl (by rw [hg2]; decide) ?_
    refine t_no rfl rfl (by rw [hg2]; decide) ?_
    refine t_q (q_pick_f rfl hg2) ?_
    refine t_nil ?_
    refine c_cond_f rfl rfl ?_
    have he : x.fees.l.take j = x.fees.l.take 9 := take_nine hj hj9 (by omega)
    have hl9 : (x.fees.l.take 9).length = j := by rw [← he, List.length_take]; omega
    refine c_exit ?_
    refine ite_t rfl ?_
    refine c_seq ?_
    refine c_region ?_
    refine t_q (q_mv (.slice _ _ _) rfl) ?_
    refine t_q (q_as (.slice _ _ _) rfl) ?_
    refine t_nil ?_
    refine c_ret ?_
    refine r_one rfl rfl ?_
    refine ⟨A', c', (by show Ending.returned (.slice A' j c') = _; rw [hl9]), ?_⟩
    have h := hS.front1
    rw [he] at h
    rw [hl9]
    exact h
set_option maxHeartbeats 4000000 in
set_option maxRecDepth 100000 in
theorem qgt_calls {A : Option Addr} {c : Nat} {l : List Tk} (hl : RdTk W A l) (hi : ∀ e ∈ l, e.In) (hm : l.length ≤ 1000000) : Calls Tryd.prog 45 #[.slice A l.length c] W fun e w' => e = .returned (.bool (decide (GoodT l))) ∧ St W w' [] := by
  have hS := St.init W
  refine calls_of_wpE (args := [_]) Tryd.func45 rfl rfl rfl ?_
  refine c_seq ?_
  refine c_region ?_
  refine t_q (q_assign) ?_
  refine t_nil ?_
  refine c_seq ?_
  refine c_seq ?_
  refine c_region ?_
  refine t_q (q_mv (.slice _ _ _) rfl) ?_
  refine t_q (q_len_slice Tryd.runUnderlying82 rfl) ?_
  refine t_q (q_lss rfl rfl) ?_
  refine t_q (q_mv (.bool _) rfl) ?_
  refine t_case 7 rfl ?_ ?_
  · intro hg2
    have hg2d := of_decide_eq_true hg2
    refine t_no rfl rfl (by rw [hg2]; decide) ?_
    refine t_no rfl rfl (by rw [hg2]; decide) ?_
    refine t_no rfl rfl (by rw [hg2]; decide) ?_
    refine t_q (q_pick_t rfl hg2) ?_
    refine t_q (q_mv (.bool _) rfl) ?_
    refine t_no rfl rfl (by decide) ?_
    refine t_no rfl rfl (by decide) ?_
    refine t_no rfl rfl (by decide) ?_
    refine t_no rfl rfl (by decide) ?_
    refine t_no rfl rfl (by decide) ?_
    refine t_q (q_pick_t rfl rfl) ?_
    refine t_nil ?_
    refine c_cond_t rfl rfl ?_
    have hD : ¬ GoodT l := by
      rintro ⟨h1, h2, h3, _⟩
      have f0 : (l.getD (0 : Int).toNat default).frm = (l.getD 0 default).frm := rfl
      omega
    refine c_seq ?_
    refine c_region ?_
    refine t_q (q_assign) ?_
    refine t_nil ?_
    refine c_ret ?_
    refine r_one rfl rfl ?_
    have hN := hS.nil
    clear hS
    refine ⟨congrArg (fun b => Ending.returned (.bool b)) ?_, hN⟩
    first
      | exact (decide_eq_true hD).symm
      | exact (decide_eq_false hD).symm
  · intro hg2
    have hg2d := of_decide_eq_false hg2
    refine t_yes rfl rfl hg2 ?_
    refine t_q (q_mv (.slice _ _ _) rfl) ?_
    refine t_yes rfl rfl hg2 ?_
    refine t_q (q_len_slice Tryd.runUnderlying82 rfl) ?_
    refine t_yes rfl rfl hg2 ?_
    refine t_q (q_gtr rfl rfl) ?_
    refine t_q (q_pick_f rfl hg2) ?_
    refine t_q (q_mv (.bool _) rfl) ?_
    refine t_case 12 rfl ?_ ?_
    · intro hg4
      have hg4d := of_decide_eq_true hg4
      refine t_no rfl rfl (by rw [hg4]; decide) ?_
      refine t_no rfl rfl (by rw [hg4]; decide) ?_
      refine t_no rfl rfl (by rw [hg4]; decide) ?_
      refine t_no rfl rfl (by rw [hg4]; decide) ?_
      refine t_no rfl rfl (by rw [hg4]; decide) ?_
      refine t_q (q_pick_t rfl hg4) ?_
      refine t_nil ?_
      refine c_cond_t rfl rfl ?_
      have hD : ¬ GoodT l := by
        rintro ⟨h1, h2, h3, _⟩
        have f0 : (l.getD (0 : Int).toNat default).frm = (l.getD 0 default).frm := rfl
        omega
      refine c_seq ?_
      refine c_region ?_
      refine t_q (q_assign) ?_
      refine t_nil ?_
      refine c_ret ?_
      refine r_one rfl rfl ?_
      have hN := hS.nil
      clear hS
      refine ⟨congrArg (fun b => Ending.returned (.bool b)) ?_, hN⟩
      first
        | exact (decide_eq_true hD).symm
        | exact (decide_eq_false hD).symm
    · intro hg4
      have hg4d := of_decide_eq_false hg4
      refine t_yes rfl rfl hg4 ?_
      refine t_q (q_mv (.slice _ _ _) rfl) ?_
      refine t_yes rfl rfl hg4 ?_
      first | refine t_index_nat Tryd.runUnderlying82 Tryd.sizeOf117 (hl.st hS) rfl rfl (by omega) (fun ad5 hl5 hx5 => ?_) | refine t_index Tryd.runUnderlying82 Tryd.sizeOf117 (hl.st hS) rfl rfl (by omega) (fun ad5 hl5 hx5 => ?_)
      refine t_yes rfl rfl hg4 ?_
      refine t_q (q_fieldAddr 0 Tryd.runUnderlying117 rfl Tryd.sizeOf2 (by decide) rfl rfl) ?_
      refine t_yes rfl rfl hg4 ?_
      refine t_q (q_load1 Tryd.isAgg2 rfl (hx5 0 _ rfl)) ?_
      refine t_yes rfl rfl hg4 ?_
      refine t_q (q_neq rfl rfl) ?_
      refine t_q (q_pick_f rfl hg4) ?_
      refine t_nil ?_
      refine c_cond rfl ?_ ?_
      · intro hc7
        have hc7d := of_decide_eq_true hc7
        have hD : ¬ GoodT l := by
          rintro ⟨h1, h2, h3, _⟩
          have f0 : (l.getD (0 : Int).toNat default).frm = (l.getD 0 default).frm := rfl
          omega
        refine c_seq ?_
        refine c_region ?_
        refine t_q (q_assign) ?_
        refine t_nil ?_
        refine c_ret ?_
        refine r_one rfl rfl ?_
        have hN := hS.nil
        clear hS
        refine ⟨congrArg (fun b => Ending.returned (.bool b)) ?_, hN⟩
        first
          | exact (decide_eq_true hD).symm
          | exact (decide_eq_false hD).symm
      · intro hc7
        have hc7d := of_decide_eq_false hc7
        have f0 : (l.getD (0 : Int).toNat default).frm = (l.getD 0 default).frm := rfl
        have h0 : (l.getD 0 default).frm = 0 := by omega
        refine c_skip ?_
        refine c_seq ?_
        refine c_seq ?_
        refine c_region ?_
        refine t_q (q_assign) ?_
        refine t_nil ?_
        refine c_block ?_
        refine c_loop [2, 3, 19, 20, 21, 22, 23, 24, 25, 26, 27, 28, 29, 30, 31, 32, 33, 34, 35, 36, 37, 38, 39, 40, 41, 42, 43, 44, 45, 46, 47, 48, 49, 50, 51, 52, 53, 54, 55, 56, 57, 58, 59, 60, 61, 62, 63, 64] (fun k σ w => ∃ j : Nat, σ 3 = .int .i64 (j : Int) ∧ j ≤ l.length ∧ l.length - j ≤ k ∧ (∀ i, i < j → TickP l i) ∧ St W w []) (l.length) rfl (⟨0, rfl, by omega, by omega, (fun i h => absurd h (by omega)), hS⟩) ?_
        skip
        rintro k σ w ⟨j, hj0, hj, hk, hall, hS⟩
        refine c_know 3 hj0 ?_
        clear hj0
        refine c_seq ?_
        refine c_seq ?_
        refine c_region ?_
        refine t_q (q_mv (.int _ _) rfl) ?_
        refine t_q (q_mv (.slice _ _ _) rfl) ?_
        refine t_q (q_len_slice Tryd.runUnderlying82 rfl) ?_
        refine t_q (q_lss rfl rfl) ?_
        refine t_nil ?_
        refine c_cond rfl ?_ ?_
        · intro hc9
          have hc9d := of_decide_eq_true hc9
          refine c_skip ?_
          refine c_seq ?_
          refine c_block ?_
          refine c_seq ?_
          refine c_draw ?_
          refine d_quiet 40 [0, 1, 2, 3, 4, 5, 6, 7, 8, 9, 10, 11, 12, 13, 14, 15, 16, 17, 18, 19, 20, 21, 22, 23, 24, 25, 26, 27, 28, 29, 30, 31, 32, 33, 34, 35, 36, 37, 38, 39] [0, 1, 2, 3, 4, 5, 6, 7, 8, 9, 10, 11, 12, 13, 14, 15, 16, 17, 18, 19, 20, 21, 22, 23, 24, 25, 26, 27, 28, 29, 30, 31, 32, 33, 34, 35, 36, 37, 38, 39] hS rfl (by kernel_rfl) (by kernel_rfl) (by kernel_rfl) (by kernel_rfl) (fun hap hsel w hS => ?_)
          refine p_q hap hsel 0 rfl rfl hS (fun w hS => q_mv (.slice _ _ _) rfl) ?_
          refine p_q hap hsel 1 rfl rfl hS (fun w hS => q_mv (.int _ _) rfl) ?_
          refine p_index hap hsel 2 rfl rfl hS Tryd.runUnderlying82 Tryd.sizeOf117 (fun w hS => hl.st hS) rfl rfl (by omega) (fun ad10 hl10 hx10 => ?_)
          refine p_q hap hsel 3 rfl rfl hS (fun w hS => q_fieldAddr 1 Tryd.runUnderlying117 rfl Tryd.sizeOf2 (by decide) rfl rfl) ?_
          refine p_q hap hsel 4 rfl rfl hS (fun w hS => q_load1 Tryd.isAgg2 rfl ((hx10 w hS) 1 _ rfl)) ?_
          refine p_q hap hsel 5 rfl rfl hS (fun w hS => q_lss rfl rfl) ?_
          refine p_q hap hsel 6 rfl rfl hS (fun w hS => q_mv (.bool _) rfl) ?_
          refine p_case 31 rfl ?_ ?_
          · intro hg12
            have hg12d := of_decide_eq_true hg12
            refine p_no hap hsel 7 rfl rfl hS rfl rfl (by rw [hg12]; decide) ?_
            refine p_no hap hsel 8 rfl rfl hS rfl rfl (by rw [hg12]; decide) ?_
            refine p_no hap hsel 9 rfl rfl hS rfl rfl (by rw [hg12]; decide) ?_
            refine p_no hap hsel 10 rfl rfl hS rfl rfl (by rw [hg12]; decide) ?_
            refine p_no hap hsel 11 rfl rfl hS rfl rfl (by rw [hg12]; decide) ?_
            refine p_no hap hsel 12 rfl rfl hS rfl rfl (by rw [hg12]; decide) ?_
            refine p_q hap hsel 13 rfl rfl hS (fun w hS => q_pick_t rfl hg12) ?_
            refine p_q hap hsel 14 rfl rfl hS (fun w hS => q_mv (.bool _) rfl) ?_
            refine p_no hap hsel 15 rfl rfl hS rfl rfl (by decide) ?_
            refine p_no hap hsel 16 rfl rfl hS rfl rfl (by decide) ?_
            refine p_no hap hsel 17 rfl rfl hS rfl rfl (by decide) ?_
            refine p_no hap hsel 18 rfl rfl hS rfl rfl (by decide) ?_
            refine p_no hap hsel 19 rfl rfl hS rfl rfl (by decide) ?_
            refine p_no hap hsel 20 rfl rfl hS rfl rfl (by decide) ?_
            refine p_q hap hsel 21 rfl rfl hS (fun w hS => q_pick_t rfl rfl) ?_
            refine p_q hap hsel 22 rfl rfl hS (fun w hS => q_mv (.bool _) rfl) ?_
            refine p_no hap hsel 23 rfl rfl hS rfl rfl (by decide) ?_
            refine p_no hap hsel 24 rfl rfl hS rfl rfl (by decide) ?_
            refine p_no hap hsel 25 rfl rfl hS rfl rfl (by decide) ?_
            refine p_nu hap hsel 26 rfl rfl hS rfl rfl ?_
            refine p_nu hap hsel 27 rfl rfl hS rfl rfl ?_
            refine p_nu hap hsel 28 rfl rfl hS rfl rfl ?_
            refine p_nu hap hsel 29 rfl rfl hS rfl rfl ?_
            refine p_nu hap hsel 30 rfl rfl hS rfl rfl ?_
            refine p_nu hap hsel 31 rfl rfl hS rfl rfl ?_
            refine p_nu hap hsel 32 rfl rfl hS rfl rfl ?_
            refine p_nu hap hsel 33 rfl rfl hS rfl rfl ?_
            refine p_nu hap hsel 34 rfl rfl hS rfl rfl ?_
            refine p_nu hap hsel 35 rfl rfl hS rfl rfl ?_
            refine p_nu hap hsel 36 rfl rfl hS rfl rfl ?_
            refine p_nu hap hsel 37 rfl rfl hS rfl rfl ?_
            refine p_no hap hsel 38 rfl rfl hS rfl rfl (by decide) ?_
            refine p_q hap hsel 39 rfl rfl hS (fun w hS => q_pick_t rfl rfl) ?_
            refine p_end (by kernel_rfl) ?_
            refine c_cond_t rfl rfl ?_
            have hD : ¬ GoodT l := by
              rintro ⟨_, _, _, h4⟩
              obtain ⟨q1, q2, q3, q4⟩ := h4 j (by omega)
              have ej : (((j : Nat) : Int) - 1).toNat = j - 1 := by omega
              have ee : (l.getD (((j : Nat) : Int) - 1).toNat default).frm = (l.getD (j - 1) default).frm := by rw [ej]
              have f_frm : (l.getD ((j : Nat) : Int).toNat default).frm = (l.getD j default).frm := rfl
              have f_size : (l.getD ((j : Nat) : Int).toNat default).size = (l.getD j default).size := rfl
              first
                | omega
                | (have q4' := q4 (by omega); omega)
            refine c_seq ?_
            refine c_region ?_
            refine t_q (q_assign) ?_
            refine t_nil ?_
            refine c_ret ?_
            refine r_one rfl rfl ?_
            have hN := hS.nil
            clear hS
            refine ⟨congrArg (fun b => Ending.returned (.bool b)) ?_, hN⟩
            first
              | exact (decide_eq_true hD).symm
              | exact (decide_eq_false hD).symm
          · intro hg12
            have hg12d := of_decide_eq_false hg12
            refine p_yes hap hsel 7 rfl rfl hS rfl rfl hg12 (fun w hS => q_mv (.slice _ _ _) rfl) ?_
            refine p_yes hap hsel 8 rfl rfl hS rfl rfl hg12 (fun w hS => q_mv (.int _ _) rfl) ?_
            refine p_index_yes hap hsel 9 rfl rfl hS rfl rfl hg12 Tryd.runUnderlying82 Tryd.sizeOf117 (fun w hS => hl.st hS) rfl rfl (by omega) (fun ad13 hl13 hx13 => ?_)
            refine p_yes hap hsel 10 rfl rfl hS rfl rfl hg12 (fun w hS => q_fieldAddr 1 Tryd.runUnderlying117 rfl Tryd.sizeOf2 (by decide) rfl rfl) ?_
            refine p_yes hap hsel 11 rfl rfl hS rfl rfl hg12 (fun w hS => q_load1 Tryd.isAgg2 rfl ((hx13 w hS) 1 _ rfl)) ?_
            refine p_yes hap hsel 12 rfl rfl hS rfl rfl hg12 (fun w hS => q_gtr rfl rfl) ?_
            refine p_q hap hsel 13 rfl rfl hS (fun w hS => q_pick_f rfl hg12) ?_
            refine p_q hap hsel 14 rfl rfl hS (fun w hS => q_mv (.bool _) rfl) ?_
            refine p_case 39 rfl ?_ ?_
            · intro hg15
              have hg15d := of_decide_eq_true hg15
              refine p_no hap hsel 15 rfl rfl hS rfl rfl (by rw [hg15]; decide) ?_
              refine p_no hap hsel 16 rfl rfl hS rfl rfl (by rw [hg15]; decide) ?_
              refine p_no hap hsel 17 rfl rfl hS rfl rfl (by rw [hg15]; decide) ?_
              refine p_no hap hsel 18 rfl rfl hS rfl rfl (by rw [hg15]; decide) ?_
              refine p_no hap hsel 19 rfl rfl hS rfl rfl (by rw [hg15]; decide) ?_
              refine p_no hap hsel 20 rfl rfl hS rfl rfl (by rw [hg15]; decide) ?_
              refine p_q hap hsel 21 rfl rfl hS (fun w hS => q_pick_t rfl hg15) ?_
              refine p_q hap hsel 22 rfl rfl hS (fun w hS => q_mv (.bool _) rfl) ?_
              refine p_no hap hsel 23 rfl rfl hS rfl rfl (by decide) ?_
              refine p_no hap hsel 24 rfl rfl hS rfl rfl (by decide) ?_
              refine p_no hap hsel 25 rfl rfl hS rfl rfl (by decide) ?_
              refine p_nu hap hsel 26 rfl rfl hS rfl rfl ?_
              refine p_nu hap hsel 27 rfl rfl hS rfl rfl ?_
              refine p_nu hap hsel 28 rfl rfl hS rfl rfl ?_
              refine p_nu hap hsel 29 rfl rfl hS rfl rfl ?_
              refine p_nu hap hsel 30 rfl rfl hS rfl rfl ?_
              refine p_nu hap hsel 31 rfl rfl hS rfl rfl ?_
              refine p_nu hap hsel 32 rfl rfl hS rfl rfl ?_
              refine p_nu hap hsel 33 rfl rfl hS rfl rfl ?_
              refine p_nu hap hsel 34 rfl rfl hS rfl rfl ?_
              refine p_nu hap hsel 35 rfl rfl hS rfl rfl ?_
              refine p_nu hap hsel 36 rfl rfl hS rfl rfl ?_
              refine p_nu hap hsel 37 rfl rfl hS rfl rfl ?_
              refine p_no hap hsel 38 rfl rfl hS rfl rfl (by decide) ?_
              refine p_q hap hsel 39 rfl rfl hS (fun w hS => q_pick_t rfl rfl) ?_
              refine p_end (by kernel_rfl) ?_
              refine c_cond_t rfl rfl ?_
              have hD : ¬ GoodT l := by
                rintro ⟨_, _, _, h4⟩
                obtain ⟨q1, q2, q3, q4⟩ := h4 j (by omega)
                have ej : (((j : Nat) : Int) - 1).toNat = j - 1 := by omega
                have ee : (l.getD (((j : Nat) : Int) - 1).toNat default).frm = (l.getD (j - 1) default).frm := by rw [ej]
                have f_frm : (l.getD ((j : Nat) : Int).toNat default).frm = (l.getD j default).frm := rfl
                have f_size : (l.getD ((j : Nat) : Int).toNat default).size = (l.getD j default).size := rfl
                first
                  | omega
                  | (have q4' := q4 (by omega); omega)
              refine c_seq ?_
              refine c_region ?_
              refine t_q (q_assign) ?_
              refine t_nil ?_
              refine c_ret ?_
              refine r_one rfl rfl ?_
              have hN := hS.nil
              clear hS
              refine ⟨congrArg (fun b => Ending.returned (.bool b)) ?_, hN⟩
              first
                | exact (decide_eq_true hD).symm
                | exact (decide_eq_false hD).symm
            · intro hg15
              have hg15d := of_decide_eq_false hg15
              refine p_yes hap hsel 15 rfl rfl hS rfl rfl hg15 (fun w hS => q_mv (.slice _ _ _) rfl) ?_
              refine p_yes hap hsel 16 rfl rfl hS rfl rfl hg15 (fun w hS => q_mv (.int _ _) rfl) ?_
              refine p_index_yes hap hsel 17 rfl rfl hS rfl rfl hg15 Tryd.runUnderlying82 Tryd.sizeOf117 (fun w hS => hl.st hS) rfl rfl (by omega) (fun ad16 hl16 hx16 => ?_)
              refine p_yes hap hsel 18 rfl rfl hS rfl rfl hg15 (fun w hS => q_fieldAddr 0 Tryd.runUnderlying117 rfl Tryd.sizeOf2 (by decide) rfl rfl) ?_
              refine p_yes hap hsel 19 rfl rfl hS rfl rfl hg15 (fun w hS => q_load1 Tryd.isAgg2 rfl ((hx16 w hS) 0 _ rfl)) ?_
              refine p_yes hap hsel 20 rfl rfl hS rfl rfl hg15 (fun w hS => q_gtr rfl rfl) ?_
              refine p_q hap hsel 21 rfl rfl hS (fun w hS => q_pick_f rfl hg15) ?_
              refine p_q hap hsel 22 rfl rfl hS (fun w hS => q_mv (.bool _) rfl) ?_
              refine p_case 47 rfl ?_ ?_
              · intro hg18
                have hg18d := of_decide_eq_true hg18
                refine p_no hap hsel 23 rfl rfl hS rfl rfl (by rw [hg18]; decide) ?_
                refine p_no hap hsel 24 rfl rfl hS rfl rfl (by rw [hg18]; decide) ?_
                refine p_no hap hsel 25 rfl rfl hS rfl rfl (by rw [hg18]; decide) ?_
                refine p_nu hap hsel 26 rfl rfl hS rfl rfl ?_
                refine p_nu hap hsel 27 rfl rfl hS rfl rfl ?_
                refine p_nu hap hsel 28 rfl rfl hS rfl rfl ?_
                refine p_nu hap hsel 29 rfl rfl hS rfl rfl ?_
                refine p_nu hap hsel 30 rfl rfl hS rfl rfl ?_
                refine p_nu hap hsel 31 rfl rfl hS rfl rfl ?_
                refine p_nu hap hsel 32 rfl rfl hS rfl rfl ?_
                refine p_nu hap hsel 33 rfl rfl hS rfl rfl ?_
                refine p_nu hap hsel 34 rfl rfl hS rfl rfl ?_
                refine p_nu hap hsel 35 rfl rfl hS rfl rfl ?_
                refine p_nu hap hsel 36 rfl rfl hS rfl rfl ?_
                refine p_nu hap hsel 37 rfl rfl hS rfl rfl ?_
                refine p_no hap hsel 38 rfl rfl hS rfl rfl (by rw [hg18]; decide) ?_
                refine p_q hap hsel 39 rfl rfl hS (fun w hS => q_pick_t rfl hg18) ?_
                refine p_end (by kernel_rfl) ?_
                refine c_cond_t rfl rfl ?_
                have hD : ¬ GoodT l := by
                  rintro ⟨_, _, _, h4⟩
                  obtain ⟨q1, q2, q3, q4⟩ := h4 j (by omega)
                  have ej : (((j : Nat) : Int) - 1).toNat = j - 1 := by omega
                  have ee : (l.getD (((j : Nat) : Int) - 1).toNat default).frm = (l.getD (j - 1) default).frm := by rw [ej]
                  have f_frm : (l.getD ((j : Nat) : Int).toNat default).frm = (l.getD j default).frm := rfl
                  have f_size : (l.getD ((j : Nat) : Int).toNat default).size = (l.getD j default).size := rfl
                  first
                    | omega
                    | (have q4' := q4 (by omega); omega)
                refine c_seq ?_
                refine c_region ?_
                refine t_q (q_assign) ?_
                refine t_nil ?_
                refine c_ret ?_
                refine r_one rfl rfl ?_
                have hN := hS.nil
                clear hS
                refine ⟨congrArg (fun b => Ending.returned (.bool b)) ?_, hN⟩
                first
                  | exact (decide_eq_true hD).symm
                  | exact (decide_eq_false hD).symm
              · intro hg18
                have hg18d := of_decide_eq_false hg18
                refine p_yes hap hsel 23 rfl rfl hS rfl rfl hg18 (fun w hS => q_mv (.int _ _) rfl) ?_
                refine p_yes hap hsel 24 rfl rfl hS rfl rfl hg18 (fun w hS => q_gtr rfl rfl) ?_
                refine p_yes hap hsel 25 rfl rfl hS rfl rfl hg18 (fun w hS => q_mv (.bool _) rfl) ?_
                refine p_case 50 rfl ?_ ?_
                · intro hg20
                  have hg20d := of_decide_eq_true hg20
                  refine p_yes hap hsel 26 rfl rfl hS rfl rfl hg20 (fun w hS => q_mv (.slice _ _ _) rfl) ?_
                  refine p_yes hap hsel 27 rfl rfl hS rfl rfl hg20 (fun w hS => q_mv (.int _ _) rfl) ?_
                  refine p_index_yes hap hsel 28 rfl rfl hS rfl rfl hg20 Tryd.runUnderlying82 Tryd.sizeOf117 (fun w hS => hl.st hS) rfl rfl (by omega) (fun ad21 hl21 hx21 => ?_)
                  refine p_yes hap hsel 29 rfl rfl hS rfl rfl hg20 (fun w hS => q_fieldAddr 0 Tryd.runUnderlying117 rfl Tryd.sizeOf2 (by decide) rfl rfl) ?_
                  refine p_yes hap hsel 30 rfl rfl hS rfl rfl hg20 (fun w hS => q_load1 Tryd.isAgg2 rfl ((hx21 w hS) 0 _ rfl)) ?_
                  refine p_yes hap hsel 31 rfl rfl hS rfl rfl hg20 (fun w hS => q_mv (.slice _ _ _) rfl) ?_
                  refine p_yes hap hsel 32 rfl rfl hS rfl rfl hg20 (fun w hS => q_mv (.int _ _) rfl) ?_
                  refine p_yes hap hsel 33 rfl rfl hS rfl rfl hg20 (fun w hS => q_sub_i64 rfl rfl (by omega)) ?_
                  refine p_index_yes hap hsel 34 rfl rfl hS rfl rfl hg20 Tryd.runUnderlying82 Tryd.sizeOf117 (fun w hS => hl.st hS) rfl rfl (by omega) (fun ad22 hl22 hx22 => ?_)
                  refine p_yes hap hsel 35 rfl rfl hS rfl rfl hg20 (fun w hS => q_fieldAddr 0 Tryd.runUnderlying117 rfl Tryd.sizeOf2 (by decide) rfl rfl) ?_
                  refine p_yes hap hsel 36 rfl rfl hS rfl rfl hg20 (fun w hS => q_load1 Tryd.isAgg2 rfl ((hx22 w hS) 0 _ rfl)) ?_
                  refine p_yes hap hsel 37 rfl rfl hS rfl rfl hg20 (fun w hS => q_leq rfl rfl) ?_
                  refine p_yes hap hsel 38 rfl rfl hS rfl rfl hg18 (fun w hS => q_pick_t rfl hg20) ?_
                  refine p_q hap hsel 39 rfl rfl hS (fun w hS => q_pick_f rfl hg18) ?_
                  refine p_end (by kernel_rfl) ?_
                  refine c_cond rfl ?_ ?_
                  · intro hc24
                    have hc24d := of_decide_eq_true hc24
                    have hD : ¬ GoodT l := by
                      rintro ⟨_, _, _, h4⟩
                      obtain ⟨q1, q2, q3, q4⟩ := h4 j (by omega)
                      have ej : (((j : Nat) : Int) - 1).toNat = j - 1 := by omega
                      have ee : (l.getD (((j : Nat) : Int) - 1).toNat default).frm = (l.getD (j - 1) default).frm := by rw [ej]
                      have f_frm : (l.getD ((j : Nat) : Int).toNat default).frm = (l.getD j default).frm := rfl
                      have f_size : (l.getD ((j : Nat) : Int).toNat default).size = (l.getD j default).size := rfl
                      first
                        | omega
                        | (have q4' := q4 (by omega); omega)
                    refine c_seq ?_
                    refine c_region ?_
                    refine t_q (q_assign) ?_
                    refine t_nil ?_
                    refine c_ret ?_
                    refine r_one rfl rfl ?_
                    have hN := hS.nil
                    clear hS
                    refine ⟨congrArg (fun b => Ending.returned (.bool b)) ?_, hN⟩
                    first
                      | exact (decide_eq_true hD).symm
                      | exact (decide_eq_false hD).symm
                  · intro hc24
                    have hc24d := of_decide_eq_false hc24
                    refine c_skip ?_
                    refine c_region ?_
                    refine t_q (q_mv (.int _ _) rfl) ?_
                    refine t_q (q_add_i64 rfl rfl (by omega)) ?_
                    refine t_q (q_as (.int _ _) rfl) ?_
                    refine t_nil ?_
                    exact ⟨k - 1, by omega, j + 1, rfl, by omega, by omega, (fun i hi => by
                      rcases Nat.lt_or_ge i j with h | h
                      · exact hall i h
                      · obtain rfl : i = j := by omega
                        have ej : (((i : Nat) : Int) - 1).toNat = i - 1 := by omega
                        have ee : (l.getD (((i : Nat) : Int) - 1).toNat default).frm = (l.getD (i - 1) default).frm := by rw [ej]
                        have f_frm : (l.getD ((i : Nat) : Int).toNat default).frm = (l.getD i default).frm := rfl
                        have f_size : (l.getD ((i : Nat) : Int).toNat default).size = (l.getD i default).size := rfl
                        exact ⟨by omega, by omega, by omega, fun h => by omega⟩), hS.nil⟩
                · intro hg20
                  have hg20d := of_decide_eq_false hg20
                  refine p_no hap hsel 26 rfl rfl hS rfl rfl (by rw [hg20]; decide) ?_
                  refine p_no hap hsel 27 rfl rfl hS rfl rfl (by rw [hg20]; decide) ?_
                  refine p_no hap hsel 28 rfl rfl hS rfl rfl (by rw [hg20]; decide) ?_
                  refine p_no hap hsel 29 rfl rfl hS rfl rfl (by rw [hg20]; decide) ?_
                  refine p_no hap hsel 30 rfl rfl hS rfl rfl (by rw [hg20]; decide) ?_
                  refine p_no hap hsel 31 rfl rfl hS rfl rfl (by rw [hg20]; decide) ?_
                  refine p_no hap hsel 32 rfl rfl hS rfl rfl (by rw [hg20]; decide) ?_
                  refine p_no hap hsel 33 rfl rfl hS rfl rfl (by rw [hg20]; decide) ?_
                  refine p_no hap hsel 34 rfl rfl hS rfl rfl (by rw [hg20]; decide) ?_
                  refine p_no hap hsel 35 rfl rfl hS rfl rfl (by rw [hg20]; decide) ?_
                  refine p_no hap hsel 36 rfl rfl hS rfl rfl (by rw [hg20]; decide) ?_
                  refine p_no hap hsel 37 rfl rfl hS rfl rfl (by rw [hg20]; decide) ?_
                  refine p_yes hap hsel 38 rfl rfl hS rfl rfl hg18 (fun w hS => q_pick_f rfl hg20) ?_
                  refine p_q hap hsel 39 rfl rfl hS (fun w hS => q_pick_f rfl hg18) ?_
                  refine p_end (by kernel_rfl) ?_
                  refine c_cond_f rfl rfl ?_
                  refine c_skip ?_
                  refine c_region ?_
                  refine t_q (q_mv (.int _ _) rfl) ?_
                  refine t_q (q_add_i64 rfl rfl (by omega)) ?_
                  refine t_q (q_as (.int _ _) rfl) ?_
                  refine t_nil ?_
                  exact ⟨k - 1, by omega, j + 1, rfl, by omega, by omega, (fun i hi => by
                    rcases Nat.lt_or_ge i j with h | h
                    · exact hall i h
                    · obtain rfl : i = j := by omega
                      have ej : (((i : Nat) : Int) - 1).toNat = i - 1 := by omega
                      have ee : (l.getD (((i : Nat) : Int) - 1).toNat default).frm = (l.getD (i - 1) default).frm := by rw [ej]
                      have f_frm : (l.getD ((i : Nat) : Int).toNat default).frm = (l.getD i default).frm := rfl
                      have f_size : (l.getD ((i : Nat) : Int).toNat default).size = (l.getD i default).size := rfl
                      exact ⟨by omega, by omega, by omega, fun h => by omega⟩), hS.nil⟩
        · intro hc9
          have hc9d := of_decide_eq_false hc9
          obtain rfl : j = l.length := by omega
          have hD : GoodT l := ⟨by omega, by omega, h0, hall⟩
          refine c_exit ?_
          refine ite_t rfl ?_
          refine c_seq ?_
          refine c_region ?_
          refine t_q (q_assign) ?_
          refine t_nil ?_
          refine c_ret ?_
          refine r_one rfl rfl ?_
          have hN := hS.nil
          clear hS
          refine ⟨congrArg (fun b => Ending.returned (.bool b)) ?_, hN⟩
          first
            | exact (decide_eq_true hD).symm
            | exact (decide_eq_false hD).symm
set_option maxHeartbeats 4000000 in
set_option maxRecDepth 100000 in
theorem qgf_calls {A : Option Addr} {c : Nat} {l : List Tr} (hl : RdTr W A l) (hi : ∀ e ∈ l, e.In) (hm : l.length ≤ 1000000) : Calls Tryd.prog 47 #[.slice A l.length c] W fun e w' => e = .returned (.bool (decide (GoodF l))) ∧ St W w' [] := by
  have hS := St.init W
  refine calls_of_wpE (args := [_]) Tryd.func47 rfl rfl rfl ?_
  refine c_seq ?_
  refine c_region ?_
  refine t_q (q_assign) ?_
  refine t_nil ?_
  refine c_seq ?_
  refine c_seq ?_
  refine c_region ?_
  refine t_q (q_mv (.slice _ _ _) rfl) ?_
  refine t_q (q_len_slice Tryd.runUnderlying85 rfl) ?_
  refine t_q (q_lss rfl rfl) ?_
  refine t_q (q_mv (.bool _) rfl) ?_
  refine t_case 7 rfl ?_ ?_
  · intro hg2
    have hg2d := of_decide_eq_true hg2
    refine t_no rfl rfl (by rw [hg2]; decide) ?_
    refine t_no rfl rfl (by rw [hg2]; decide) ?_
    refine t_no rfl rfl (by rw [hg2]; decide) ?_
    refine t_q (q_pick_t rfl hg2) ?_
    refine t_q (q_mv (.bool _) rfl) ?_
    refine t_no rfl rfl (by decide) ?_
    refine t_no rfl rfl (by decide) ?_
    refine t_no rfl rfl (by decide) ?_
    refine t_no rfl rfl (by decide) ?_
    refine t_no rfl rfl (by decide) ?_
    refine t_q (q_pick_t rfl rfl) ?_
    refine t_nil ?_
    refine c_cond_t rfl rfl ?_
    have hD : ¬ GoodF l := by
      rintro ⟨h1, h2, h3, _⟩
      have f0 : (l.getD (0 : Int).toNat default).frm = (l.getD 0 default).frm := rfl
      omega
    refine c_seq ?_
    refine c_region ?_
    refine t_q (q_assign) ?_
    refine t_nil ?_
    refine c_ret ?_
    refine r_one rfl rfl ?_
    have hN := hS.nil
    clear hS
    refine ⟨congrArg (fun b => Ending.returned (.bool b)) ?_, hN⟩
    first
      | exact (decide_eq_true hD).symm
      | exact (decide_eq_false hD).symm
  · intro hg2
    have hg2d := of_decide_eq_false hg2
    refine t_yes rfl rfl hg2 ?_
    refine t_q (q_mv (.slice _ _ _) rfl) ?_
    refine t_yes rfl rfl hg2 ?_
    refine t_q (q_len_slice Tryd.runUnderlying85 rfl) ?_
    refine t_yes rfl rfl hg2 ?_
    refine t_q (q_gtr rfl rfl) ?_
    refine t_q (q_pick_f rfl hg2) ?_
    refine t_q (q_mv (.bool _) rfl) ?_
    refine t_case 12 rfl ?_ ?_
    · intro hg4
      have hg4d := of_decide_eq_true hg4
      refine t_no rfl rfl (by rw [hg4]; decide) ?_
      refine t_no rfl rfl (by rw [hg4]; decide) ?_
      refine t_no rfl rfl (by rw [hg4]; decide) ?_
      refine t_no rfl rfl (by rw [hg4]; decide) ?_
      refine t_no rfl rfl (by rw [hg4]; decide) ?_
      refine t_q (q_pick_t rfl hg4) ?_
      refine t_nil ?_
      refine c_cond_t rfl rfl ?_
      have hD : ¬ GoodF l := by
        rintro ⟨h1, h2, h3, _⟩
        have f0 : (l.getD (0 : Int).toNat default).frm = (l.getD 0 default).frm := rfl
        omega
      refine c_seq ?_
      refine c_region ?_
      refine t_q (q_assign) ?_
      refine t_nil ?_
      refine c_ret ?_
      refine r_one rfl rfl ?_
      have hN := hS.nil
      clear hS
      refine ⟨congrArg (fun b => Ending.returned (.bool b)) ?_, hN⟩
      first
        | exact (decide_eq_true hD).symm
        | exact (decide_eq_false hD).symm
    · intro hg4
      have hg4d := of_decide_eq_false hg4
      refine t_yes rfl rfl hg4 ?_
      refine t_q (q_mv (.slice _ _ _) rfl) ?_
      refine t_yes rfl rfl hg4 ?_
      first | refine t_index_nat Tryd.runUnderlying85 Tryd.sizeOf118 (hl.st hS) rfl rfl (by omega) (fun ad5 hl5 hx5 => ?_) | refine t_index Tryd.runUnderlying85 Tryd.sizeOf118 (hl.st hS) rfl rfl (by omega) (fun ad5 hl5 hx5 => ?_)
      refine t_yes rfl rfl hg4 ?_
      refine t_q (q_fieldAddr 0 Tryd.runUnderlying118 rfl Tryd.sizeOf2 (by decide) rfl rfl) ?_
      refine t_yes rfl rfl hg4 ?_
      refine t_q (q_load1 Tryd.isAgg2 rfl (hx5 0 _ rfl)) ?_
      refine t_yes rfl rfl hg4 ?_
      refine t_q (q_neq rfl rfl) ?_
      refine t_q (q_pick_f rfl hg4) ?_
      refine t_nil ?_
      refine c_cond rfl ?_ ?_
      · intro hc7
        have hc7d := of_decide_eq_true hc7
        have hD : ¬ GoodF l := by
          rintro ⟨h1, h2, h3, _⟩
          have f0 : (l.getD (0 : Int).toNat default).frm = (l.getD 0 default).frm := rfl
          omega
        refine c_seq ?_
        refine c_region ?_
        refine t_q (q_assign) ?_
        refine t_nil ?_
        refine c_ret ?_
        refine r_one rfl rfl ?_
        have hN := hS.nil
        clear hS
        refine ⟨congrArg (fun b => Ending.returned (.bool b)) ?_, hN⟩
        first
          | exact (decide_eq_true hD).symm
          | exact (decide_eq_false hD).symm
      · intro hc7
        have hc7d := of_decide_eq_false hc7
        have f0 : (l.getD (0 : Int).toNat default).frm = (l.getD 0 default).frm := rfl
        have h0 : (l.getD 0 default).frm = 0 := by omega
        refine c_skip ?_
        refine c_seq ?_
        refine c_seq ?_
        refine c_region ?_
        refine t_q (q_assign) ?_
        refine t_nil ?_
        refine c_block ?_
        refine c_loop [2, 3, 19, 20, 21, 22, 23, 24, 25, 26, 27, 28, 29, 30, 31, 32, 33, 34, 35, 36, 37, 38, 39, 40, 41, 42, 43, 44, 45, 46, 47, 48, 49, 50, 51, 52, 53, 54, 55, 56, 57, 58, 59, 60, 61, 62, 63, 64, 65, 66, 67, 68, 69, 70, 71, 72, 73, 74, 75, 76, 77, 78, 79, 80] (fun k σ w => ∃ j : Nat, σ 3 = .int .i64 (j : Int) ∧ j ≤ l.length ∧ l.length - j ≤ k ∧ (∀ i, i < j → TierP l i) ∧ St W w []) (l.length) rfl (⟨0, rfl, by omega, by omega, (fun i h => absurd h (by omega)), hS⟩) ?_
        skip
        rintro k σ w ⟨j, hj0, hj, hk, hall, hS⟩
        refine c_know 3 hj0 ?_
        clear hj0
        refine c_seq ?_
        refine c_seq ?_
        refine c_region ?_
        refine t_q (q_mv (.int _ _) rfl) ?_
        refine t_q (q_mv (.slice _ _ _) rfl) ?_
        refine t_q (q_len_slice Tryd.runUnderlying85 rfl) ?_
        refine t_q (q_lss rfl rfl) ?_
        refine t_nil ?_
        refine c_cond rfl ?_ ?_
        · intro hc9
          have hc9d := of_decide_eq_true hc9
          refine c_skip ?_
          refine c_seq ?_
          refine c_block ?_
          refine c_seq ?_
          refine c_draw ?_
          refine d_quiet 56 [0, 1, 2, 3, 4, 5, 6, 7, 8, 9, 10, 11, 12, 13, 14, 15, 16, 17, 18, 19, 20, 21, 22, 23, 24, 25, 26, 27, 28, 29, 30, 31, 32, 33, 34, 35, 36, 37, 38, 39, 40, 41, 42, 43, 44, 45, 46, 47, 48, 49, 50, 51, 52, 53, 54, 55] [0, 1, 2, 3, 4, 5, 6, 7, 8, 9, 10, 11, 12, 13, 14, 15, 16, 17, 18, 19, 20, 21, 22, 23, 24, 25, 26, 27, 28, 29, 30, 31, 32, 33, 34, 35, 36, 37, 38, 39, 40, 41, 42, 43, 44, 45, 46, 47, 48, 49, 50, 51, 52, 53, 54, 55] hS rfl (by kernel_rfl) (by kernel_rfl) (by kernel_rfl) (by kernel_rfl) (fun hap hsel w hS => ?_)
          refine p_q hap hsel 0 rfl rfl hS (fun w hS => q_mv (.slice _ _ _) rfl) ?_
          refine p_q hap hsel 1 rfl rfl hS (fun w hS => q_mv (.int _ _) rfl) ?_
          refine p_index hap hsel 2 rfl rfl hS Tryd.runUnderlying85 Tryd.sizeOf118 (fun w hS => hl.st hS) rfl rfl (by omega) (fun ad10 hl10 hx10 => ?_)
          refine p_q hap hsel 3 rfl rfl hS (fun w hS => q_fieldAddr 0 Tryd.runUnderlying118 rfl Tryd.sizeOf2 (by decide) rfl rfl) ?_
          refine p_q hap hsel 4 rfl rfl hS (fun w hS => q_load1 Tryd.isAgg2 rfl ((hx10 w hS) 0 _ rfl)) ?_
          refine p_q hap hsel 5 rfl rfl hS (fun w hS => q_gtr rfl rfl) ?_
          refine p_q hap hsel 6 rfl rfl hS (fun w hS => q_mv (.bool _) rfl) ?_
          refine p_case 31 rfl ?_ ?_
          · intro hg12
            have hg12d := of_decide_eq_true hg12
            refine p_no hap hsel 7 rfl rfl hS rfl rfl (by rw [hg12]; decide) ?_
            refine p_no hap hsel 8 rfl rfl hS rfl rfl (by rw [hg12]; decide) ?_
            refine p_no hap hsel 9 rfl rfl hS rfl rfl (by rw [hg12]; decide) ?_
            refine p_no hap hsel 10 rfl rfl hS rfl rfl (by rw [hg12]; decide) ?_
            refine p_no hap hsel 11 rfl rfl hS rfl rfl (by rw [hg12]; decide) ?_
            refine p_no hap hsel 12 rfl rfl hS rfl rfl (by rw [hg12]; decide) ?_
            refine p_q hap hsel 13 rfl rfl hS (fun w hS => q_pick_t rfl hg12) ?_
            refine p_q hap hsel 14 rfl rfl hS (fun w hS => q_mv (.bool _) rfl) ?_
            refine p_no hap hsel 15 rfl rfl hS rfl rfl (by decide) ?_
            refine p_no hap hsel 16 rfl rfl hS rfl rfl (by decide) ?_
            refine p_no hap hsel 17 rfl rfl hS rfl rfl (by decide) ?_
            refine p_no hap hsel 18 rfl rfl hS rfl rfl (by decide) ?_
            refine p_no hap hsel 19 rfl rfl hS rfl rfl (by decide) ?_
            refine p_no hap hsel 20 rfl rfl hS rfl rfl (by decide) ?_
            refine p_q hap hsel 21 rfl rfl hS (fun w hS => q_pick_t rfl rfl) ?_
            refine p_q hap hsel 22 rfl rfl hS (fun w hS => q_mv (.bool _) rfl) ?_
            refine p_no hap hsel 23 rfl rfl hS rfl rfl (by decide) ?_
            refine p_no hap hsel 24 rfl rfl hS rfl rfl (by decide) ?_
            refine p_no hap hsel 25 rfl rfl hS rfl rfl (by decide) ?_
            refine p_no hap hsel 26 rfl rfl hS rfl rfl (by decide) ?_
            refine p_no hap hsel 27 rfl rfl hS rfl rfl (by decide) ?_
            refine p_no hap hsel 28 rfl rfl hS rfl rfl (by decide) ?_
            refine p_q hap hsel 29 rfl rfl hS (fun w hS => q_pick_t rfl rfl) ?_
            refine p_q hap hsel 30 rfl rfl hS (fun w hS => q_mv (.bool _) rfl) ?_
            refine p_no hap hsel 31 rfl rfl hS rfl rfl (by decide) ?_
            refine p_no hap hsel 32 rfl rfl hS rfl rfl (by decide) ?_
            refine p_no hap hsel 33 rfl rfl hS rfl rfl (by decide) ?_
            refine p_no hap hsel 34 rfl rfl hS rfl rfl (by decide) ?_
            refine p_no hap hsel 35 rfl rfl hS rfl rfl (by decide) ?_
            refine p_no hap hsel 36 rfl rfl hS rfl rfl (by decide) ?_
            refine p_q hap hsel 37 rfl rfl hS (fun w hS => q_pick_t rfl rfl) ?_
            refine p_q hap hsel 38 rfl rfl hS (fun w hS => q_mv (.bool _) rfl) ?_
            refine p_no hap hsel 39 rfl rfl hS rfl rfl (by decide) ?_
            refine p_no hap hsel 40 rfl rfl hS rfl rfl (by decide) ?_
            refine p_no hap hsel 41 rfl rfl hS rfl rfl (by decide) ?_
            refine p_nu hap hsel 42 rfl rfl hS rfl rfl ?_
            refine p_nu hap hsel 43 rfl rfl hS rfl rfl ?_
            refine p_nu hap hsel 44 rfl rfl hS rfl rfl ?_
            refine p_nu hap hsel 45 rfl rfl hS rfl rfl ?_
            refine p_nu hap hsel 46 rfl rfl hS rfl rfl ?_
            refine p_nu hap hsel 47 rfl rfl hS rfl rfl ?_
            refine p_nu hap hsel 48 rfl rfl hS rfl rfl ?_
            refine p_nu hap hsel 49 rfl rfl hS rfl rfl ?_
            refine p_nu hap hsel 50 rfl rfl hS rfl rfl ?_
            refine p_nu hap hsel 51 rfl rfl hS rfl rfl ?_
            refine p_nu hap hsel 52 rfl rfl hS rfl rfl ?_
            refine p_nu hap hsel 53 rfl rfl hS rfl rfl ?_
            refine p_no hap hsel 54 rfl rfl hS rfl rfl (by decide) ?_
            refine p_q hap hsel 55 rfl rfl hS (fun w hS => q_pick_t rfl rfl) ?_
            refine p_end (by kernel_rfl) ?_
            refine c_cond_t rfl rfl ?_
            have hD : ¬ GoodF l := by
              rintro ⟨_, _, _, h4⟩
              obtain ⟨q1, q2, q3, q4⟩ := h4 j (by omega)
              have ej : (((j : Nat) : Int) - 1).toNat = j - 1 := by omega
              have ee : (l.getD (((j : Nat) : Int) - 1).toNat default).frm = (l.getD (j - 1) default).frm := by rw [ej]
              have f_frm : (l.getD ((j : Nat) : Int).toNat default).frm = (l.getD j default).frm := rfl
              have f_maker : (l.getD ((j : Nat) : Int).toNat default).maker = (l.getD j default).maker := rfl
              have f_taker : (l.getD ((j : Nat) : Int).toNat default).taker = (l.getD j default).taker := rfl
              first
                | omega
                | (have q4' := q4 (by omega); omega)
            refine c_seq ?_
            refine c_region ?_
            refine t_q (q_assign) ?_
            refine t_nil ?_
            refine c_ret ?_
            refine r_one rfl rfl ?_
            have hN := hS.nil
            clear hS
            refine ⟨congrArg (fun b => Ending.returned (.bool b)) ?_, hN⟩
            first
              | exact (decide_eq_true hD).symm
              | exact (decide_eq_false hD).symm
          · intro hg12
            have hg12d := of_decide_eq_false hg12
            refine p_yes hap hsel 7 rfl rfl hS rfl rfl hg12 (fun w hS => q_mv (.slice _ _ _) rfl) ?_
            refine p_yes hap hsel 8 rfl rfl hS rfl rfl hg12 (fun w hS => q_mv (.int _ _) rfl) ?_
            refine p_index_yes hap hsel 9 rfl rfl hS rfl rfl hg12 Tryd.runUnderlying85 Tryd.sizeOf118 (fun w hS => hl.st hS) rfl rfl (by omega) (fun ad13 hl13 hx13 => ?_)
            refine p_yes hap hsel 10 rfl rfl hS rfl rfl hg12 (fun w hS => q_fieldAddr 1 Tryd.runUnderlying118 rfl Tryd.sizeOf2 (by decide) rfl rfl) ?_
            refine p_yes hap hsel 11 rfl rfl hS rfl rfl hg12 (fun w hS => q_load1 Tryd.isAgg2 rfl ((hx13 w hS) 1 _ rfl)) ?_
            refine p_yes hap hsel 12 rfl rfl hS rfl rfl hg12 (fun w hS => q_lss rfl rfl) ?_
            refine p_q hap hsel 13 rfl rfl hS (fun w hS => q_pick_f rfl hg12) ?_
            refine p_q hap hsel 14 rfl rfl hS (fun w hS => q_mv (.bool _) rfl) ?_
            refine p_case 39 rfl ?_ ?_
            · intro hg15
              have hg15d := of_decide_eq_true hg15
              refine p_no hap hsel 15 rfl rfl hS rfl rfl (by rw [hg15]; decide) ?_
              refine p_no hap hsel 16 rfl rfl hS rfl rfl (by rw [hg15]; decide) ?_
              refine p_no hap hsel 17 rfl rfl hS rfl rfl (by rw [hg15]; decide) ?_
              refine p_no hap hsel 18 rfl rfl hS rfl rfl (by rw [hg15]; decide) ?_
              refine p_no hap hsel 19 rfl rfl hS rfl rfl (by rw [hg15]; decide) ?_
              refine p_no hap hsel 20 rfl rfl hS rfl rfl (by rw [hg15]; decide) ?_
              refine p_q hap hsel 21 rfl rfl hS (fun w hS => q_pick_t rfl hg15) ?_
              refine p_q hap hsel 22 rfl rfl hS (fun w hS => q_mv (.bool _) rfl) ?_
              refine p_no hap hsel 23 rfl rfl hS rfl rfl (by decide) ?_
              refine p_no hap hsel 24 rfl rfl hS rfl rfl (by decide) ?_
              refine p_no hap hsel 25 rfl rfl hS rfl rfl (by decide) ?_
              refine p_no hap hsel 26 rfl rfl hS rfl rfl (by decide) ?_
              refine p_no hap hsel 27 rfl rfl hS rfl rfl (by decide) ?_
              refine p_no hap hsel 28 rfl rfl hS rfl rfl (by decide) ?_
              refine p_q hap hsel 29 rfl rfl hS (fun w hS => q_pick_t rfl rfl) ?_
              refine p_q hap hsel 30 rfl rfl hS (fun w hS => q_mv (.bool _) rfl) ?_
              refine p_no hap hsel 31 rfl rfl hS rfl rfl (by decide) ?_
              refine p_no hap hsel 32 rfl rfl hS rfl rfl (by decide) ?_
              refine p_no hap hsel 33 rfl rfl hS rfl rfl (by decide) ?_
              refine p_no hap hsel 34 rfl rfl hS rfl rfl (by decide) ?_
              refine p_no hap hsel 35 rfl rfl hS rfl rfl (by decide) ?_
              refine p_no hap hsel 36 rfl rfl hS rfl rfl (by decide) ?_
              refine p_q hap hsel 37 rfl rfl hS (fun w hS => q_pick_t rfl rfl) ?_
              refine p_q hap hsel 38 rfl rfl hS (fun w hS => q_mv (.bool _) rfl) ?_
              refine p_no hap hsel 39 rfl rfl hS rfl rfl (by decide) ?_
              refine p_no hap hsel 40 rfl rfl hS rfl rfl (by decide) ?_
              refine p_no hap hsel 41 rfl rfl hS rfl rfl (by decide) ?_
              refine p_nu hap hsel 42 rfl rfl hS rfl rfl ?_
              refine p_nu hap hsel 43 rfl rfl hS rfl rfl ?_
              refine p_nu hap hsel 44 rfl rfl hS rfl rfl ?_
              refine p_nu hap hsel 45 rfl rfl hS rfl rfl ?_
              refine p_nu hap hsel 46 rfl rfl hS rfl rfl ?_
              refine p_nu hap hsel 47 rfl rfl hS rfl rfl ?_
              refine p_nu hap hsel 48 rfl rfl hS rfl rfl ?_
              refine p_nu hap hsel 49 rfl rfl hS rfl rfl ?_
              refine p_nu hap hsel 50 rfl rfl hS rfl rfl ?_
              refine p_nu hap hsel 51 rfl rfl hS rfl rfl ?_
              refine p_nu hap hsel 52 rfl rfl hS rfl rfl ?_
              refine p_nu hap hsel 53 rfl rfl hS rfl rfl ?_
              refine p_no hap hsel 54 rfl rfl hS rfl rfl (by decide) ?_
              refine p_q hap hsel 55 rfl rfl hS (fun w hS => q_pick_t rfl rfl) ?_
              refine p_end (by kernel_rfl) ?_
              refine c_cond_t rfl rfl ?_
              have hD : ¬ GoodF l := by
                rintro ⟨_, _, _, h4⟩
                obtain ⟨q1, q2, q3, q4⟩ := h4 j (by omega)
                have ej : (((j : Nat) : Int) - 1).toNat = j - 1 := by omega
                have ee : (l.getD (((j : Nat) : Int) - 1).toNat default).frm = (l.getD (j - 1) default).frm := by rw [ej]
                have f_frm : (l.getD ((j : Nat) : Int).toNat default).frm = (l.getD j default).frm := rfl
                have f_maker : (l.getD ((j : Nat) : Int).toNat default).maker = (l.getD j default).maker := rfl
                have f_taker : (l.getD ((j : Nat) : Int).toNat default).taker = (l.getD j default).taker := rfl
                first
                  | omega
                  | (have q4' := q4 (by omega); omega)
              refine c_seq ?_
              refine c_region ?_
              refine t_q (q_assign) ?_
              refine t_nil ?_
              refine c_ret ?_
              refine r_one rfl rfl ?_
              have hN := hS.nil
              clear hS
              refine ⟨congrArg (fun b => Ending.returned (.bool b)) ?_, hN⟩
              first
                | exact (decide_eq_true hD).symm
                | exact (decide_eq_false hD).symm
            · intro hg15
              have hg15d := of_decide_eq_false hg15
              refine p_yes hap hsel 15 rfl rfl hS rfl rfl hg15 (fun w hS => q_mv (.slice _ _ _) rfl) ?_
              refine p_yes hap hsel 16 rfl rfl hS rfl rfl hg15 (fun w hS => q_mv (.int _ _) rfl) ?_
              refine p_index_yes hap hsel 17 rfl rfl hS rfl rfl hg15 Tryd.runUnderlying85 Tryd.sizeOf118 (fun w hS => hl.st hS) rfl rfl (by omega) (fun ad16 hl16 hx16 => ?_)
              refine p_yes hap hsel 18 rfl rfl hS rfl rfl hg15 (fun w hS => q_fieldAddr 1 Tryd.runUnderlying118 rfl Tryd.sizeOf2 (by decide) rfl rfl) ?_
              refine p_yes hap hsel 19 rfl rfl hS rfl rfl hg15 (fun w hS => q_load1 Tryd.isAgg2 rfl ((hx16 w hS) 1 _ rfl)) ?_
              refine p_yes hap hsel 20 rfl rfl hS rfl rfl hg15 (fun w hS => q_gtr rfl rfl) ?_
              refine p_q hap hsel 21 rfl rfl hS (fun w hS => q_pick_f rfl hg15) ?_
              refine p_q hap hsel 22 rfl rfl hS (fun w hS => q_mv (.bool _) rfl) ?_
              refine p_case 47 rfl ?_ ?_
              · intro hg18
                have hg18d := of_decide_eq_true hg18
                refine p_no hap hsel 23 rfl rfl hS rfl rfl (by rw [hg18]; decide) ?_
                refine p_no hap hsel 24 rfl rfl hS rfl rfl (by rw [hg18]; decide) ?_
                refine p_no hap hsel 25 rfl rfl hS rfl rfl (by rw [hg18]; decide) ?_
                refine p_no hap hsel 26 rfl rfl hS rfl rfl (by rw [hg18]; decide) ?_
                refine p_no hap hsel 27 rfl rfl hS rfl rfl (by rw [hg18]; decide) ?_
                refine p_no hap hsel 28 rfl rfl hS rfl rfl (by rw [hg18]; decide) ?_
                refine p_q hap hsel 29 rfl rfl hS (fun w hS => q_pick_t rfl hg18) ?_
                refine p_q hap hsel 30 rfl rfl hS (fun w hS => q_mv (.bool _) rfl) ?_
                refine p_no hap hsel 31 rfl rfl hS rfl rfl (by decide) ?_
                refine p_no hap hsel 32 rfl rfl hS rfl rfl (by decide) ?_
                refine p_no hap hsel 33 rfl rfl hS rfl rfl (by decide) ?_
                refine p_no hap hsel 34 rfl rfl hS rfl rfl (by decide) ?_
                refine p_no hap hsel 35 rfl rfl hS rfl rfl (by decide) ?_
                refine p_no hap hsel 36 rfl rfl hS rfl rfl (by decide) ?_
                refine p_q hap hsel 37 rfl rfl hS (fun w hS => q_pick_t rfl rfl) ?_
                refine p_q hap hsel 38 rfl rfl hS (fun w hS => q_mv (.bool _) rfl) ?_
                refine p_no hap hsel 39 rfl rfl hS rfl rfl (by decide) ?_
                refine p_no hap hsel 40 rfl rfl hS rfl rfl (by decide) ?_
                refine p_no hap hsel 41 rfl rfl hS rfl rfl (by decide) ?_
                refine p_nu hap hsel 42 rfl rfl hS rfl rfl ?_
                refine p_nu hap hsel 43 rfl rfl hS rfl rfl ?_
                refine p_nu hap hsel 44 rfl rfl hS rfl rfl ?_
                refine p_nu hap hsel 45 rfl rfl hS rfl rfl ?_
                refine p_nu hap hsel 46 rfl rfl hS rfl rfl ?_
                refine p_nu hap hsel 47 rfl rfl hS rfl rfl ?_
                refine p_nu hap hsel 48 rfl rfl hS rfl rfl ?_
                refine p_nu hap hsel 49 rfl rfl hS rfl rfl ?_
                refine p_nu hap hsel 50 rfl rfl hS rfl rfl ?_
                refine p_nu hap hsel 51 rfl rfl hS rfl rfl ?_
                refine p_nu hap hsel 52 rfl rfl hS rfl rfl ?_
                refine p_nu hap hsel 53 rfl rfl hS rfl rfl ?_
                refine p_no hap hsel 54 rfl rfl hS rfl rfl (by decide) ?_
                refine p_q hap hsel 55 rfl rfl hS (fun w hS => q_pick_t rfl rfl) ?_
                refine p_end (by kernel_rfl) ?_
                refine c_cond_t rfl rfl ?_
                have hD : ¬ GoodF l := by
                  rintro ⟨_, _, _, h4⟩
                  obtain ⟨q1, q2, q3, q4⟩ := h4 j (by omega)
                  have ej : (((j : Nat) : Int) - 1).toNat = j - 1 := by omega
                  have ee : (l.getD (((j : Nat) : Int) - 1).toNat default).frm = (l.getD (j - 1) default).frm := by rw [ej]
                  have f_frm : (l.getD ((j : Nat) : Int).toNat default).frm = (l.getD j default).frm := rfl
                  have f_maker : (l.getD ((j : Nat) : Int).toNat default).maker = (l.getD j default).maker := rfl
                  have f_taker : (l.getD ((j : Nat) : Int).toNat default).taker = (l.getD j default).taker := rfl
                  first
                    | omega
                    | (have q4' := q4 (by omega); omega)
                refine c_seq ?_
                refine c_region ?_
                refine t_q (q_assign) ?_
                refine t_nil ?_
                refine c_ret ?_
                refine r_one rfl rfl ?_
                have hN := hS.nil
                clear hS
                refine ⟨congrArg (fun b => Ending.returned (.bool b)) ?_, hN⟩
                first
                  | exact (decide_eq_true hD).symm
                  | exact (decide_eq_false hD).symm
              · intro hg18
                have hg18d := of_decide_eq_false hg18
                refine p_yes hap hsel 23 rfl rfl hS rfl rfl hg18 (fun w hS => q_mv (.slice _ _ _) rfl) ?_
                refine p_yes hap hsel 24 rfl rfl hS rfl rfl hg18 (fun w hS => q_mv (.int _ _) rfl) ?_
                refine p_index_yes hap hsel 25 rfl rfl hS rfl rfl hg18 Tryd.runUnderlying85 Tryd.sizeOf118 (fun w hS => hl.st hS) rfl rfl (by omega) (fun ad19 hl19 hx19 => ?_)
                refine p_yes hap hsel 26 rfl rfl hS rfl rfl hg18 (fun w hS => q_fieldAddr 2 Tryd.runUnderlying118 rfl Tryd.sizeOf2 (by decide) rfl rfl) ?_
                refine p_yes hap hsel 27 rfl rfl hS rfl rfl hg18 (fun w hS => q_load1 Tryd.isAgg2 rfl ((hx19 w hS) 2 _ rfl)) ?_
                refine p_yes hap hsel 28 rfl rfl hS rfl rfl hg18 (fun w hS => q_lss rfl rfl) ?_
                refine p_q hap hsel 29 rfl rfl hS (fun w hS => q_pick_f rfl hg18) ?_
                refine p_q hap hsel 30 rfl rfl hS (fun w hS => q_mv (.bool _) rfl) ?_
                refine p_case 55 rfl ?_ ?_
                · intro hg21
                  have hg21d := of_decide_eq_true hg21
                  refine p_no hap hsel 31 rfl rfl hS rfl rfl (by rw [hg21]; decide) ?_
                  refine p_no hap hsel 32 rfl rfl hS rfl rfl (by rw [hg21]; decide) ?_
                  refine p_no hap hsel 33 rfl rfl hS rfl rfl (by rw [hg21]; decide) ?_
                  refine p_no hap hsel 34 rfl rfl hS rfl rfl (by rw [hg21]; decide) ?_
                  refine p_no hap hsel 35 rfl rfl hS rfl rfl (by rw [hg21]; decide) ?_
                  refine p_no hap hsel 36 rfl rfl hS rfl rfl (by rw [hg21]; decide) ?_
                  refine p_q hap hsel 37 rfl rfl hS (fun w hS => q_pick_t rfl hg21) ?_
                  refine p_q hap hsel 38 rfl rfl hS (fun w hS => q_mv (.bool _) rfl) ?_
                  refine p_no hap hsel 39 rfl rfl hS rfl rfl (by decide) ?_
                  refine p_no hap hsel 40 rfl rfl hS rfl rfl (by decide) ?_
                  refine p_no hap hsel 41 rfl rfl hS rfl rfl (by decide) ?_
                  refine p_nu hap hsel 42 rfl rfl hS rfl rfl ?_
                  refine p_nu hap hsel 43 rfl rfl hS rfl rfl ?_
                  refine p_nu hap hsel 44 rfl rfl hS rfl rfl ?_
                  refine p_nu hap hsel 45 rfl rfl hS rfl rfl ?_
                  refine p_nu hap hsel 46 rfl rfl hS rfl rfl ?_
                  refine p_nu hap hsel 47 rfl rfl hS rfl rfl ?_
                  refine p_nu hap hsel 48 rfl rfl hS rfl rfl ?_
                  refine p_nu hap hsel 49 rfl rfl hS rfl rfl ?_
                  refine p_nu hap hsel 50 rfl rfl hS rfl rfl ?_
                  refine p_nu hap hsel 51 rfl rfl hS rfl rfl ?_
                  refine p_nu hap hsel 52 rfl rfl hS rfl rfl ?_
                  refine p_nu hap hsel 53 rfl rfl hS rfl rfl ?_
                  refine p_no hap hsel 54 rfl rfl hS rfl rfl (by decide) ?_
                  refine p_q hap hsel 55 rfl rfl hS (fun w hS => q_pick_t rfl rfl) ?_
                  refine p_end (by kernel_rfl) ?_
                  refine c_cond_t rfl rfl ?_
                  have hD : ¬ GoodF l := by
                    rintro ⟨_, _, _, h4⟩
                    obtain ⟨q1, q2, q3, q4⟩ := h4 j (by omega)
                    have ej : (((j : Nat) : Int) - 1).toNat = j - 1 := by omega
                    have ee : (l.getD (((j : Nat) : Int) - 1).toNat default).frm = (l.getD (j - 1) default).frm := by rw [ej]
                    have f_frm : (l.getD ((j : Nat) : Int).toNat default).frm = (l.getD j default).frm := rfl
                    have f_maker : (l.getD ((j : Nat) : Int).toNat default).maker = (l.getD j default).maker := rfl
                    have f_taker : (l.getD ((j : Nat) : Int).toNat default).taker = (l.getD j default).taker := rfl
                    first
                      | omega
                      | (have q4' := q4 (by omega); omega)
                  refine c_seq ?_
                  refine c_region ?_
                  refine t_q (q_assign) ?_
                  refine t_nil ?_
                  refine c_ret ?_
                  refine r_one rfl rfl ?_
                  have hN := hS.nil
                  clear hS
                  refine ⟨congrArg (fun b => Ending.returned (.bool b)) ?_, hN⟩
                  first
                    | exact (decide_eq_true hD).symm
                    | exact (decide_eq_false hD).symm
                · intro hg21
                  have hg21d := of_decide_eq_false hg21
                  refine p_yes hap hsel 31 rfl rfl hS rfl rfl hg21 (fun w hS => q_mv (.slice _ _ _) rfl) ?_
                  refine p_yes hap hsel 32 rfl rfl hS rfl rfl hg21 (fun w hS => q_mv (.int _ _) rfl) ?_
                  refine p_index_yes hap hsel 33 rfl rfl hS rfl rfl hg21 Tryd.runUnderlying85 Tryd.sizeOf118 (fun w hS => hl.st hS) rfl rfl (by omega) (fun ad22 hl22 hx22 => ?_)
                  refine p_yes hap hsel 34 rfl rfl hS rfl rfl hg21 (fun w hS => q_fieldAddr 2 Tryd.runUnderlying118 rfl Tryd.sizeOf2 (by decide) rfl rfl) ?_
                  refine p_yes hap hsel 35 rfl rfl hS rfl rfl hg21 (fun w hS => q_load1 Tryd.isAgg2 rfl ((hx22 w hS) 2 _ rfl)) ?_
                  refine p_yes hap hsel 36 rfl rfl hS rfl rfl hg21 (fun w hS => q_gtr rfl rfl) ?_
                  refine p_q hap hsel 37 rfl rfl hS (fun w hS => q_pick_f rfl hg21) ?_
                  refine p_q hap hsel 38 rfl rfl hS (fun w hS => q_mv (.bool _) rfl) ?_
                  refine p_case 63 rfl ?_ ?_
                  · intro hg24
                    have hg24d := of_decide_eq_true hg24
                    refine p_no hap hsel 39 rfl rfl hS rfl rfl (by rw [hg24]; decide) ?_
                    refine p_no hap hsel 40 rfl rfl hS rfl rfl (by rw [hg24]; decide) ?_
                    refine p_no hap hsel 41 rfl rfl hS rfl rfl (by rw [hg24]; decide) ?_
                    refine p_nu hap hsel 42 rfl rfl hS rfl rfl ?_
                    refine p_nu hap hsel 43 rfl rfl hS rfl rfl ?_
                    refine p_nu hap hsel 44 rfl rfl hS rfl rfl ?_
                    refine p_nu hap hsel 45 rfl rfl hS rfl rfl ?_
                    refine p_nu hap hsel 46 rfl rfl hS rfl rfl ?_
                    refine p_nu hap hsel 47 rfl rfl hS rfl rfl ?_
                    refine p_nu hap hsel 48 rfl rfl hS rfl rfl ?_
                    refine p_nu hap hsel 49 rfl rfl hS rfl rfl ?_
                    refine p_nu hap hsel 50 rfl rfl hS rfl rfl ?_
                    refine p_nu hap hsel 51 rfl rfl hS rfl rfl ?_
                    refine p_nu hap hsel 52 rfl rfl hS rfl rfl ?_
                    refine p_nu hap hsel 53 rfl rfl hS rfl rfl ?_
                    refine p_no hap hsel 54 rfl rfl hS rfl rfl (by rw [hg24]; decide) ?_
                    refine p_q hap hsel 55 rfl rfl hS (fun w hS => q_pick_t rfl hg24) ?_
                    refine p_end (by kernel_rfl) ?_
                    refine c_cond_t rfl rfl ?_
                    have hD : ¬ GoodF l := by
                      rintro ⟨_, _, _, h4⟩
                      obtain ⟨q1, q2, q3, q4⟩ := h4 j (by omega)
                      have ej : (((j : Nat) : Int) - 1).toNat = j - 1 := by omega
                      have ee : (l.getD (((j : Nat) : Int) - 1).toNat default).frm = (l.getD (j - 1) default).frm := by rw [ej]
                      have f_frm : (l.getD ((j : Nat) : Int).toNat default).frm = (l.getD j default).frm := rfl
                      have f_maker : (l.getD ((j : Nat) : Int).toNat default).maker = (l.getD j default).maker := rfl
                      have f_taker : (l.getD ((j : Nat) : Int).toNat default).taker = (l.getD j default).taker := rfl
                      first
                        | omega
                        | (have q4' := q4 (by omega); omega)
                    refine c_seq ?_
                    refine c_region ?_
                    refine t_q (q_assign) ?_
                    refine t_nil ?_
                    refine c_ret ?_
                    refine r_one rfl rfl ?_
                    have hN := hS.nil
                    clear hS
                    refine ⟨congrArg (fun b => Ending.returned (.bool b)) ?_, hN⟩
                    first
                      | exact (decide_eq_true hD).symm
                      | exact (decide_eq_false hD).symm
                  · intro hg24
                    have hg24d := of_decide_eq_false hg24
                    refine p_yes hap hsel 39 rfl rfl hS rfl rfl hg24 (fun w hS => q_mv (.int _ _) rfl) ?_
                    refine p_yes hap hsel 40 rfl rfl hS rfl rfl hg24 (fun w hS => q_gtr rfl rfl) ?_
                    refine p_yes hap hsel 41 rfl rfl hS rfl rfl hg24 (fun w hS => q_mv (.bool _) rfl) ?_
                    refine p_case 66 rfl ?_ ?_
                    · intro hg26
                      have hg26d := of_decide_eq_true hg26
                      refine p_yes hap hsel 42 rfl rfl hS rfl rfl hg26 (fun w hS => q_mv (.slice _ _ _) rfl) ?_
                      refine p_yes hap hsel 43 rfl rfl hS rfl rfl hg26 (fun w hS => q_mv (.int _ _) rfl) ?_
                      refine p_index_yes hap hsel 44 rfl rfl hS rfl rfl hg26 Tryd.runUnderlying85 Tryd.sizeOf118 (fun w hS => hl.st hS) rfl rfl (by omega) (fun ad27 hl27 hx27 => ?_)
                      refine p_yes hap hsel 45 rfl rfl hS rfl rfl hg26 (fun w hS => q_fieldAddr 0 Tryd.runUnderlying118 rfl Tryd.sizeOf2 (by decide) rfl rfl) ?_
                      refine p_yes hap hsel 46 rfl rfl hS rfl rfl hg26 (fun w hS => q_load1 Tryd.isAgg2 rfl ((hx27 w hS) 0 _ rfl)) ?_
                      refine p_yes hap hsel 47 rfl rfl hS rfl rfl hg26 (fun w hS => q_mv (.slice _ _ _) rfl) ?_
                      refine p_yes hap hsel 48 rfl rfl hS rfl rfl hg26 (fun w hS => q_mv (.int _ _) rfl) ?_
                      refine p_yes hap hsel 49 rfl rfl hS rfl rfl hg26 (fun w hS => q_sub_i64 rfl rfl (by omega)) ?_
                      refine p_index_yes hap hsel 50 rfl rfl hS rfl rfl hg26 Tryd.runUnderlying85 Tryd.sizeOf118 (fun w hS => hl.st hS) rfl rfl (by omega) (fun ad28 hl28 hx28 => ?_)
                      refine p_yes hap hsel 51 rfl rfl hS rfl rfl hg26 (fun w hS => q_fieldAddr 0 Tryd.runUnderlying118 rfl Tryd.sizeOf2 (by decide) rfl rfl) ?_
                      refine p_yes hap hsel 52 rfl rfl hS rfl rfl hg26 (fun w hS => q_load1 Tryd.isAgg2 rfl ((hx28 w hS) 0 _ rfl)) ?_
                      refine p_yes hap hsel 53 rfl rfl hS rfl rfl hg26 (fun w hS => q_leq rfl rfl) ?_
                      refine p_yes hap hsel 54 rfl rfl hS rfl rfl hg24 (fun w hS => q_pick_t rfl hg26) ?_
                      refine p_q hap hsel 55 rfl rfl hS (fun w hS => q_pick_f rfl hg24) ?_
                      refine p_end (by kernel_rfl) ?_
                      refine c_cond rfl ?_ ?_
                      · intro hc30
                        have hc30d := of_decide_eq_true hc30
                        have hD : ¬ GoodF l := by
                          rintro ⟨_, _, _, h4⟩
                          obtain ⟨q1, q2, q3, q4⟩ := h4 j (by omega)
                          have ej : (((j : Nat) : Int) - 1).toNat = j - 1 := by omega
                          have ee : (l.getD (((j : Nat) : Int) - 1).toNat default).frm = (l.getD (j - 1) default).frm := by rw [ej]
                          have f_frm : (l.getD ((j : Nat) : Int).toNat default).frm = (l.getD j default).frm := rfl
                          have f_maker : (l.getD ((j : Nat) : Int).toNat default).maker = (l.getD j default).maker := rfl
                          have f_taker : (l.getD ((j : Nat) : Int).toNat default).taker = (l.getD j default).taker := rfl
                          first
                            | omega
                            | (have q4' := q4 (by omega); omega)
                        refine c_seq ?_
                        refine c_region ?_
                        refine t_q (q_assign) ?_
                        refine t_nil ?_
                        refine c_ret ?_
                        refine r_one rfl rfl ?_
                        have hN := hS.nil
                        clear hS
                        refine ⟨congrArg (fun b => Ending.returned (.bool b)) ?_, hN⟩
                        first
                          | exact (decide_eq_true hD).symm
                          | exact (decide_eq_false hD).symm
                      · intro hc30
                        have hc30d := of_decide_eq_false hc30
                        refine c_skip ?_
                        refine c_region ?_
                        refine t_q (q_mv (.int _ _) rfl) ?_
                        refine t_q (q_add_i64 rfl rfl (by omega)) ?_
                        refine t_q (q_as (.int _ _) rfl) ?_
                        refine t_nil ?_
                        exact ⟨k - 1, by omega, j + 1, rfl, by omega, by omega, (fun i hi => by
                          rcases Nat.lt_or_ge i j with h | h
                          · exact hall i h
                          · obtain rfl : i = j := by omega
                            have ej : (((i : Nat) : Int) - 1).toNat = i - 1 := by omega
                            have ee : (l.getD (((i : Nat) : Int) - 1).toNat default).frm = (l.getD (i - 1) default).frm := by rw [ej]
                            have f_frm : (l.getD ((i : Nat) : Int).toNat default).frm = (l.getD i default).frm := rfl
                            have f_maker : (l.getD ((i : Nat) : Int).toNat default).maker = (l.getD i default).maker := rfl
                            have f_taker : (l.getD ((i : Nat) : Int).toNat default).taker = (l.getD i default).taker := rfl
                            exact ⟨by omega, ⟨by omega, by omega⟩, ⟨by omega, by omega⟩, fun h => by omega⟩), hS.nil⟩
                    · intro hg26
                      have hg26d := of_decide_eq_false hg26
                      refine p_no hap hsel 42 rfl rfl hS rfl rfl (by rw [hg26]; decide) ?_
                      refine p_no hap hsel 43 rfl rfl hS rfl rfl (by rw [hg26]; decide) ?_
                      refine p_no hap hsel 44 rfl rfl hS rfl rfl (by rw [hg26]; decide) ?_
                      refine p_no hap hsel 45 rfl rfl hS rfl rfl (by rw [hg26]; decide) ?_
                      refine p_no hap hsel 46 rfl rfl hS rfl rfl (by rw [hg26]; decide) ?_
                      refine p_no hap hsel 47 rfl rfl hS rfl rfl (by rw [hg26]; decide) ?_
                      refine p_no hap hsel 48 rfl rfl hS rfl rfl (by rw [hg26]; decide) ?_
                      refine p_no hap hsel 49 rfl rfl hS rfl rfl (by rw [hg26]; decide) ?_
                      refine p_no hap hsel 50 rfl rfl hS rfl rfl (by rw [hg26]; decide) ?_
                      refine p_no hap hsel 51 rfl rfl hS rfl rfl (by rw [hg26]; decide) ?_
                      refine p_no hap hsel 52 rfl rfl hS rfl rfl (by rw [hg26]; decide) ?_
                      refine p_no hap hsel 53 rfl rfl hS rfl rfl (by rw [hg26]; decide) ?_
                      refine p_yes hap hsel 54 rfl rfl hS rfl rfl hg24 (fun w hS => q_pick_f rfl hg26) ?_
                      refine p_q hap hsel 55 rfl rfl hS (fun w hS => q_pick_f rfl hg24) ?_
                      refine p_end (by kernel_rfl) ?_
                      refine c_cond_f rfl rfl ?_
                      refine c_skip ?_
                      refine c_region ?_
                      refine t_q (q_mv (.int _ _) rfl) ?_
                      refine t_q (q_add_i64 rfl rfl (by omega)) ?_
                      refine t_q (q_as (.int _ _) rfl) ?_
                      refine t_nil ?_
                      exact ⟨k - 1, by omega, j + 1, rfl, by omega, by omega, (fun i hi => by
                        rcases Nat.lt_or_ge i j with h | h
                        · exact hall i h
                        · obtain rfl : i = j := by omega
                          have ej : (((i : Nat) : Int) - 1).toNat = i - 1 := by omega
                          have ee : (l.getD (((i : Nat) : Int) - 1).toNat default).frm = (l.getD (i - 1) default).frm := by rw [ej]
                          have f_frm : (l.getD ((i : Nat) : Int).toNat default).frm = (l.getD i default).frm := rfl
                          have f_maker : (l.getD ((i : Nat) : Int).toNat default).maker = (l.getD i default).maker := rfl
                          have f_taker : (l.getD ((i : Nat) : Int).toNat default).taker = (l.getD i default).taker := rfl
                          exact ⟨by omega, ⟨by omega, by omega⟩, ⟨by omega, by omega⟩, fun h => by omega⟩), hS.nil⟩
        · intro hc9
          have hc9d := of_decide_eq_false hc9
          obtain rfl : j = l.length := by omega
          have hD : GoodF l := ⟨by omega, by omega, h0, hall⟩
          refine c_exit ?_
          refine ite_t rfl ?_
          refine c_seq ?_
          refine c_region ?_
          refine t_q (q_assign) ?_
          refine t_nil ?_
          refine c_ret ?_
          refine r_one rfl rfl ?_
          have hN := hS.nil
          clear hS
          refine ⟨congrArg (fun b => Ending.returned (.bool b)) ?_, hN⟩
          first
            | exact (decide_eq_true hD).symm
            | exact (decide_eq_false hD).symm
set_option maxHeartbeats 2000000 in
set_option maxRecDepth 100000 in
theorem qchk_calls {x : RuV} (hx : x.Gd W) : Calls Tryd.prog 23 #[.agg x.cells.toArray] W fun e w' => e = .returned (.tuple #[.int .i64 (chk x).1, .int .i64 (chk x).2]) ∧ St W w' [] := by
  have hS := St.init W
  refine calls_of_wpE (args := [_]) Tryd.func23 rfl rfl rfl ?_
  refine c_seq ?_
  refine c_region ?_
  refine t_box (v := (.agg _)) rfl rfl hS (fun g1 w hS => ?_)
  replace hS := hS.recast (show _ = blkA g1 42 [.int .i64 x.version, .slice x.ticks.A x.ticks.l.length x.ticks.c, .int .i64 x.lot, .int .i64 x.band, .slice x.fees.A x.fees.l.length x.fees.c, .int .i64 x.round, .int .i64 x.priority, .int .i64 x.self, .int .i64 x.layout] from rfl)
  refine t_q (q_assign) ?_
  refine t_q (q_assign) ?_
  refine t_nil ?_
  refine c_seq ?_
  refine c_seq ?_
  refine c_region ?_
  refine t_q (q_fieldAddr 0 Tryd.runUnderlying42 rfl Tryd.sizeOf3 (by decide) rfl rfl) ?_
  refine t_q (q_load1 Tryd.isAgg3 rfl (hS.cell (by repeat first | exact .here _ _ | assumption | apply Pick.there) rfl)) ?_
  refine t_q (q_lss rfl rfl) ?_
  refine t_q (q_mv (.bool _) rfl) ?_
  refine t_case 7 rfl ?_ ?_
  · intro hg2
    have hg2d := of_decide_eq_true hg2
    refine t_no rfl rfl (by rw [hg2]; decide) ?_
    refine t_no rfl rfl (by rw [hg2]; decide) ?_
    refine t_no rfl rfl (by rw [hg2]; decide) ?_
    refine t_q (q_pick_t rfl hg2) ?_
    refine t_nil ?_
    refine c_cond_t rfl rfl ?_
    have hD := chk_1 (x := x) (fun h => by omega)
    refine c_seq ?_
    refine c_region ?_
    refine t_q (q_assign) ?_
    refine t_q (q_assign) ?_
    refine t_nil ?_
    refine c_ret ?_
    refine r_two rfl rfl rfl ?_
    rw [hD]
    exact ⟨rfl, hS.nil⟩
  · intro hg2
    have hg2d := of_decide_eq_false hg2
    refine t_yes rfl rfl hg2 ?_
    refine t_q (q_fieldAddr 0 Tryd.runUnderlying42 rfl Tryd.sizeOf3 (by decide) rfl rfl) ?_
    refine t_yes rfl rfl hg2 ?_
    refine t_q (q_load1 Tryd.isAgg3 rfl (hS.cell (by repeat first | exact .here _ _ | assumption | apply Pick.there) rfl)) ?_
    refine t_yes rfl rfl hg2 ?_
    refine t_q (q_gtr rfl rfl) ?_
    refine t_q (q_pick_f rfl hg2) ?_
    refine t_nil ?_
    refine c_cond rfl ?_ ?_
    · intro hc4
      have hc4d := of_decide_eq_true hc4
      have hD := chk_1 (x := x) (fun h => by omega)
      refine c_seq ?_
      refine c_region ?_
      refine t_q (q_assign) ?_
      refine t_q (q_assign) ?_
      refine t_nil ?_
      refine c_ret ?_
      refine r_two rfl rfl rfl ?_
      rw [hD]
      exact ⟨rfl, hS.nil⟩
    · intro hc4
      have hc4d := of_decide_eq_false hc4
      have h1 : (1 ≤ x.version ∧ x.version ≤ 32) := by omega
      refine c_skip ?_
      refine c_seq ?_
      refine c_seq ?_
      refine c_region ?_
      refine t_q (q_cast (v' := .agg x.cells.toArray) (q_load_blk Tryd.isAgg42 Tryd.sizeOf42 rfl (hS.blk (by repeat first | exact .here _ _ | assumption | apply Pick.there)) rfl) (by rfl)) ?_
      refine t_call Tryd.call46 (qticks_calls (hx.st hS)) rfl ?_
      rintro e w ⟨A13, c13, rfl, hT⟩
      refine ⟨_, rfl, ?_⟩
      have hS : St W w (_ :: _) := hS.lift hT
      refine t_call Tryd.call45 (qgt_calls (l := x.ticks.l.take 9) (rowRdTk hS (A := A13) (c := c13) (l := x.ticks.l.take 9) (by repeat first | exact .here _ _ | assumption | apply Pick.there) rfl) (fun e he => hx.tin e (List.mem_of_mem_take he)) (by rw [List.length_take]; omega)) rfl ?_
      rintro e w ⟨rfl, hT⟩
      refine ⟨_, rfl, ?_⟩
      replace hS := hS.after hT
      refine t_q (q_not rfl) ?_
      refine t_nil ?_
      refine c_cond rfl ?_ ?_
      · intro hc7
        have hD := chk_2 h1 (fun h => absurd ((goodT_take _).2 h) (of_decide_eq_false (not_back hc7)))
        refine c_seq ?_
        refine c_region ?_
        refine t_q (q_assign) ?_
        refine t_q (q_assign) ?_
        refine t_nil ?_
        refine c_ret ?_
        refine r_two rfl rfl rfl ?_
        rw [hD]
        exact ⟨rfl, hS.nil⟩
      · intro hc7
        have h2 : GoodT x.ticks.l := (goodT_take _).1 (of_decide_eq_true (not_back hc7))
        refine c_skip ?_
        refine c_seq ?_
        refine c_seq ?_
        refine c_region ?_
        refine t_q (q_fieldAddr 2 Tryd.runUnderlying42 rfl Tryd.sizeOf2 (by decide) rfl rfl) ?_
        refine t_q (q_load1 Tryd.isAgg2 rfl (hS.cell (by repeat first | exact .here _ _ | assumption | apply Pick.there) rfl)) ?_
        refine t_q (q_lss rfl rfl) ?_
        refine t_q (q_mv (.bool _) rfl) ?_
        refine t_case 19 rfl ?_ ?_
        · intro hg9
          have hg9d := of_decide_eq_true hg9
          refine t_no rfl rfl (by rw [hg9]; decide) ?_
          refine t_no rfl rfl (by rw [hg9]; decide) ?_
          refine t_no rfl rfl (by rw [hg9]; decide) ?_
          refine t_q (q_pick_t rfl hg9) ?_
          refine t_q (q_mv (.bool _) rfl) ?_
          refine t_no rfl rfl (by decide) ?_
          refine t_no rfl rfl (by decide) ?_
          refine t_no rfl rfl (by decide) ?_
          refine t_q (q_pick_t rfl rfl) ?_
          refine t_q (q_mv (.bool _) rfl) ?_
          refine t_no rfl rfl (by decide) ?_
          refine t_no rfl rfl (by decide) ?_
          refine t_no rfl rfl (by decide) ?_
          refine t_q (q_pick_t rfl rfl) ?_
          refine t_nil ?_
          refine c_cond_t rfl rfl ?_
          have hD := chk_3 (x := x) h1 h2 (fun h => by omega)
          refine c_seq ?_
          refine c_region ?_
          refine t_q (q_assign) ?_
          refine t_q (q_assign) ?_
          refine t_nil ?_
          refine c_ret ?_
          refine r_two rfl rfl rfl ?_
          rw [hD]
          exact ⟨rfl, hS.nil⟩
        · intro hg9
          have hg9d := of_decide_eq_false hg9
          refine t_yes rfl rfl hg9 ?_
          refine t_q (q_fieldAddr 2 Tryd.runUnderlying42 rfl Tryd.sizeOf2 (by decide) rfl rfl) ?_
          refine t_yes rfl rfl hg9 ?_
          refine t_q (q_load1 Tryd.isAgg2 rfl (hS.cell (by repeat first | exact .here _ _ | assumption | apply Pick.there) rfl)) ?_
          refine t_yes rfl rfl hg9 ?_
          refine t_q (q_gtr rfl rfl) ?_
          refine t_q (q_pick_f rfl hg9) ?_
          refine t_q (q_mv (.bool _) rfl) ?_
          refine t_case 24 rfl ?_ ?_
          · intro hg11
            have hg11d := of_decide_eq_true hg11
            refine t_no rfl rfl (by rw [hg11]; decide) ?_
            refine t_no rfl rfl (by rw [hg11]; decide) ?_
            refine t_no rfl rfl (by rw [hg11]; decide) ?_
            refine t_q (q_pick_t rfl hg11) ?_
            refine t_q (q_mv (.bool _) rfl) ?_
            refine t_no rfl rfl (by decide) ?_
            refine t_no rfl rfl (by decide) ?_
            refine t_no rfl rfl (by decide) ?_
            refine t_q (q_pick_t rfl rfl) ?_
            refine t_nil ?_
            refine c_cond_t rfl rfl ?_
            have hD := chk_3 (x := x) h1 h2 (fun h => by omega)
            refine c_seq ?_
            refine c_region ?_
            refine t_q (q_assign) ?_
            refine t_q (q_assign) ?_
            refine t_nil ?_
            refine c_ret ?_
            refine r_two rfl rfl rfl ?_
            rw [hD]
            exact ⟨rfl, hS.nil⟩
          · intro hg11
            have hg11d := of_decide_eq_false hg11
            refine t_yes rfl rfl hg11 ?_
            refine t_q (q_fieldAddr 3 Tryd.runUnderlying42 rfl Tryd.sizeOf2 (by decide) rfl rfl) ?_
            refine t_yes rfl rfl hg11 ?_
            refine t_q (q_load1 Tryd.isAgg2 rfl (hS.cell (by repeat first | exact .here _ _ | assumption | apply Pick.there) rfl)) ?_
            refine t_yes rfl rfl hg11 ?_
            refine t_q (q_lss rfl rfl) ?_
            refine t_q (q_pick_f rfl hg11) ?_
            refine t_q (q_mv (.bool _) rfl) ?_
            refine t_case 29 rfl ?_ ?_
            · intro hg13
              have hg13d := of_decide_eq_true hg13
              refine t_no rfl rfl (by rw [hg13]; decide) ?_
              refine t_no rfl rfl (by rw [hg13]; decide) ?_
              refine t_no rfl rfl (by rw [hg13]; decide) ?_
              refine t_q (q_pick_t rfl hg13) ?_
              refine t_nil ?_
              refine c_cond_t rfl rfl ?_
              have hD := chk_3 (x := x) h1 h2 (fun h => by omega)
              refine c_seq ?_
              refine c_region ?_
              refine t_q (q_assign) ?_
              refine t_q (q_assign) ?_
              refine t_nil ?_
              refine c_ret ?_
              refine r_two rfl rfl rfl ?_
              rw [hD]
              exact ⟨rfl, hS.nil⟩
            · intro hg13
              have hg13d := of_decide_eq_false hg13
              refine t_yes rfl rfl hg13 ?_
              refine t_q (q_fieldAddr 3 Tryd.runUnderlying42 rfl Tryd.sizeOf2 (by decide) rfl rfl) ?_
              refine t_yes rfl rfl hg13 ?_
              refine t_q (q_load1 Tryd.isAgg2 rfl (hS.cell (by repeat first | exact .here _ _ | assumption | apply Pick.there) rfl)) ?_
              refine t_yes rfl rfl hg13 ?_
              refine t_q (q_gtr rfl rfl) ?_
              refine t_q (q_pick_f rfl hg13) ?_
              refine t_nil ?_
              refine c_cond rfl ?_ ?_
              · intro hc15
                have hc15d := of_decide_eq_true hc15
                have hD := chk_3 (x := x) h1 h2 (fun h => by omega)
                refine c_seq ?_
                refine c_region ?_
                refine t_q (q_assign) ?_
                refine t_q (q_assign) ?_
                refine t_nil ?_
                refine c_ret ?_
                refine r_two rfl rfl rfl ?_
                rw [hD]
                exact ⟨rfl, hS.nil⟩
              · intro hc15
                have hc15d := of_decide_eq_false hc15
                have h3 : (1 ≤ x.lot ∧ x.lot ≤ 1099511627776 ∧ 0 ≤ x.band ∧ x.band ≤ 1000000) := by omega
                refine c_skip ?_
                refine c_seq ?_
                refine c_seq ?_
                refine c_region ?_
                refine t_q (q_cast (v' := .agg x.cells.toArray) (q_load_blk Tryd.isAgg42 Tryd.sizeOf42 rfl (hS.blk (by repeat first | exact .here _ _ | assumption | apply Pick.there)) rfl) (by rfl)) ?_
                refine t_call Tryd.call48 (qtiers_calls (hx.st hS)) rfl ?_
                rintro e w ⟨A35, c35, rfl, hT⟩
                refine ⟨_, rfl, ?_⟩
                have hS : St W w (_ :: _) := hS.lift hT
                refine t_call Tryd.call47 (qgf_calls (l := x.fees.l.take 9) (rowRdTr hS (A := A35) (c := c35) (l := x.fees.l.take 9) (by repeat first | exact .here _ _ | assumption | apply Pick.there) rfl) (fun e he => hx.fin e (List.mem_of_mem_take he)) (by rw [List.length_take]; omega)) rfl ?_
                rintro e w ⟨rfl, hT⟩
                refine ⟨_, rfl, ?_⟩
                replace hS := hS.after hT
                refine t_q (q_not rfl) ?_
                refine t_nil ?_
                refine c_cond rfl ?_ ?_
                · intro hc18
                  have hD := chk_4 h1 h2 h3 (fun h => absurd ((goodF_take _).2 h) (of_decide_eq_false (not_back hc18)))
                  refine c_seq ?_
                  refine c_region ?_
                  refine t_q (q_assign) ?_
                  refine t_q (q_assign) ?_
                  refine t_nil ?_
                  refine c_ret ?_
                  refine r_two rfl rfl rfl ?_
                  rw [hD]
                  exact ⟨rfl, hS.nil⟩
                · intro hc18
                  have h4 : GoodF x.fees.l := (goodF_take _).1 (of_decide_eq_true (not_back hc18))
                  refine c_skip ?_
                  refine c_seq ?_
                  refine c_seq ?_
                  refine c_region ?_
                  refine t_q (q_fieldAddr 5 Tryd.runUnderlying42 rfl Tryd.sizeOf3 (by decide) rfl rfl) ?_
                  refine t_q (q_load1 Tryd.isAgg3 rfl (hS.cell (by repeat first | exact .here _ _ | assumption | apply Pick.there) rfl)) ?_
                  refine t_q (q_lss rfl rfl) ?_
                  refine t_q (q_mv (.bool _) rfl) ?_
                  refine t_case 41 rfl ?_ ?_
                  · intro hg20
                    have hg20d := of_decide_eq_true hg20
                    refine t_no rfl rfl (by rw [hg20]; decide) ?_
                    refine t_no rfl rfl (by rw [hg20]; decide) ?_
                    refine t_no rfl rfl (by rw [hg20]; decide) ?_
                    refine t_q (q_pick_t rfl hg20) ?_
                    refine t_q (q_mv (.bool _) rfl) ?_
                    refine t_no rfl rfl (by decide) ?_
                    refine t_no rfl rfl (by decide) ?_
                    refine t_no rfl rfl (by decide) ?_
                    refine t_q (q_pick_t rfl rfl) ?_
                    refine t_q (q_mv (.bool _) rfl) ?_
                    refine t_no rfl rfl (by decide) ?_
                    refine t_no rfl rfl (by decide) ?_
                    refine t_no rfl rfl (by decide) ?_
                    refine t_q (q_pick_t rfl rfl) ?_
                    refine t_q (q_mv (.bool _) rfl) ?_
                    refine t_no rfl rfl (by decide) ?_
                    refine t_no rfl rfl (by decide) ?_
                    refine t_no rfl rfl (by decide) ?_
                    refine t_q (q_pick_t rfl rfl) ?_
                    refine t_q (q_mv (.bool _) rfl) ?_
                    refine t_no rfl rfl (by decide) ?_
                    refine t_no rfl rfl (by decide) ?_
                    refine t_no rfl rfl (by decide) ?_
                    refine t_q (q_pick_t rfl rfl) ?_
                    refine t_q (q_mv (.bool _) rfl) ?_
                    refine t_no rfl rfl (by decide) ?_
                    refine t_no rfl rfl (by decide) ?_
                    refine t_no rfl rfl (by decide) ?_
                    refine t_q (q_pick_t rfl rfl) ?_
                    refine t_q (q_mv (.bool _) rfl) ?_
                    refine t_no rfl rfl (by decide) ?_
                    refine t_no rfl rfl (by decide) ?_
                    refine t_no rfl rfl (by decide) ?_
                    refine t_q (q_pick_t rfl rfl) ?_
                    refine t_nil ?_
                    refine c_cond_t rfl rfl ?_
                    have hD := chk_5 (x := x) h1 h2 h3 h4 (fun ⟨a1, a2, a3, a4⟩ => by omega)
                    refine c_seq ?_
                    refine c_region ?_
                    refine t_q (q_assign) ?_
                    refine t_q (q_assign) ?_
                    refine t_nil ?_
                    refine c_ret ?_
                    refine r_two rfl rfl rfl ?_
                    rw [hD]
                    exact ⟨rfl, hS.nil⟩
                  · intro hg20
                    have hg20d := of_decide_eq_false hg20
                    refine t_yes rfl rfl hg20 ?_
                    refine t_q (q_fieldAddr 5 Tryd.runUnderlying42 rfl Tryd.sizeOf3 (by decide) rfl rfl) ?_
                    refine t_yes rfl rfl hg20 ?_
                    refine t_q (q_load1 Tryd.isAgg3 rfl (hS.cell (by repeat first | exact .here _ _ | assumption | apply Pick.there) rfl)) ?_
                    refine t_yes rfl rfl hg20 ?_
                    refine t_q (q_gtr rfl rfl) ?_
                    refine t_q (q_pick_f rfl hg20) ?_
                    refine t_q (q_mv (.bool _) rfl) ?_
                    refine t_case 46 rfl ?_ ?_
                    · intro hg22
                      have hg22d := of_decide_eq_true hg22
                      refine t_no rfl rfl (by rw [hg22]; decide) ?_
                      refine t_no rfl rfl (by rw [hg22]; decide) ?_
                      refine t_no rfl rfl (by rw [hg22]; decide) ?_
                      refine t_q (q_pick_t rfl hg22) ?_
                      refine t_q (q_mv (.bool _) rfl) ?_
                      refine t_no rfl rfl (by decide) ?_
                      refine t_no rfl rfl (by decide) ?_
                      refine t_no rfl rfl (by decide) ?_
                      refine t_q (q_pick_t rfl rfl) ?_
                      refine t_q (q_mv (.bool _) rfl) ?_
                      refine t_no rfl rfl (by decide) ?_
                      refine t_no rfl rfl (by decide) ?_
                      refine t_no rfl rfl (by decide) ?_
                      refine t_q (q_pick_t rfl rfl) ?_
                      refine t_q (q_mv (.bool _) rfl) ?_
                      refine t_no rfl rfl (by decide) ?_
                      refine t_no rfl rfl (by decide) ?_
                      refine t_no rfl rfl (by decide) ?_
                      refine t_q (q_pick_t rfl rfl) ?_
                      refine t_q (q_mv (.bool _) rfl) ?_
                      refine t_no rfl rfl (by decide) ?_
                      refine t_no rfl rfl (by decide) ?_
                      refine t_no rfl rfl (by decide) ?_
                      refine t_q (q_pick_t rfl rfl) ?_
                      refine t_q (q_mv (.bool _) rfl) ?_
                      refine t_no rfl rfl (by decide) ?_
                      refine t_no rfl rfl (by decide) ?_
                      refine t_no rfl rfl (by decide) ?_
                      refine t_q (q_pick_t rfl rfl) ?_
                      refine t_nil ?_
                      refine c_cond_t rfl rfl ?_
                      have hD := chk_5 (x := x) h1 h2 h3 h4 (fun ⟨a1, a2, a3, a4⟩ => by omega)
                      refine c_seq ?_
                      refine c_region ?_
                      refine t_q (q_assign) ?_
                      refine t_q (q_assign) ?_
                      refine t_nil ?_
                      refine c_ret ?_
                      refine r_two rfl rfl rfl ?_
                      rw [hD]
                      exact ⟨rfl, hS.nil⟩
                    · intro hg22
                      have hg22d := of_decide_eq_false hg22
                      refine t_yes rfl rfl hg22 ?_
                      refine t_q (q_fieldAddr 6 Tryd.runUnderlying42 rfl Tryd.sizeOf3 (by decide) rfl rfl) ?_
                      refine t_yes rfl rfl hg22 ?_
                      refine t_q (q_load1 Tryd.isAgg3 rfl (hS.cell (by repeat first | exact .here _ _ | assumption | apply Pick.there) rfl)) ?_
                      refine t_yes rfl rfl hg22 ?_
                      refine t_q (q_lss rfl rfl) ?_
                      refine t_q (q_pick_f rfl hg22) ?_
                      refine t_q (q_mv (.bool _) rfl) ?_
                      refine t_case 51 rfl ?_ ?_
                      · intro hg24
                        have hg24d := of_decide_eq_true hg24
                        refine t_no rfl rfl (by rw [hg24]; decide) ?_
                        refine t_no rfl rfl (by rw [hg24]; decide) ?_
                        refine t_no rfl rfl (by rw [hg24]; decide) ?_
                        refine t_q (q_pick_t rfl hg24) ?_
                        refine t_q (q_mv (.bool _) rfl) ?_
                        refine t_no rfl rfl (by decide) ?_
                        refine t_no rfl rfl (by decide) ?_
                        refine t_no rfl rfl (by decide) ?_
                        refine t_q (q_pick_t rfl rfl) ?_
                        refine t_q (q_mv (.bool _) rfl) ?_
                        refine t_no rfl rfl (by decide) ?_
                        refine t_no rfl rfl (by decide) ?_
                        refine t_no rfl rfl (by decide) ?_
                        refine t_q (q_pick_t rfl rfl) ?_
                        refine t_q (q_mv (.bool _) rfl) ?_
                        refine t_no rfl rfl (by decide) ?_
                        refine t_no rfl rfl (by decide) ?_
                        refine t_no rfl rfl (by decide) ?_
                        refine t_q (q_pick_t rfl rfl) ?_
                        refine t_q (q_mv (.bool _) rfl) ?_
                        refine t_no rfl rfl (by decide) ?_
                        refine t_no rfl rfl (by decide) ?_
                        refine t_no rfl rfl (by decide) ?_
                        refine t_q (q_pick_t rfl rfl) ?_
                        refine t_nil ?_
                        refine c_cond_t rfl rfl ?_
                        have hD := chk_5 (x := x) h1 h2 h3 h4 (fun ⟨a1, a2, a3, a4⟩ => by omega)
                        refine c_seq ?_
                        refine c_region ?_
                        refine t_q (q_assign) ?_
                        refine t_q (q_assign) ?_
                        refine t_nil ?_
                        refine c_ret ?_
                        refine r_two rfl rfl rfl ?_
                        rw [hD]
                        exact ⟨rfl, hS.nil⟩
                      · intro hg24
                        have hg24d := of_decide_eq_false hg24
                        refine t_yes rfl rfl hg24 ?_
                        refine t_q (q_fieldAddr 6 Tryd.runUnderlying42 rfl Tryd.sizeOf3 (by decide) rfl rfl) ?_
                        refine t_yes rfl rfl hg24 ?_
                        refine t_q (q_load1 Tryd.isAgg3 rfl (hS.cell (by repeat first | exact .here _ _ | assumption | apply Pick.there) rfl)) ?_
                        refine t_yes rfl rfl hg24 ?_
                        refine t_q (q_gtr rfl rfl) ?_
                        refine t_q (q_pick_f rfl hg24) ?_
                        refine t_q (q_mv (.bool _) rfl) ?_
                        refine t_case 56 rfl ?_ ?_
                        · intro hg26
                          have hg26d := of_decide_eq_true hg26
                          refine t_no rfl rfl (by rw [hg26]; decide) ?_
                          refine t_no rfl rfl (by rw [hg26]; decide) ?_
                          refine t_no rfl rfl (by rw [hg26]; decide) ?_
                          refine t_q (q_pick_t rfl hg26) ?_
                          refine t_q (q_mv (.bool _) rfl) ?_
                          refine t_no rfl rfl (by decide) ?_
                          refine t_no rfl rfl (by decide) ?_
                          refine t_no rfl rfl (by decide) ?_
                          refine t_q (q_pick_t rfl rfl) ?_
                          refine t_q (q_mv (.bool _) rfl) ?_
                          refine t_no rfl rfl (by decide) ?_
                          refine t_no rfl rfl (by decide) ?_
                          refine t_no rfl rfl (by decide) ?_
                          refine t_q (q_pick_t rfl rfl) ?_
                          refine t_q (q_mv (.bool _) rfl) ?_
                          refine t_no rfl rfl (by decide) ?_
                          refine t_no rfl rfl (by decide) ?_
                          refine t_no rfl rfl (by decide) ?_
                          refine t_q (q_pick_t rfl rfl) ?_
                          refine t_nil ?_
                          refine c_cond_t rfl rfl ?_
                          have hD := chk_5 (x := x) h1 h2 h3 h4 (fun ⟨a1, a2, a3, a4⟩ => by omega)
                          refine c_seq ?_
                          refine c_region ?_
                          refine t_q (q_assign) ?_
                          refine t_q (q_assign) ?_
                          refine t_nil ?_
                          refine c_ret ?_
                          refine r_two rfl rfl rfl ?_
                          rw [hD]
                          exact ⟨rfl, hS.nil⟩
                        · intro hg26
                          have hg26d := of_decide_eq_false hg26
                          refine t_yes rfl rfl hg26 ?_
                          refine t_q (q_fieldAddr 7 Tryd.runUnderlying42 rfl Tryd.sizeOf3 (by decide) rfl rfl) ?_
                          refine t_yes rfl rfl hg26 ?_
                          refine t_q (q_load1 Tryd.isAgg3 rfl (hS.cell (by repeat first | exact .here _ _ | assumption | apply Pick.there) rfl)) ?_
                          refine t_yes rfl rfl hg26 ?_
                          refine t_q (q_lss rfl rfl) ?_
                          refine t_q (q_pick_f rfl hg26) ?_
                          refine t_q (q_mv (.bool _) rfl) ?_
                          refine t_case 61 rfl ?_ ?_
                          · intro hg28
                            have hg28d := of_decide_eq_true hg28
                            refine t_no rfl rfl (by rw [hg28]; decide) ?_
                            refine t_no rfl rfl (by rw [hg28]; decide) ?_
                            refine t_no rfl rfl (by rw [hg28]; decide) ?_
                            refine t_q (q_pick_t rfl hg28) ?_
                            refine t_q (q_mv (.bool _) rfl) ?_
                            refine t_no rfl rfl (by decide) ?_
                            refine t_no rfl rfl (by decide) ?_
                            refine t_no rfl rfl (by decide) ?_
                            refine t_q (q_pick_t rfl rfl) ?_
                            refine t_q (q_mv (.bool _) rfl) ?_
                            refine t_no rfl rfl (by decide) ?_
                            refine t_no rfl rfl (by decide) ?_
                            refine t_no rfl rfl (by decide) ?_
                            refine t_q (q_pick_t rfl rfl) ?_
                            refine t_nil ?_
                            refine c_cond_t rfl rfl ?_
                            have hD := chk_5 (x := x) h1 h2 h3 h4 (fun ⟨a1, a2, a3, a4⟩ => by omega)
                            refine c_seq ?_
                            refine c_region ?_
                            refine t_q (q_assign) ?_
                            refine t_q (q_assign) ?_
                            refine t_nil ?_
                            refine c_ret ?_
                            refine r_two rfl rfl rfl ?_
                            rw [hD]
                            exact ⟨rfl, hS.nil⟩
                          · intro hg28
                            have hg28d := of_decide_eq_false hg28
                            refine t_yes rfl rfl hg28 ?_
                            refine t_q (q_fieldAddr 7 Tryd.runUnderlying42 rfl Tryd.sizeOf3 (by decide) rfl rfl) ?_
                            refine t_yes rfl rfl hg28 ?_
                            refine t_q (q_load1 Tryd.isAgg3 rfl (hS.cell (by repeat first | exact .here _ _ | assumption | apply Pick.there) rfl)) ?_
                            refine t_yes rfl rfl hg28 ?_
                            refine t_q (q_gtr rfl rfl) ?_
                            refine t_q (q_pick_f rfl hg28) ?_
                            refine t_q (q_mv (.bool _) rfl) ?_
                            refine t_case 66 rfl ?_ ?_
                            · intro hg30
                              have hg30d := of_decide_eq_true hg30
                              refine t_no rfl rfl (by rw [hg30]; decide) ?_
                              refine t_no rfl rfl (by rw [hg30]; decide) ?_
                              refine t_no rfl rfl (by rw [hg30]; decide) ?_
                              refine t_q (q_pick_t rfl hg30) ?_
                              refine t_q (q_mv (.bool _) rfl) ?_
                              refine t_no rfl rfl (by decide) ?_
                              refine t_no rfl rfl (by decide) ?_
                              refine t_no rfl rfl (by decide) ?_
                              refine t_q (q_pick_t rfl rfl) ?_
                              refine t_nil ?_
                              refine c_cond_t rfl rfl ?_
                              have hD := chk_5 (x := x) h1 h2 h3 h4 (fun ⟨a1, a2, a3, a4⟩ => by omega)
                              refine c_seq ?_
                              refine c_region ?_
                              refine t_q (q_assign) ?_
                              refine t_q (q_assign) ?_
                              refine t_nil ?_
                              refine c_ret ?_
                              refine r_two rfl rfl rfl ?_
                              rw [hD]
                              exact ⟨rfl, hS.nil⟩
                            · intro hg30
                              have hg30d := of_decide_eq_false hg30
                              refine t_yes rfl rfl hg30 ?_
                              refine t_q (q_fieldAddr 8 Tryd.runUnderlying42 rfl Tryd.sizeOf3 (by decide) rfl rfl) ?_
                              refine t_yes rfl rfl hg30 ?_
                              refine t_q (q_load1 Tryd.isAgg3 rfl (hS.cell (by repeat first | exact .here _ _ | assumption | apply Pick.there) rfl)) ?_
                              refine t_yes rfl rfl hg30 ?_
                              refine t_q (q_lss rfl rfl) ?_
                              refine t_q (q_pick_f rfl hg30) ?_
                              refine t_q (q_mv (.bool _) rfl) ?_
                              refine t_case 71 rfl ?_ ?_
                              · intro hg32
                                have hg32d := of_decide_eq_true hg32
                                refine t_no rfl rfl (by rw [hg32]; decide) ?_
                                refine t_no rfl rfl (by rw [hg32]; decide) ?_
                                refine t_no rfl rfl (by rw [hg32]; decide) ?_
                                refine t_q (q_pick_t rfl hg32) ?_
                                refine t_nil ?_
                                refine c_cond_t rfl rfl ?_
                                have hD := chk_5 (x := x) h1 h2 h3 h4 (fun ⟨a1, a2, a3, a4⟩ => by omega)
                                refine c_seq ?_
                                refine c_region ?_
                                refine t_q (q_assign) ?_
                                refine t_q (q_assign) ?_
                                refine t_nil ?_
                                refine c_ret ?_
                                refine r_two rfl rfl rfl ?_
                                rw [hD]
                                exact ⟨rfl, hS.nil⟩
                              · intro hg32
                                have hg32d := of_decide_eq_false hg32
                                refine t_yes rfl rfl hg32 ?_
                                refine t_q (q_fieldAddr 8 Tryd.runUnderlying42 rfl Tryd.sizeOf3 (by decide) rfl rfl) ?_
                                refine t_yes rfl rfl hg32 ?_
                                refine t_q (q_load1 Tryd.isAgg3 rfl (hS.cell (by repeat first | exact .here _ _ | assumption | apply Pick.there) rfl)) ?_
                                refine t_yes rfl rfl hg32 ?_
                                refine t_q (q_gtr rfl rfl) ?_
                                refine t_q (q_pick_f rfl hg32) ?_
                                refine t_nil ?_
                                refine c_cond rfl ?_ ?_
                                · intro hc34
                                  have hc34d := of_decide_eq_true hc34
                                  have hD := chk_5 (x := x) h1 h2 h3 h4 (fun ⟨a1, a2, a3, a4⟩ => by omega)
                                  refine c_seq ?_
                                  refine c_region ?_
                                  refine t_q (q_assign) ?_
                                  refine t_q (q_assign) ?_
                                  refine t_nil ?_
                                  refine c_ret ?_
                                  refine r_two rfl rfl rfl ?_
                                  rw [hD]
                                  exact ⟨rfl, hS.nil⟩
                                · intro hc34
                                  have hc34d := of_decide_eq_false hc34
                                  have hD := chk_6 (x := x) h1 h2 h3 h4 ⟨by omega, by omega, by omega, by omega⟩
                                  refine c_skip ?_
                                  refine c_seq ?_
                                  refine c_region ?_
                                  refine t_q (q_assign) ?_
                                  refine t_q (q_assign) ?_
                                  refine t_nil ?_
                                  refine c_ret ?_
                                  refine r_two rfl rfl rfl ?_
                                  rw [hD]
                                  exact ⟨rfl, hS.nil⟩
set_option maxRecDepth 100000 in
theorem qgoodr_calls {x : RuV} (hx : x.Gd W) : Calls Tryd.prog 37 #[.agg x.cells.toArray] W fun e w' => e = .returned (.bool (goodR x)) ∧ St W w' [] := by
  have hS := St.init W
  refine calls_of_wpE (args := [_]) Tryd.func37 rfl rfl rfl ?_
  refine c_seq ?_
  refine c_region ?_
  refine t_box (v := (.agg _)) rfl rfl hS (fun g1 w hS => ?_)
  refine t_q (q_assign) ?_
  refine t_nil ?_
  refine c_seq ?_
  refine c_region ?_
  refine t_q (q_load_blk Tryd.isAgg42 Tryd.sizeOf42 rfl (hS.blk (by repeat first | exact .here _ _ | assumption | apply Pick.there)) rfl) ?_
  refine t_call Tryd.call23 (qchk_calls (hx.st hS)) rfl ?_
  rintro e w ⟨rfl, hT⟩
  refine ⟨_, rfl, ?_⟩
  replace hS := hS.after hT
  refine t_q (q_mv (.tuple _) rfl) ?_
  refine t_q (q_extract rfl rfl) ?_
  refine t_q (q_extract rfl rfl) ?_
  refine t_q (q_as (.int _ _) rfl) ?_
  refine t_q (q_as (.int _ _) rfl) ?_
  refine t_nil ?_
  refine c_seq ?_
  refine c_region ?_
  refine t_q (q_mv (.int _ _) rfl) ?_
  refine t_q (q_eql rfl rfl) ?_
  refine t_q (q_as (.bool _) rfl) ?_
  refine t_nil ?_
  refine c_ret ?_
  refine r_one rfl rfl ?_
  exact ⟨rfl, hS.nil⟩
end Go.Proofs.YtcgagmojgjbfpaaDoor
