/- Registries: the document's. -/
import Derived.Test.YtmgobaojioaioaaWe
import Derived.Test.YtmgobaojioaioaaWb
namespace Go.Proofs.Ytmgobaojioaioaa
open Go Go.RowKit Go.Lib
variable {W : World}
def AtP (Y : List RuV) (v i : Int) : Prop := (i = -1 ∧ ∀ y ∈ Y, y.version ≠ v) ∨ ∃ j : Nat, i = (j : Int) ∧ j < Y.length ∧ (Y.getD j default).version = v
theorem at_no {Y : List RuV} {v i : Int} (h : AtP Y v i) (hi : i < 0) : rgF (Y.map nf) v = none := by
  rcases h with ⟨_, h⟩ | ⟨j, h, _⟩
  · refine rgF_none fun r hr => ?_
    obtain ⟨y, hy, rfl⟩ := List.mem_map.1 hr
    exact h y hy
  · omega
theorem at_yes {Y : List RuV} {v i : Int} (hs : Srt (Y.map nf)) (h : AtP Y v i) (hi : ¬ i < 0) : ∃ j : Nat, i = (j : Int) ∧ j < Y.length ∧ (Y.getD j default).version = v ∧ rgF (Y.map nf) v = some (nf (Y.getD j default)) := by
  rcases h with ⟨h, _⟩ | ⟨j, h, hj, hv⟩
  · omega
  · refine ⟨j, h, hj, hv, ?_⟩
    have := rgF_some hs (List.mem_map.2 ⟨_, getD_mem (d := default) hj, rfl⟩)
    rw [nf_ver, hv] at this
    exact this
theorem at_all {Y : List RuV} {v : Int} {j : Nat} (h : ∀ i, i < j → (Y.getD i default).version ≠ v) (hj : j = Y.length) : ∀ y ∈ Y, y.version ≠ v := fun y hy => by
  obtain ⟨i, hi, rfl⟩ := List.mem_iff_getElem.1 hy
  have := h i (by omega)
  rwa [List.getD_eq_getElem?_getD, List.getElem?_eq_getElem hi] at this
attribute [local irreducible] blkA rowA rdsA mapA regA
set_option maxRecDepth 100000 in
theorem qgat_calls {w : World} {R : List Asn} {q : Nat} {A : Option Addr} {c : Nat} {Y : List RuV} {v : Int} (hS : St W w (blkA q 141 [.slice A Y.length c] :: rowA 47 9 A Y.length c (Y.flatMap RuV.cells) :: R)) (hY16 : Y.length ≤ 16) : Calls Try.prog 78 #[.pointer (some ⟨q, 0, none⟩), .int .i64 v] w fun e w' => ∃ i, e = .returned (.int .i64 i) ∧ AtP Y v i ∧ St W w' (blkA q 141 [.slice A Y.length c] :: rowA 47 9 A Y.length c (Y.flatMap RuV.cells) :: R) := by
  refine calls_of_wpE (args := [_, _]) Try.func78 rfl rfl rfl ?_
  refine c_seq ?_
  refine c_region ?_
  refine t_q (q_assign) ?_
  refine t_nil ?_
  refine c_seq ?_
  refine c_seq ?_
  refine c_region ?_
  refine t_q (q_assign) ?_
  refine t_nil ?_
  refine c_block ?_
  refine c_loop [4, 5, 6, 7, 8, 9, 10, 11, 12, 13, 14, 15, 16, 17, 18, 19, 20, 21, 22, 23, 24, 25] (fun k σ w => ∃ j : Nat, σ 5 = .int .i64 (j : Int) ∧ j ≤ Y.length ∧ Y.length - j ≤ k ∧ (∀ i, i < j → (Y.getD i default).version ≠ v) ∧ St W w (blkA q 141 [.slice A Y.length c] :: rowA 47 9 A Y.length c (Y.flatMap RuV.cells) :: R)) (Y.length) rfl (⟨0, rfl, by omega, by omega, (fun i h => absurd h (by omega)), hS⟩) ?_
  skip
  rintro k σ w ⟨j, h5, hj, hk, hall, hS⟩
  refine c_know 5 h5 ?_
  clear h5
  refine c_seq ?_
  refine c_seq ?_
  refine c_region ?_
  refine t_q (q_mv (.int _ _) rfl) ?_
  refine t_q (q_mv (.pointer _) rfl) ?_
  refine t_q (q_nilCheck rfl) ?_
  refine t_q (q_fieldAddr 0 Try.runUnderlying141 rfl Try.sizeOf139 (by decide) rfl rfl) ?_
  refine t_q (q_load1 Try.isAgg139 rfl (hS.cell (by repeat first | exact .here _ _ | assumption | apply Pick.there) rfl)) ?_
  refine t_q (q_len_slice Try.runUnderlying139 rfl) ?_
  refine t_q (q_lss rfl rfl) ?_
  refine t_nil ?_
  refine c_cond rfl ?_ ?_
  · intro hc2
    have hc2d := of_decide_eq_true hc2
    refine c_skip ?_
    refine c_seq ?_
    refine c_block ?_
    refine c_seq ?_
    refine c_region ?_
    refine t_q (q_mv (.pointer _) rfl) ?_
    refine t_q (q_nilCheck rfl) ?_
    refine t_q (q_fieldAddr 0 Try.runUnderlying141 rfl Try.sizeOf139 (by decide) rfl rfl) ?_
    refine t_q (q_load1 Try.isAgg139 rfl (hS.cell (by repeat first | exact .here _ _ | assumption | apply Pick.there) rfl)) ?_
    refine t_q (q_mv (.int _ _) rfl) ?_
    first | refine t_index_nat Try.runUnderlying139 Try.sizeOf47 (hS.rowRdL (l := Y) (A := A) (c := c) (by repeat first | exact .here _ _ | assumption | apply Pick.there) rfl (fun _ => rfl)) rfl rfl (by omega) (fun ad3 hl3 hx3 => ?_) | refine t_index Try.runUnderlying139 Try.sizeOf47 (hS.rowRdL (l := Y) (A := A) (c := c) (by repeat first | exact .here _ _ | assumption | apply Pick.there) rfl (fun _ => rfl)) rfl rfl (by omega) (fun ad3 hl3 hx3 => ?_)
    refine t_q (q_fieldAddr 0 Try.runUnderlying47 rfl Try.sizeOf3 (by decide) rfl rfl) ?_
    refine t_q (q_load1 Try.isAgg3 rfl (hx3 0 _ rfl)) ?_
    refine t_q (q_mv (.int _ _) rfl) ?_
    refine t_q (q_eql rfl rfl) ?_
    refine t_nil ?_
    refine c_cond rfl ?_ ?_
    · intro hc5
      have hc5d := of_decide_eq_true hc5
      have hv := hc5d
      refine c_seq ?_
      refine c_region ?_
      refine t_q (q_mv (.int _ _) rfl) ?_
      refine t_q (q_as (.int _ _) rfl) ?_
      refine t_nil ?_
      refine c_ret ?_
      refine r_one rfl rfl ?_
      first
        | exact ⟨_, rfl, .inr ⟨j, rfl, by omega, hv⟩, ((hS.pick (A := rowA 47 9 A Y.length c (Y.flatMap RuV.cells)) (by repeat first | exact .here _ _ | assumption | apply Pick.there)).pick (A := blkA q 141 [.slice A Y.length c]) (by repeat first | exact .here _ _ | assumption | apply Pick.there))⟩
        | exact ⟨_, rfl, .inl ⟨rfl, at_all hall (by omega)⟩, ((hS.pick (A := rowA 47 9 A Y.length c (Y.flatMap RuV.cells)) (by repeat first | exact .here _ _ | assumption | apply Pick.there)).pick (A := blkA q 141 [.slice A Y.length c]) (by repeat first | exact .here _ _ | assumption | apply Pick.there))⟩
    · intro hc5
      have hc5d := of_decide_eq_false hc5
      have hne := hc5d
      refine c_skip ?_
      refine c_region ?_
      refine t_q (q_mv (.int _ _) rfl) ?_
      refine t_q (q_add_i64 rfl rfl (by omega)) ?_
      refine t_q (q_as (.int _ _) rfl) ?_
      refine t_nil ?_
      exact ⟨k - 1, by omega, j + 1, rfl, by omega, by omega, (fun i hi => by
        rcases Nat.lt_or_ge i j with h | h
        · exact hall i h
        · obtain rfl : i = j := by omega
          exact hne), ((hS.pick (A := rowA 47 9 A Y.length c (Y.flatMap RuV.cells)) (by repeat first | exact .here _ _ | assumption | apply Pick.there)).pick (A := blkA q 141 [.slice A Y.length c]) (by repeat first | exact .here _ _ | assumption | apply Pick.there))⟩
  · intro hc2
    have hc2d := of_decide_eq_false hc2
    refine c_exit ?_
    refine ite_t rfl ?_
    refine c_seq ?_
    refine c_region ?_
    refine t_q (q_assign) ?_
    refine t_nil ?_
    refine c_ret ?_
    refine r_one rfl rfl ?_
    first
      | exact ⟨_, rfl, .inr ⟨j, rfl, by omega, hv⟩, ((hS.pick (A := rowA 47 9 A Y.length c (Y.flatMap RuV.cells)) (by repeat first | exact .here _ _ | assumption | apply Pick.there)).pick (A := blkA q 141 [.slice A Y.length c]) (by repeat first | exact .here _ _ | assumption | apply Pick.there))⟩
      | exact ⟨_, rfl, .inl ⟨rfl, at_all hall (by omega)⟩, ((hS.pick (A := rowA 47 9 A Y.length c (Y.flatMap RuV.cells)) (by repeat first | exact .here _ _ | assumption | apply Pick.there)).pick (A := blkA q 141 [.slice A Y.length c]) (by repeat first | exact .here _ _ | assumption | apply Pick.there))⟩
set_option maxRecDepth 100000 in
theorem qgnew_calls {w : World} {R : List Asn} {ps : List RdP} {x : RuV} (hS : St W w (rdsA ps :: R)) (hb : RuBy W ps x) : Calls Try.prog 55 #[.agg x.cells.toArray] w fun e w' => ∃ q A c, e = .returned (.tuple #[.pointer (some ⟨q, 0, none⟩), .bool (goodR x)]) ∧ St W w' (blkA q 141 [.slice A [x].length c] :: rowA 47 9 A [x].length c ([x].flatMap RuV.cells) :: rdsA ps :: R) := by
  refine calls_of_wpE (args := [_]) Try.func55 rfl rfl rfl ?_
  refine c_seq ?_
  refine c_region ?_
  refine t_box (v := (.agg _)) rfl rfl hS (fun g1 w hS => ?_)
  replace hS := hS.recast (show _ = blkA g1 47 [.int .i64 x.version, .slice x.ticks.A x.ticks.l.length x.ticks.c, .int .i64 x.lot, .int .i64 x.band, .slice x.fees.A x.fees.l.length x.fees.c, .int .i64 x.round, .int .i64 x.priority, .int .i64 x.self, .int .i64 x.layout] from rfl)
  refine t_q (q_assign) ?_
  refine t_q (q_assign) ?_
  refine t_nil ?_
  refine c_seq ?_
  refine c_draw ?_
  refine d_keep (blkA g1 47 [.int .i64 x.version, .slice x.ticks.A x.ticks.l.length x.ticks.c, .int .i64 x.lot, .int .i64 x.band, .slice x.fees.A x.fees.l.length x.fees.c, .int .i64 x.round, .int .i64 x.priority, .int .i64 x.self, .int .i64 x.layout]) 8 [0, 1, 2, 3, 4, 5, 6, 7] [0, 1, 2, 3, 4, 5, 6, 7] hS rfl (by kernel_rfl) (by kernel_rfl) (by kernel_rfl) (by kernel_rfl) (fun hap hsel w hS => ?_)
  refine p_q hap hsel 0 rfl rfl ⟨_, hS.pick (by repeat first | exact .here _ _ | assumption | apply Pick.there)⟩ (fun w hI => (q_cast (v' := .agg x.cells.toArray) (q_load_blk Try.isAgg47 Try.sizeOf47 rfl (hI.choose_spec.blk (by repeat first | exact .here _ _ | assumption | apply Pick.there)) rfl) (by rfl))) ?_
  refine p_q hap hsel 4 rfl rfl ⟨_, hS.pick (by repeat first | exact .here _ _ | assumption | apply Pick.there)⟩ (fun w hI => (q_cast (v' := .agg x.cells.toArray) (q_load_blk Try.isAgg47 Try.sizeOf47 rfl (hI.choose_spec.blk (by repeat first | exact .here _ _ | assumption | apply Pick.there)) rfl) (by rfl))) ?_
  refine p_two 1 5 rfl rfl (by kernel_rfl) ?_ ?_
  ·
    refine t_buildSlice Try.runUnderlying139 Try.sizeOf47 Try.zeroValue47 rfl rfl (by intro v hv; simp at hv; try (first | (subst hv; rfl) | (rcases hv with rfl | rfl <;> rfl))) (by decide) (by decide) hS (fun g5 w hS => ?_)
    replace hS := hS.recast (show _ = rowA 47 9 (some ⟨g5, 0, none⟩) [x].length 1 ([x].flatMap RuV.cells) from rfl)
    refine t_nil ?_
    refine ⟨.inr ⟨_, hS.pick (by repeat first | exact .here _ _ | assumption | apply Pick.there)⟩, ?_⟩
    refine p_q hap hsel 2 rfl rfl ⟨_, hS.pick (by repeat first | exact .here _ _ | assumption | apply Pick.there)⟩ (fun w hI => q_build (qs := [(0, 1)]) [(.slice _ _ _)] Try.zeroValue141 Try.runUnderlying141 ⟨rfl, Try.sizeOf139, trivial⟩ rfl rfl) ?_
    refine p_two 3 5 rfl rfl (by kernel_rfl) ?_ ?_
    ·
      refine t_box (v := (.agg _)) rfl rfl hS (fun g7 w hS => ?_)
      replace hS := hS.recast (show _ = blkA g7 141 [.slice (some ⟨g5, 0, none⟩) [x].length 1] from rfl)
      refine t_nil ?_
      refine ⟨.inr ⟨_, hS.pick (by repeat first | exact .here _ _ | assumption | apply Pick.there)⟩, ?_⟩
      refine p_one 5 rfl (by kernel_rfl) ?_
      refine t_call Try.call77 (qgoodr_calls (x := x) (hb.gd hS (by repeat first | exact .here _ _ | assumption | apply Pick.there))) rfl ?_
      rintro e w ⟨rfl, hT⟩
      refine ⟨_, rfl, ?_⟩
      replace hS := hS.after hT
      refine t_nil ?_
      refine ⟨.inr ⟨_, hS.pick (by repeat first | exact .here _ _ | assumption | apply Pick.there)⟩, ?_⟩
      refine p_q hap hsel 6 rfl rfl ⟨_, hS.pick (by repeat first | exact .here _ _ | assumption | apply Pick.there)⟩ (fun w hI => q_as (.pointer _) rfl) ?_
      refine p_q hap hsel 7 rfl rfl ⟨_, hS.pick (by repeat first | exact .here _ _ | assumption | apply Pick.there)⟩ (fun w hI => q_as (.bool _) rfl) ?_
      refine p_end (by kernel_rfl) ?_
      refine c_ret ?_
      refine r_two rfl rfl rfl ?_
      exact ⟨g7, _, _, rfl, ((((hS.pick (A := blkA g1 47 _) (by repeat first | exact .here _ _ | assumption | apply Pick.there)).drop.pick (A := rdsA ps) (by repeat first | exact .here _ _ | assumption | apply Pick.there)).pick (A := rowA 47 9 (some ⟨g5, 0, none⟩) [x].length 1 ([x].flatMap RuV.cells)) (by repeat first | exact .here _ _ | assumption | apply Pick.there)).pick (A := blkA g7 141 [.slice (some ⟨g5, 0, none⟩) [x].length 1]) (by repeat first | exact .here _ _ | assumption | apply Pick.there))⟩
    ·
      refine t_call Try.call77 (qgoodr_calls (x := x) (hb.gd hS (by repeat first | exact .here _ _ | assumption | apply Pick.there))) rfl ?_
      rintro e w ⟨rfl, hT⟩
      refine ⟨_, rfl, ?_⟩
      replace hS := hS.after hT
      refine t_nil ?_
      refine ⟨.inr ⟨_, hS.pick (by repeat first | exact .here _ _ | assumption | apply Pick.there)⟩, ?_⟩
      refine p_one 3 rfl (by kernel_rfl) ?_
      refine t_box (v := (.agg _)) rfl rfl hS (fun g7 w hS => ?_)
      replace hS := hS.recast (show _ = blkA g7 141 [.slice (some ⟨g5, 0, none⟩) [x].length 1] from rfl)
      refine t_nil ?_
      refine ⟨.inr ⟨_, hS.pick (by repeat first | exact .here _ _ | assumption | apply Pick.there)⟩, ?_⟩
      refine p_q hap hsel 6 rfl rfl ⟨_, hS.pick (by repeat first | exact .here _ _ | assumption | apply Pick.there)⟩ (fun w hI => q_as (.pointer _) rfl) ?_
      refine p_q hap hsel 7 rfl rfl ⟨_, hS.pick (by repeat first | exact .here _ _ | assumption | apply Pick.there)⟩ (fun w hI => q_as (.bool _) rfl) ?_
      refine p_end (by kernel_rfl) ?_
      refine c_ret ?_
      refine r_two rfl rfl rfl ?_
      exact ⟨g7, _, _, rfl, ((((hS.pick (A := blkA g1 47 _) (by repeat first | exact .here _ _ | assumption | apply Pick.there)).drop.pick (A := rdsA ps) (by repeat first | exact .here _ _ | assumption | apply Pick.there)).pick (A := rowA 47 9 (some ⟨g5, 0, none⟩) [x].length 1 ([x].flatMap RuV.cells)) (by repeat first | exact .here _ _ | assumption | apply Pick.there)).pick (A := blkA g7 141 [.slice (some ⟨g5, 0, none⟩) [x].length 1]) (by repeat first | exact .here _ _ | assumption | apply Pick.there))⟩
  ·
    refine t_call Try.call77 (qgoodr_calls (x := x) (hb.gd hS (by repeat first | exact .here _ _ | assumption | apply Pick.there))) rfl ?_
    rintro e w ⟨rfl, hT⟩
    refine ⟨_, rfl, ?_⟩
    replace hS := hS.after hT
    refine t_nil ?_
    refine ⟨.inr ⟨_, hS.pick (by repeat first | exact .here _ _ | assumption | apply Pick.there)⟩, ?_⟩
    refine p_one 1 rfl (by kernel_rfl) ?_
    refine t_buildSlice Try.runUnderlying139 Try.sizeOf47 Try.zeroValue47 rfl rfl (by intro v hv; simp at hv; try (first | (subst hv; rfl) | (rcases hv with rfl | rfl <;> rfl))) (by decide) (by decide) hS (fun g5 w hS => ?_)
    replace hS := hS.recast (show _ = rowA 47 9 (some ⟨g5, 0, none⟩) [x].length 1 ([x].flatMap RuV.cells) from rfl)
    refine t_nil ?_
    refine ⟨.inr ⟨_, hS.pick (by repeat first | exact .here _ _ | assumption | apply Pick.there)⟩, ?_⟩
    refine p_q hap hsel 2 rfl rfl ⟨_, hS.pick (by repeat first | exact .here _ _ | assumption | apply Pick.there)⟩ (fun w hI => q_build (qs := [(0, 1)]) [(.slice _ _ _)] Try.zeroValue141 Try.runUnderlying141 ⟨rfl, Try.sizeOf139, trivial⟩ rfl rfl) ?_
    refine p_one 3 rfl (by kernel_rfl) ?_
    refine t_box (v := (.agg _)) rfl rfl hS (fun g7 w hS => ?_)
    replace hS := hS.recast (show _ = blkA g7 141 [.slice (some ⟨g5, 0, none⟩) [x].length 1] from rfl)
    refine t_nil ?_
    refine ⟨.inr ⟨_, hS.pick (by repeat first | exact .here _ _ | assumption | apply Pick.there)⟩, ?_⟩
    refine p_q hap hsel 6 rfl rfl ⟨_, hS.pick (by repeat first | exact .here _ _ | assumption | apply Pick.there)⟩ (fun w hI => q_as (.pointer _) rfl) ?_
    refine p_q hap hsel 7 rfl rfl ⟨_, hS.pick (by repeat first | exact .here _ _ | assumption | apply Pick.there)⟩ (fun w hI => q_as (.bool _) rfl) ?_
    refine p_end (by kernel_rfl) ?_
    refine c_ret ?_
    refine r_two rfl rfl rfl ?_
    exact ⟨g7, _, _, rfl, ((((hS.pick (A := blkA g1 47 _) (by repeat first | exact .here _ _ | assumption | apply Pick.there)).drop.pick (A := rdsA ps) (by repeat first | exact .here _ _ | assumption | apply Pick.there)).pick (A := rowA 47 9 (some ⟨g5, 0, none⟩) [x].length 1 ([x].flatMap RuV.cells)) (by repeat first | exact .here _ _ | assumption | apply Pick.there)).pick (A := blkA g7 141 [.slice (some ⟨g5, 0, none⟩) [x].length 1]) (by repeat first | exact .here _ _ | assumption | apply Pick.there))⟩
end Go.Proofs.Ytmgobaojioaioaa
