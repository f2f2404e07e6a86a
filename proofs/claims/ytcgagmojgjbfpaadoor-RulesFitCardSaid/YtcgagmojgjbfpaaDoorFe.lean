/- Rules: the chapter's example; whether an error is the one with that number, by that layer. -/
import Derived.Test.YtcgagmojgjbfpaaDoorFd
namespace Go.Proofs.YtcgagmojgjbfpaaDoor
open Go Go.RowKit Go.Lib
variable {W : World}
attribute [local irreducible] blkA rowA rdsA
set_option maxRecDepth 100000 in
theorem basic9_calls : Calls Tryd.prog 44 #[] W fun e w' => ∃ A c B d, e = .returned (.agg (bas9 A c B d).cells.toArray) ∧ St W w' [rowA 54 2 A 1 c [.int .i64 0, .int .i64 5], rowA 56 3 B 1 d [.int .i64 0, .int .i64 100, .int .i64 200]] := by
  have hS := St.init W
  refine calls_of_wpE (args := []) Tryd.func44 rfl rfl rfl ?_
  refine c_seq ?_
  refine c_region ?_
  refine t_alloc Tryd.zeroValue42 rfl hS (fun g0 w hS => ?_)
  refine t_nil ?_
  refine c_seq ?_
  refine c_region ?_
  refine t_q (q_build (qs := [(0, 1), (1, 1)]) [(.int _ _), (.int _ _)] Tryd.zeroValue54 Tryd.runUnderlying54 ⟨rfl, Tryd.sizeOf2, rfl, Tryd.sizeOf2, trivial⟩ rfl rfl) ?_
  refine t_buildSlice Tryd.runUnderlying39 Tryd.sizeOf54 Tryd.zeroValue54 rfl rfl (by intro v hv; simp at hv; try (first | (subst hv; rfl) | (rcases hv with rfl | rfl <;> rfl))) (by decide) (by decide) hS (fun g2 w hS => ?_)
  replace hS := hS.recast (show _ = rowA 54 2 (some ⟨g2, 0, none⟩) 1 1 [.int .i64 0, .int .i64 5] from rfl)
  refine t_q (q_build (qs := [(0, 1), (1, 1), (2, 1)]) [(.int _ _), (.int _ _), (.int _ _)] Tryd.zeroValue56 Tryd.runUnderlying56 ⟨rfl, Tryd.sizeOf2, rfl, Tryd.sizeOf2, rfl, Tryd.sizeOf2, trivial⟩ rfl rfl) ?_
  refine t_buildSlice Tryd.runUnderlying40 Tryd.sizeOf56 Tryd.zeroValue56 rfl rfl (by intro v hv; simp at hv; try (first | (subst hv; rfl) | (rcases hv with rfl | rfl <;> rfl))) (by decide) (by decide) hS (fun g4 w hS => ?_)
  replace hS := hS.recast (show _ = rowA 56 3 (some ⟨g4, 0, none⟩) 1 1 [.int .i64 0, .int .i64 100, .int .i64 200] from rfl)
  refine t_q (q_build (qs := [(0, 1), (1, 1), (2, 1), (3, 1), (4, 1), (5, 1), (6, 1), (7, 1), (8, 1)]) [(.int _ _), (.slice _ _ _), (.int _ _), (.int _ _), (.slice _ _ _), (.int _ _), (.int _ _), (.int _ _), (.int _ _)] Tryd.zeroValue42 Tryd.runUnderlying42 ⟨rfl, Tryd.sizeOf3, rfl, Tryd.sizeOf39, rfl, Tryd.sizeOf2, rfl, Tryd.sizeOf2, rfl, Tryd.sizeOf40, rfl, Tryd.sizeOf3, rfl, Tryd.sizeOf3, rfl, Tryd.sizeOf3, rfl, Tryd.sizeOf3, trivial⟩ rfl rfl) ?_
  refine t_store (v := (.agg _)) Tryd.sizeOf42 hS (by repeat first | exact .here _ _ | assumption | apply Pick.there) rfl rfl rfl rfl rfl rfl (fun w hS => ?_)
  replace hS := hS.recast (congrArg (blkA g0 42) (rset_full (vs := (bas9 (some ⟨g2, 0, none⟩) 1 (some ⟨g4, 0, none⟩) 1).cells) rfl))
  refine t_nil ?_
  refine c_ret ?_
  refine r_one rfl (res1_cellN Tryd.isAgg42 Tryd.sizeOf42 rfl (hS.blk (by repeat first | exact .here _ _ | assumption | apply Pick.there)) rfl) ?_
  exact ⟨some ⟨g2, 0, none⟩, 1, some ⟨g4, 0, none⟩, 1, rfl, ((hS.pick (A := rowA 56 3 (some ⟨g4, 0, none⟩) 1 1 [.int .i64 0, .int .i64 100, .int .i64 200]) (by repeat first | exact .here _ _ | assumption | apply Pick.there)).pick (A := rowA 54 2 (some ⟨g2, 0, none⟩) 1 1 [.int .i64 0, .int .i64 5]) (by repeat first | exact .here _ _ | assumption | apply Pick.there)).front2⟩
set_option maxHeartbeats 2000000 in
set_option maxRecDepth 100000 in
theorem r9lives_calls (hE : EtOk W) : Calls Tryd.prog 22 #[] W fun e w' => e = .returned (.bool true) ∧ St W w' [] := by
  have hS := St.init W
  refine calls_of_wpE (args := []) Tryd.func22 rfl rfl rfl ?_
  refine c_seq ?_
  refine c_region ?_
  refine t_q (q_assign) ?_
  refine t_nil ?_
  refine c_seq ?_
  refine c_region ?_
  refine t_call Tryd.call44 (basic9_calls) rfl ?_
  rintro e w ⟨A1, c1, B1, d1, rfl, hT⟩
  refine ⟨_, rfl, ?_⟩
  have hS : St W w (_ :: _) := hS.lift hT
  refine t_call Tryd.call27 (fits0_calls (bas9_gd (A := A1) (c := c1) (B := B1) (d := d1) (rowRdTk hS (by repeat first | exact .here _ _ | assumption | apply Pick.there) rfl) (rowRdTr hS (by repeat first | exact .here _ _ | assumption | apply Pick.there) rfl)) (side := 1) (kind := 1) (price := 12) (qty := 10) (by decide)) rfl ?_
  rintro e w ⟨v1, ps1, rfl, hv1, hT⟩
  refine ⟨_, rfl, ?_⟩
  have hS : St W w (_ :: _) := hS.lift hT
  replace hv1 : ErrL ps1 v1 ([(9, 0), (6, 40)]) := by rw [fit_12] at hv1; exact hv1
  refine t_q (q_as v1 rfl) ?_
  refine t_nil ?_
  refine c_seq ?_
  refine c_region ?_
  refine t_call Tryd.call44 (basic9_calls) rfl ?_
  rintro e w ⟨A2, c2, B2, d2, rfl, hT⟩
  refine ⟨_, rfl, ?_⟩
  have hS : St W w (_ :: _) := hS.lift hT
  refine t_call Tryd.call27 (fits0_calls (bas9_gd (A := A2) (c := c2) (B := B2) (d := d2) (rowRdTk hS (by repeat first | exact .here _ _ | assumption | apply Pick.there) rfl) (rowRdTr hS (by repeat first | exact .here _ _ | assumption | apply Pick.there) rfl)) (side := 1) (kind := 1) (price := 15) (qty := 15) (by decide)) rfl ?_
  rintro e w ⟨v2, ps2, rfl, hv2, hT⟩
  refine ⟨_, rfl, ?_⟩
  have hS : St W w (_ :: _) := hS.lift hT
  replace hv2 : ErrL ps2 v2 ([(9, 0), (7, 41)]) := by rw [fit_15] at hv2; exact hv2
  refine t_q (q_as v2 rfl) ?_
  refine t_nil ?_
  refine c_seq ?_
  refine c_region ?_
  refine t_q (q_mv v1 rfl) ?_
  refine t_call Tryd.call14 (layers_calls hE (hS.pick (A := rdsA ps1) (by repeat first | exact .here _ _ | assumption | apply Pick.there)) hv1 (by decide)) rfl ?_
  rintro e w ⟨A10, c10, rfl, hS⟩
  refine ⟨_, rfl, ?_⟩
  refine t_q (q_mv v2 rfl) ?_
  refine t_call Tryd.call14 (layers_calls hE (hS.pick (A := rdsA ps2) (by repeat first | exact .here _ _ | assumption | apply Pick.there)) hv2 (by decide)) rfl ?_
  rintro e w ⟨A12, c12, rfl, hS⟩
  refine ⟨_, rfl, ?_⟩
  refine t_q (q_as (.slice _ _ _) rfl) ?_
  refine t_q (q_as (.slice _ _ _) rfl) ?_
  refine t_nil ?_
  refine c_seq ?_
  refine c_region ?_
  refine t_call Tryd.call44 (basic9_calls) rfl ?_
  rintro e w ⟨A3, c3, B3, d3, rfl, hT⟩
  refine ⟨_, rfl, ?_⟩
  have hS : St W w (_ :: _) := hS.lift hT
  refine t_call Tryd.call25 (rcheck_calls (bas9_gd (A := A3) (c := c3) (B := B3) (d := d3) (rowRdTk hS (by repeat first | exact .here _ _ | assumption | apply Pick.there) rfl) (rowRdTr hS (by repeat first | exact .here _ _ | assumption | apply Pick.there) rfl))) rfl ?_
  rintro e w ⟨v3, rfl, hIf, hn3, hT⟩
  refine ⟨_, rfl, ?_⟩
  replace hS := hS.after hT
  rw [bas9_good] at hn3
  refine t_q (q_cast (v' := .bool true) (q_eql_iface_nil Tryd.runUnderlying24 rfl (hIf)) (congrArg Value.bool hn3)) ?_
  refine t_q (q_mv (.bool _) rfl) ?_
  refine t_yes rfl rfl rfl ?_
  refine t_q (q_mv v1 rfl) ?_
  refine t_yes rfl rfl rfl ?_
  refine t_call Tryd.call15 (code_calls hE (hS.pick (A := rdsA ps1) (by repeat first | exact .here _ _ | assumption | apply Pick.there)) hv1 (by decide)) rfl ?_
  rintro e w ⟨rfl, hS⟩
  refine ⟨_, rfl, ?_⟩
  refine t_yes rfl rfl rfl ?_
  refine t_q (q_cast (v' := .bool true) (q_eql rfl rfl) (by rfl)) ?_
  refine t_q (q_pick_t rfl rfl) ?_
  refine t_q (q_mv (.bool _) rfl) ?_
  refine t_yes rfl rfl rfl ?_
  refine t_q (q_mv (.slice _ _ _) rfl) ?_
  refine t_yes rfl rfl rfl ?_
  refine t_q (q_len_slice Tryd.runUnderlying22 rfl) ?_
  refine t_yes rfl rfl rfl ?_
  refine t_q (q_cast (v' := .bool true) (q_eql rfl rfl) (by rfl)) ?_
  refine t_q (q_pick_t rfl rfl) ?_
  refine t_q (q_mv (.bool _) rfl) ?_
  refine t_yes rfl rfl rfl ?_
  refine t_q (q_mv (.slice _ _ _) rfl) ?_
  refine t_yes rfl rfl rfl ?_
  first | refine t_index_nat Tryd.runUnderlying22 Tryd.sizeOf3 ((hS.rowInts (ns := layF [(9, 0), (6, 40)]) (A := A10) (c := c10) (by repeat first | exact .here _ _ | assumption | apply Pick.there) rfl)) rfl rfl (by show (0 : Int) ≤ 0 ∧ (0 : Int) < 2; decide) (fun ad13 hl13 hx13 => ?_) | refine t_index Tryd.runUnderlying22 Tryd.sizeOf3 ((hS.rowInts (ns := layF [(9, 0), (6, 40)]) (A := A10) (c := c10) (by repeat first | exact .here _ _ | assumption | apply Pick.there) rfl)) rfl rfl (by show (0 : Int) ≤ 0 ∧ (0 : Int) < 2; decide) (fun ad13 hl13 hx13 => ?_)
  refine t_yes rfl rfl rfl ?_
  refine t_q (q_load1 Tryd.isAgg3 rfl (hx13 0 _ rfl)) ?_
  refine t_yes rfl rfl rfl ?_
  refine t_q (q_cast (v' := .bool true) (q_eql rfl rfl) (by rfl)) ?_
  refine t_q (q_pick_t rfl rfl) ?_
  refine t_q (q_mv (.bool _) rfl) ?_
  refine t_yes rfl rfl rfl ?_
  refine t_q (q_mv (.slice _ _ _) rfl) ?_
  refine t_yes rfl rfl rfl ?_
  first | refine t_index_nat Tryd.runUnderlying22 Tryd.sizeOf3 ((hS.rowInts (ns := layF [(9, 0), (6, 40)]) (A := A10) (c := c10) (by repeat first | exact .here _ _ | assumption | apply Pick.there) rfl)) rfl rfl (by show (0 : Int) ≤ 1 ∧ (1 : Int) < 2; decide) (fun ad15 hl15 hx15 => ?_) | refine t_index Tryd.runUnderlying22 Tryd.sizeOf3 ((hS.rowInts (ns := layF [(9, 0), (6, 40)]) (A := A10) (c := c10) (by repeat first | exact .here _ _ | assumption | apply Pick.there) rfl)) rfl rfl (by show (0 : Int) ≤ 1 ∧ (1 : Int) < 2; decide) (fun ad15 hl15 hx15 => ?_)
  refine t_yes rfl rfl rfl ?_
  refine t_q (q_load1 Tryd.isAgg3 rfl (hx15 0 _ rfl)) ?_
  refine t_yes rfl rfl rfl ?_
  refine t_q (q_cast (v' := .bool true) (q_eql rfl rfl) (by rfl)) ?_
  refine t_q (q_pick_t rfl rfl) ?_
  refine t_q (q_mv (.bool _) rfl) ?_
  refine t_yes rfl rfl rfl ?_
  refine t_q (q_mv v2 rfl) ?_
  refine t_yes rfl rfl rfl ?_
  refine t_call Tryd.call15 (code_calls hE (hS.pick (A := rdsA ps2) (by repeat first | exact .here _ _ | assumption | apply Pick.there)) hv2 (by decide)) rfl ?_
  rintro e w ⟨rfl, hS⟩
  refine ⟨_, rfl, ?_⟩
  refine t_yes rfl rfl rfl ?_
  refine t_q (q_cast (v' := .bool true) (q_eql rfl rfl) (by rfl)) ?_
  refine t_q (q_pick_t rfl rfl) ?_
  refine t_q (q_mv (.bool _) rfl) ?_
  refine t_yes rfl rfl rfl ?_
  refine t_q (q_mv (.slice _ _ _) rfl) ?_
  refine t_yes rfl rfl rfl ?_
  refine t_q (q_len_slice Tryd.runUnderlying22 rfl) ?_
  refine t_yes rfl rfl rfl ?_
  refine t_q (q_cast (v' := .bool true) (q_eql rfl rfl) (by rfl)) ?_
  refine t_q (q_pick_t rfl rfl) ?_
  refine t_q (q_mv (.bool _) rfl) ?_
  refine t_yes rfl rfl rfl ?_
  refine t_q (q_mv (.slice _ _ _) rfl) ?_
  refine t_yes rfl rfl rfl ?_
  first | refine t_index_nat Tryd.runUnderlying22 Tryd.sizeOf3 ((hS.rowInts (ns := layF [(9, 0), (7, 41)]) (A := A12) (c := c12) (by repeat first | exact .here _ _ | assumption | apply Pick.there) rfl)) rfl rfl (by show (0 : Int) ≤ 1 ∧ (1 : Int) < 2; decide) (fun ad20 hl20 hx20 => ?_) | refine t_index Tryd.runUnderlying22 Tryd.sizeOf3 ((hS.rowInts (ns := layF [(9, 0), (7, 41)]) (A := A12) (c := c12) (by repeat first | exact .here _ _ | assumption | apply Pick.there) rfl)) rfl rfl (by show (0 : Int) ≤ 1 ∧ (1 : Int) < 2; decide) (fun ad20 hl20 hx20 => ?_)
  refine t_yes rfl rfl rfl ?_
  refine t_q (q_load1 Tryd.isAgg3 rfl (hx20 0 _ rfl)) ?_
  refine t_yes rfl rfl rfl ?_
  refine t_q (q_cast (v' := .bool true) (q_eql rfl rfl) (by rfl)) ?_
  refine t_q (q_pick_t rfl rfl) ?_
  refine t_q (q_mv (.bool _) rfl) ?_
  refine t_yes rfl rfl rfl ?_
  refine t_call Tryd.call44 (basic9_calls) rfl ?_
  rintro e w ⟨A4, c4, B4, d4, rfl, hT⟩
  refine ⟨_, rfl, ?_⟩
  have hS : St W w (_ :: _) := hS.lift hT
  refine t_yes rfl rfl rfl ?_
  refine t_call Tryd.call27 (fits0_calls (bas9_gd (A := A4) (c := c4) (B := B4) (d := d4) (rowRdTk hS (by repeat first | exact .here _ _ | assumption | apply Pick.there) rfl) (rowRdTr hS (by repeat first | exact .here _ _ | assumption | apply Pick.there) rfl)) (side := 2) (kind := 1) (price := 15) (qty := 20) (by decide)) rfl ?_
  rintro e w ⟨v4, ps4, rfl, hv4, hT⟩
  refine ⟨_, rfl, ?_⟩
  have hS : St W w (_ :: _) := hS.lift hT
  replace hv4 : ErrL ps4 v4 ([]) := by rw [fit_20] at hv4; exact hv4
  obtain rfl : v4 = .nilIface := hv4
  refine t_yes rfl rfl rfl ?_
  refine t_q (q_cast (v' := .bool true) (q_eql_iface_nil Tryd.runUnderlying24 rfl (.inl rfl)) (by rfl)) ?_
  refine t_q (q_pick_t rfl rfl) ?_
  refine t_q (q_as (.bool _) rfl) ?_
  refine t_nil ?_
  refine c_ret ?_
  refine r_one rfl rfl ?_
  exact ⟨rfl, hS.nil⟩
end Go.Proofs.YtcgagmojgjbfpaaDoor
