/- States: stepped, due, turned back. -/
import Derived.Test.YtmgobaojioaioaaVk
import Derived.Test.YtmgobaojioaioaaWb
import Derived.Test.YtmgobaojioaioaaAk
import Derived.Test.YtmgobaojioaioaaVa
namespace Go.Proofs.Ytmgobaojioaioaa
open Go Go.RowKit Go.Lib
variable {W : World}
structure StV where
  active : Int
  previous : Int
  pending : Int
  at_ : Int
  shadow : Int
instance : Inhabited StV := ⟨⟨0, 0, 0, 0, 0⟩⟩
def StV.cells (x : StV) : List Value := [.int .i64 x.active, .int .i64 x.previous, .int .i64 x.pending, .int .u64 x.at_, .int .i64 x.shadow]
structure StV.Ok (w : World) (x : StV) : Prop where
  active : -9223372036854775808 ≤ x.active ∧ x.active ≤ 9223372036854775807
  previous : -9223372036854775808 ≤ x.previous ∧ x.previous ≤ 9223372036854775807
  pending : -9223372036854775808 ≤ x.pending ∧ x.pending ≤ 9223372036854775807
  at_ : 0 ≤ x.at_ ∧ x.at_ < 18446744073709551616
  shadow : -9223372036854775808 ≤ x.shadow ∧ x.shadow ≤ 9223372036854775807
set_option maxRecDepth 100000 in
theorem opn_StV {H : Type} {enc : TypeId × Value → H} {w : World} : Opn enc Try.prog w 28 StV.cells (StV.Ok w) := fun _ _ _ h => by
  obtain ⟨parts, rfl, hl, hf⟩ := opn_parts Try.underlying28 (by kernel_rfl) (by kernel_rfl) h
  match parts, hl with
  | [p0, p1, p2, p3, p4], _ =>
    obtain ⟨f0, x0, h0⟩ := hf 0 _ rfl
    obtain ⟨a0, e0, k0⟩ := (opn_i64 Try.underlying3) _ _ _ h0
    replace e0 : p0 = _ := e0
    obtain ⟨f1, x1, h1⟩ := hf 1 _ rfl
    obtain ⟨a1, e1, k1⟩ := (opn_i64 Try.underlying3) _ _ _ h1
    replace e1 : p1 = _ := e1
    obtain ⟨f2, x2, h2⟩ := hf 2 _ rfl
    obtain ⟨a2, e2, k2⟩ := (opn_i64 Try.underlying3) _ _ _ h2
    replace e2 : p2 = _ := e2
    obtain ⟨f3, x3, h3⟩ := hf 3 _ rfl
    obtain ⟨a3, e3, k3⟩ := (opn_u64 Try.underlying26) _ _ _ h3
    replace e3 : p3 = _ := e3
    obtain ⟨f4, x4, h4⟩ := hf 4 _ rfl
    obtain ⟨a4, e4, k4⟩ := (opn_i64 Try.underlying3) _ _ _ h4
    replace e4 : p4 = _ := e4
    subst e0 e1 e2 e3 e4
    exact ⟨⟨a0, a1, a2, a3, a4⟩, by simp [StV.cells], ⟨k0, k1, k2, k3, k4⟩⟩
def stepV (s : StV) (i : Int) : StV × Bool := if s.pending = 0 ∨ s.at_ ≠ i then (s, false) else (⟨s.pending, s.active, 0, 0, 0⟩, true)
def backV (s : StV) : StV × Int := if s.pending ≠ 0 then ({ s with pending := 0, at_ := 0 }, 0) else if s.previous = 0 then (s, 54) else (⟨s.previous, 0, 0, 0, 0⟩, 0)
theorem stepV_no {s : StV} {i : Int} (h : s.pending = 0 ∨ s.at_ ≠ i) : stepV s i = (s, false) := if_pos h
theorem stepV_yes {s : StV} {i : Int} (h : ¬ (s.pending = 0 ∨ s.at_ ≠ i)) : stepV s i = (⟨s.pending, s.active, 0, 0, 0⟩, true) := if_neg h
theorem backV_1 {s : StV} (h : s.pending ≠ 0) : backV s = ({ s with pending := 0, at_ := 0 }, 0) := if_pos h
theorem backV_2 {s : StV} (h : ¬ s.pending ≠ 0) (h2 : s.previous = 0) : backV s = (s, 54) := by unfold backV; rw [if_neg h, if_pos h2]
theorem backV_3 {s : StV} (h : ¬ s.pending ≠ 0) (h2 : ¬ s.previous = 0) : backV s = (⟨s.previous, 0, 0, 0, 0⟩, 0) := by unfold backV; rw [if_neg h, if_neg h2]
def StV.In (s : StV) : Prop := (-9223372036854775808 ≤ s.active ∧ s.active ≤ 9223372036854775807) ∧ (-9223372036854775808 ≤ s.previous ∧ s.previous ≤ 9223372036854775807) ∧ (-9223372036854775808 ≤ s.pending ∧ s.pending ≤ 9223372036854775807) ∧ (0 ≤ s.at_ ∧ s.at_ < 18446744073709551616) ∧ (-9223372036854775808 ≤ s.shadow ∧ s.shadow ≤ 9223372036854775807)
theorem StV.Ok.in {w : World} {s : StV} (h : s.Ok w) : s.In := ⟨h.active, h.previous, h.pending, h.at_, h.shadow⟩
def StV.lits (s : StV) : List Lit := [.int .i64 s.active, .int .i64 s.previous, .int .i64 s.pending, .int .u64 s.at_, .int .i64 s.shadow]
attribute [local irreducible] blkA rowA rdsA mapA regA
set_option maxRecDepth 100000 in
theorem step_calls {x : StV} {i : Int} : Calls Try.prog 18 #[.agg x.cells.toArray, .int .u64 i] W fun e w' => e = .returned (.tuple #[.agg (stepV x i).1.cells.toArray, .bool (stepV x i).2]) ∧ St W w' [] := by
  have hS := St.init W
  refine calls_of_wpE (args := [_, _]) Try.func18 rfl rfl rfl ?_
  refine c_seq ?_
  refine c_region ?_
  refine t_box (v := (.agg _)) rfl rfl hS (fun g2 w hS => ?_)
  replace hS := hS.recast (show _ = blkA g2 28 [.int .i64 x.active, .int .i64 x.previous, .int .i64 x.pending, .int .u64 x.at_, .int .i64 x.shadow] from rfl)
  refine t_alloc Try.zeroValue28 rfl hS (fun g4 w hS => ?_)
  refine t_q (q_assign) ?_
  refine t_nil ?_
  refine c_seq ?_
  refine c_seq ?_
  refine c_region ?_
  refine t_q (q_fieldAddr 2 Try.runUnderlying28 rfl Try.sizeOf3 (by decide) rfl rfl) ?_
  refine t_q (q_load1 Try.isAgg3 rfl (hS.cell (by repeat first | exact .here _ _ | assumption | apply Pick.there) rfl)) ?_
  refine t_q (q_eql rfl rfl) ?_
  refine t_q (q_mv (.bool _) rfl) ?_
  refine t_case 9 rfl ?_ ?_
  · intro hg2
    have hg2d := of_decide_eq_true hg2
    refine t_no rfl rfl (by rw [hg2]; decide) ?_
    refine t_no rfl rfl (by rw [hg2]; decide) ?_
    refine t_no rfl rfl (by rw [hg2]; decide) ?_
    refine t_no rfl rfl (by rw [hg2]; decide) ?_
    refine t_q (q_pick_t rfl hg2) ?_
    refine t_nil ?_
    refine c_cond_t rfl rfl ?_
    have hD := stepV_no (s := x) (i := i) (by omega)
    refine c_seq ?_
    refine c_region ?_
    refine t_q (q_cast (v' := .agg x.cells.toArray) (q_load_blk Try.isAgg28 Try.sizeOf28 rfl (hS.blk (by repeat first | exact .here _ _ | assumption | apply Pick.there)) rfl) (by rfl)) ?_
    refine t_store (v := (.agg _)) Try.sizeOf28 hS (by repeat first | exact .here _ _ | assumption | apply Pick.there) rfl rfl rfl rfl rfl rfl (fun w hS => ?_)
    replace hS := hS.recast (congrArg (blkA g4 28) (rset_full (vs := x.cells) rfl))
    refine t_q (q_assign) ?_
    refine t_nil ?_
    refine c_ret ?_
    refine r_two rfl (res1_cellN Try.isAgg28 Try.sizeOf28 rfl (hS.blk (by repeat first | exact .here _ _ | assumption | apply Pick.there)) rfl) rfl ?_
    rw [hD]
    exact ⟨rfl, hS.nil⟩
  · intro hg2
    have hg2d := of_decide_eq_false hg2
    refine t_yes rfl rfl hg2 ?_
    refine t_q (q_fieldAddr 3 Try.runUnderlying28 rfl Try.sizeOf26 (by decide) rfl rfl) ?_
    refine t_yes rfl rfl hg2 ?_
    refine t_q (q_load1 Try.isAgg26 rfl (hS.cell (by repeat first | exact .here _ _ | assumption | apply Pick.there) rfl)) ?_
    refine t_yes rfl rfl hg2 ?_
    refine t_q (q_mv (.int _ _) rfl) ?_
    refine t_yes rfl rfl hg2 ?_
    refine t_q (q_neq rfl rfl) ?_
    refine t_q (q_pick_f rfl hg2) ?_
    refine t_nil ?_
    refine c_cond rfl ?_ ?_
    · intro hc4
      have hc4d := of_decide_eq_true hc4
      have hD := stepV_no (s := x) (i := i) (by omega)
      refine c_seq ?_
      refine c_region ?_
      refine t_q (q_cast (v' := .agg x.cells.toArray) (q_load_blk Try.isAgg28 Try.sizeOf28 rfl (hS.blk (by repeat first | exact .here _ _ | assumption | apply Pick.there)) rfl) (by rfl)) ?_
      refine t_store (v := (.agg _)) Try.sizeOf28 hS (by repeat first | exact .here _ _ | assumption | apply Pick.there) rfl rfl rfl rfl rfl rfl (fun w hS => ?_)
      replace hS := hS.recast (congrArg (blkA g4 28) (rset_full (vs := x.cells) rfl))
      refine t_q (q_assign) ?_
      refine t_nil ?_
      refine c_ret ?_
      refine r_two rfl (res1_cellN Try.isAgg28 Try.sizeOf28 rfl (hS.blk (by repeat first | exact .here _ _ | assumption | apply Pick.there)) rfl) rfl ?_
      rw [hD]
      exact ⟨rfl, hS.nil⟩
    · intro hc4
      have hc4d := of_decide_eq_false hc4
      have hD := stepV_yes (s := x) (i := i) (by omega)
      refine c_skip ?_
      refine c_seq ?_
      refine c_region ?_
      refine t_q (q_fieldAddr 2 Try.runUnderlying28 rfl Try.sizeOf3 (by decide) rfl rfl) ?_
      refine t_q (q_load1 Try.isAgg3 rfl (hS.cell (by repeat first | exact .here _ _ | assumption | apply Pick.there) rfl)) ?_
      refine t_q (q_fieldAddr 0 Try.runUnderlying28 rfl Try.sizeOf3 (by decide) rfl rfl) ?_
      refine t_q (q_load1 Try.isAgg3 rfl (hS.cell (by repeat first | exact .here _ _ | assumption | apply Pick.there) rfl)) ?_
      refine t_q (q_build (qs := [(0, 1), (1, 1), (2, 1), (3, 1), (4, 1)]) [(.int _ _), (.int _ _), (.int _ _), (.int _ _), (.int _ _)] Try.zeroValue28 Try.runUnderlying28 ⟨rfl, Try.sizeOf3, rfl, Try.sizeOf3, rfl, Try.sizeOf3, rfl, Try.sizeOf26, rfl, Try.sizeOf3, trivial⟩ rfl rfl) ?_
      refine t_store (v := (.agg _)) Try.sizeOf28 hS (by repeat first | exact .here _ _ | assumption | apply Pick.there) rfl rfl rfl rfl rfl rfl (fun w hS => ?_)
      replace hS := hS.recast (congrArg (blkA g4 28) (rset_full (vs := (⟨x.pending, x.active, 0, 0, 0⟩ : StV).cells) rfl))
      refine t_q (q_assign) ?_
      refine t_nil ?_
      refine c_ret ?_
      refine r_two rfl (res1_cellN Try.isAgg28 Try.sizeOf28 rfl (hS.blk (by repeat first | exact .here _ _ | assumption | apply Pick.there)) rfl) rfl ?_
      rw [hD]
      exact ⟨rfl, hS.nil⟩
set_option maxRecDepth 100000 in
theorem due_calls {x : StV} {i : Int} : Calls Try.prog 27 #[.agg x.cells.toArray, .int .u64 i] W fun e w' => e = .returned (.int .i64 (stepV x i).1.active) ∧ St W w' [] := by
  have hS := St.init W
  refine calls_of_wpE (args := [_, _]) Try.func27 rfl rfl rfl ?_
  refine c_seq ?_
  refine c_region ?_
  refine t_box (v := (.agg _)) rfl rfl hS (fun g2 w hS => ?_)
  replace hS := hS.recast (show _ = blkA g2 28 [.int .i64 x.active, .int .i64 x.previous, .int .i64 x.pending, .int .u64 x.at_, .int .i64 x.shadow] from rfl)
  refine t_q (q_assign) ?_
  refine t_nil ?_
  refine c_seq ?_
  refine c_region ?_
  refine t_q (q_cast (v' := .agg x.cells.toArray) (q_load_blk Try.isAgg28 Try.sizeOf28 rfl (hS.blk (by repeat first | exact .here _ _ | assumption | apply Pick.there)) rfl) (by rfl)) ?_
  refine t_q (q_mv (.int _ _) rfl) ?_
  refine t_call Try.call18 (step_calls (x := x) (i := i)) rfl ?_
  rintro e w ⟨rfl, hT⟩
  refine ⟨_, rfl, ?_⟩
  replace hS := hS.after hT
  refine t_q (q_mv (.tuple _) rfl) ?_
  refine t_q (q_extract rfl rfl) ?_
  refine t_q (q_extract rfl rfl) ?_
  refine t_alloc Try.zeroValue28 rfl hS (fun g5 w hS => ?_)
  refine t_store (v := (.agg _)) Try.sizeOf28 hS (by repeat first | exact .here _ _ | assumption | apply Pick.there) rfl rfl rfl rfl rfl rfl (fun w hS => ?_)
  replace hS := hS.recast (congrArg (blkA g5 28) (rset_full (vs := (stepV x i).1.cells) rfl))
  replace hS := hS.recast (show _ = blkA g5 28 [.int .i64 (stepV x i).1.active, .int .i64 (stepV x i).1.previous, .int .i64 (stepV x i).1.pending, .int .u64 (stepV x i).1.at_, .int .i64 (stepV x i).1.shadow] from rfl)
  refine t_q (q_as (.bool _) rfl) ?_
  refine t_nil ?_
  refine c_seq ?_
  refine c_region ?_
  refine t_q (q_fieldAddr 0 Try.runUnderlying28 rfl Try.sizeOf3 (by decide) rfl rfl) ?_
  refine t_q (q_load1 Try.isAgg3 rfl (hS.cell (by repeat first | exact .here _ _ | assumption | apply Pick.there) rfl)) ?_
  refine t_q (q_as (.int _ _) rfl) ?_
  refine t_nil ?_
  refine c_ret ?_
  refine r_one rfl rfl ?_
  exact ⟨rfl, hS.nil⟩
set_option maxRecDepth 100000 in
theorem back_calls {x : StV} : Calls Try.prog 81 #[.agg x.cells.toArray] W fun e w' => e = .returned (.tuple #[.agg (backV x).1.cells.toArray, .int .i64 (backV x).2]) ∧ St W w' [] := by
  have hS := St.init W
  refine calls_of_wpE (args := [_]) Try.func81 rfl rfl rfl ?_
  refine c_seq ?_
  refine c_region ?_
  refine t_box (v := (.agg _)) rfl rfl hS (fun g1 w hS => ?_)
  replace hS := hS.recast (show _ = blkA g1 28 [.int .i64 x.active, .int .i64 x.previous, .int .i64 x.pending, .int .u64 x.at_, .int .i64 x.shadow] from rfl)
  refine t_alloc Try.zeroValue28 rfl hS (fun g2 w hS => ?_)
  refine t_q (q_assign) ?_
  refine t_nil ?_
  refine c_seq ?_
  refine c_block ?_
  refine c_seq ?_
  refine c_region ?_
  refine t_q (q_fieldAddr 2 Try.runUnderlying28 rfl Try.sizeOf3 (by decide) rfl rfl) ?_
  refine t_q (q_load1 Try.isAgg3 rfl (hS.cell (by repeat first | exact .here _ _ | assumption | apply Pick.there) rfl)) ?_
  refine t_q (q_neq rfl rfl) ?_
  refine t_q (q_as (.bool _) rfl) ?_
  refine t_nil ?_
  refine c_cond rfl ?_ ?_
  · intro hc2
    have hc2d := of_decide_eq_true hc2
    have hD := backV_1 (s := x) (by omega)
    refine c_seq ?_
    refine c_region ?_
    refine t_q (q_fieldAddr 2 Try.runUnderlying28 rfl Try.sizeOf3 (by decide) rfl rfl) ?_
    refine t_store (v := (.int _ _)) Try.sizeOf3 hS (by repeat first | exact .here _ _ | assumption | apply Pick.there) rfl rfl rfl rfl rfl rfl (fun w hS => ?_)
    refine t_q (q_fieldAddr 3 Try.runUnderlying28 rfl Try.sizeOf26 (by decide) rfl rfl) ?_
    refine t_store (v := (.int _ _)) Try.sizeOf26 hS (by repeat first | exact .here _ _ | assumption | apply Pick.there) rfl rfl rfl rfl rfl rfl (fun w hS => ?_)
    replace hS := hS.recast (show blkA g1 28 _ = blkA g1 28 [.int .i64 ({ x with pending := 0, at_ := 0 } : StV).active, .int .i64 ({ x with pending := 0, at_ := 0 } : StV).previous, .int .i64 ({ x with pending := 0, at_ := 0 } : StV).pending, .int .u64 ({ x with pending := 0, at_ := 0 } : StV).at_, .int .i64 ({ x with pending := 0, at_ := 0 } : StV).shadow] from rfl)
    refine t_nil ?_
    refine c_seq ?_
    refine c_region ?_
    refine t_q (q_cast (v' := .agg ({ x with pending := 0, at_ := 0 } : StV).cells.toArray) (q_load_blk Try.isAgg28 Try.sizeOf28 rfl (hS.blk (by repeat first | exact .here _ _ | assumption | apply Pick.there)) rfl) (by rfl)) ?_
    refine t_store (v := (.agg _)) Try.sizeOf28 hS (by repeat first | exact .here _ _ | assumption | apply Pick.there) rfl rfl rfl rfl rfl rfl (fun w hS => ?_)
    replace hS := hS.recast (congrArg (blkA g2 28) (rset_full (vs := ({ x with pending := 0, at_ := 0 } : StV).cells) rfl))
    refine t_q (q_assign) ?_
    refine t_nil ?_
    refine c_ret ?_
    refine r_two rfl (res1_cellN Try.isAgg28 Try.sizeOf28 rfl (hS.blk (by repeat first | exact .here _ _ | assumption | apply Pick.there)) rfl) rfl ?_
    rw [hD]
    exact ⟨rfl, hS.nil⟩
  · intro hc2
    have hc2d := of_decide_eq_false hc2
    have h1 : ¬ x.pending ≠ 0 := by omega
    refine c_seq ?_
    refine c_region ?_
    refine t_q (q_fieldAddr 1 Try.runUnderlying28 rfl Try.sizeOf3 (by decide) rfl rfl) ?_
    refine t_q (q_load1 Try.isAgg3 rfl (hS.cell (by repeat first | exact .here _ _ | assumption | apply Pick.there) rfl)) ?_
    refine t_q (q_eql rfl rfl) ?_
    refine t_q (q_as (.bool _) rfl) ?_
    refine t_nil ?_
    refine c_cond rfl ?_ ?_
    · intro hc4
      have hc4d := of_decide_eq_true hc4
      have hD := backV_2 (s := x) h1 (by omega)
      refine c_seq ?_
      refine c_region ?_
      refine t_q (q_cast (v' := .agg x.cells.toArray) (q_load_blk Try.isAgg28 Try.sizeOf28 rfl (hS.blk (by repeat first | exact .here _ _ | assumption | apply Pick.there)) rfl) (by rfl)) ?_
      refine t_store (v := (.agg _)) Try.sizeOf28 hS (by repeat first | exact .here _ _ | assumption | apply Pick.there) rfl rfl rfl rfl rfl rfl (fun w hS => ?_)
      replace hS := hS.recast (congrArg (blkA g2 28) (rset_full (vs := x.cells) rfl))
      refine t_q (q_assign) ?_
      refine t_nil ?_
      refine c_ret ?_
      refine r_two rfl (res1_cellN Try.isAgg28 Try.sizeOf28 rfl (hS.blk (by repeat first | exact .here _ _ | assumption | apply Pick.there)) rfl) rfl ?_
      rw [hD]
      exact ⟨rfl, hS.nil⟩
    · intro hc4
      have hc4d := of_decide_eq_false hc4
      have hD := backV_3 (s := x) h1 (by omega)
      refine c_skip ?_
      refine c_seq ?_
      refine c_region ?_
      refine t_q (q_fieldAddr 1 Try.runUnderlying28 rfl Try.sizeOf3 (by decide) rfl rfl) ?_
      refine t_q (q_load1 Try.isAgg3 rfl (hS.cell (by repeat first | exact .here _ _ | assumption | apply Pick.there) rfl)) ?_
      refine t_q (q_build (qs := [(0, 1), (1, 1), (2, 1), (3, 1), (4, 1)]) [(.int _ _), (.int _ _), (.int _ _), (.int _ _), (.int _ _)] Try.zeroValue28 Try.runUnderlying28 ⟨rfl, Try.sizeOf3, rfl, Try.sizeOf3, rfl, Try.sizeOf3, rfl, Try.sizeOf26, rfl, Try.sizeOf3, trivial⟩ rfl rfl) ?_
      refine t_store (v := (.agg _)) Try.sizeOf28 hS (by repeat first | exact .here _ _ | assumption | apply Pick.there) rfl rfl rfl rfl rfl rfl (fun w hS => ?_)
      replace hS := hS.recast (congrArg (blkA g2 28) (rset_full (vs := (⟨x.previous, 0, 0, 0, 0⟩ : StV).cells) rfl))
      refine t_q (q_assign) ?_
      refine t_nil ?_
      refine c_ret ?_
      refine r_two rfl (res1_cellN Try.isAgg28 Try.sizeOf28 rfl (hS.blk (by repeat first | exact .here _ _ | assumption | apply Pick.there)) rfl) rfl ?_
      rw [hD]
      exact ⟨rfl, hS.nil⟩
end Go.Proofs.Ytmgobaojioaioaa
