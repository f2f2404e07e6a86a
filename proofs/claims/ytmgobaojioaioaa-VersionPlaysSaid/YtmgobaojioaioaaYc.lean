/- Boards: what is known, ready, scheduled. -/
import Derived.Test.YtmgobaojioaioaaYb
import Derived.Test.YtmgobaojioaioaaWc
import Derived.Test.YtmgobaojioaioaaAl
namespace Go.Proofs.Ytmgobaojioaioaa
open Go Go.RowKit Go.Lib
variable {W : World}
structure EvE where
  kind : Int
  account : Int
  id : Int
  other : Int
  side : Int
  price : Int
  qty : Int
  fee : Int
  fee2 : Int
  code : Int
  version : Int
  index : Int
instance : Inhabited EvE := ⟨⟨0, 0, 0, 0, 0, 0, 0, 0, 0, 0, 0, 0⟩⟩
def EvE.cells (x : EvE) : List Value := [.int .i64 x.kind, .int .i64 x.account, .int .u64 x.id, .int .u64 x.other, .int .i64 x.side, .int .i64 x.price, .int .i64 x.qty, .int .i64 x.fee, .int .i64 x.fee2, .int .i64 x.code, .int .i64 x.version, .int .u64 x.index]
structure EvE.Ok (w : World) (x : EvE) : Prop where
  kind : -9223372036854775808 ≤ x.kind ∧ x.kind ≤ 9223372036854775807
  account : -9223372036854775808 ≤ x.account ∧ x.account ≤ 9223372036854775807
  id : 0 ≤ x.id ∧ x.id < 18446744073709551616
  other : 0 ≤ x.other ∧ x.other < 18446744073709551616
  side : -9223372036854775808 ≤ x.side ∧ x.side ≤ 9223372036854775807
  price : -9223372036854775808 ≤ x.price ∧ x.price ≤ 9223372036854775807
  qty : -9223372036854775808 ≤ x.qty ∧ x.qty ≤ 9223372036854775807
  fee : -9223372036854775808 ≤ x.fee ∧ x.fee ≤ 9223372036854775807
  fee2 : -9223372036854775808 ≤ x.fee2 ∧ x.fee2 ≤ 9223372036854775807
  code : -9223372036854775808 ≤ x.code ∧ x.code ≤ 9223372036854775807
  version : -9223372036854775808 ≤ x.version ∧ x.version ≤ 9223372036854775807
  index : 0 ≤ x.index ∧ x.index < 18446744073709551616
def StV.ints (e : StV) : List Int := [e.active, e.previous, e.pending, e.at_, e.shadow]
def StV.lts (e : StV) : List Lit := [.int .i64 e.active, .int .i64 e.previous, .int .i64 e.pending, .int .u64 e.at_, .int .i64 e.shadow]
theorem StV.lts_iff {e q : StV} : decide (e.ints = q.ints) = true ↔ e.lts = q.lts := by
  simp [StV.ints, StV.lts]
def StV.Rg (e : StV) : Prop := (-9223372036854775808 ≤ e.active ∧ e.active ≤ 9223372036854775807) ∧ (-9223372036854775808 ≤ e.previous ∧ e.previous ≤ 9223372036854775807) ∧ (-9223372036854775808 ≤ e.pending ∧ e.pending ≤ 9223372036854775807) ∧ (0 ≤ e.at_ ∧ e.at_ < 18446744073709551616) ∧ (-9223372036854775808 ≤ e.shadow ∧ e.shadow ≤ 9223372036854775807)
set_option maxRecDepth 100000 in
theorem qsv_lits {e : StV} (h : e.Rg) : Try.prog.keyLits 2 35 e.cells = some e.lts := by
  obtain ⟨h0, h1, h2, h3, h4⟩ := h
  have k0 : Try.prog.keyLits 1 3 [.int .i64 e.active] = some [.int .i64 e.active] := keyLits_int1 Try.underlying3 (wf_i h0)
  have k1 : Try.prog.keyLits 1 3 [.int .i64 e.previous] = some [.int .i64 e.previous] := keyLits_int1 Try.underlying3 (wf_i h1)
  have k2 : Try.prog.keyLits 1 3 [.int .i64 e.pending] = some [.int .i64 e.pending] := keyLits_int1 Try.underlying3 (wf_i h2)
  have k3 : Try.prog.keyLits 1 26 [.int .u64 e.at_] = some [.int .u64 e.at_] := keyLits_int1 Try.underlying26 (wf_u h3)
  have k4 : Try.prog.keyLits 1 3 [.int .i64 e.shadow] = some [.int .i64 e.shadow] := keyLits_int1 Try.underlying3 (wf_i h4)
  have c3 : Try.prog.cellsOf 3 = 1 := by kernel_rfl
  have c26 : Try.prog.cellsOf 26 = 1 := by kernel_rfl
  have cE : Try.prog.cellsOf 35 = 5 := by kernel_rfl
  show Try.prog.keyLits (1 + 1) 35 _ = _
  unfold Program.keyLits
  simp only [Try.underlying35]
  rw [if_pos ⟨by rw [cE]; rfl, by simp⟩]
  simp only [List.mapM_cons, List.mapM_nil, c3, c26]
  have d0 : (e.cells.drop 0).take 1 = [.int .i64 e.active] := rfl
  have d1 : (e.cells.drop 1).take 1 = [.int .i64 e.previous] := rfl
  have d2 : (e.cells.drop 2).take 1 = [.int .i64 e.pending] := rfl
  have d3 : (e.cells.drop 3).take 1 = [.int .u64 e.at_] := rfl
  have d4 : (e.cells.drop 4).take 1 = [.int .i64 e.shadow] := rfl
  rw [d0, k0, d1, k1, d2, k2, d3, k3, d4, k4]
  rfl
theorem qsv_formed {e : StV} : Value.formed Try.prog 35 (.agg e.cells.toArray) = true := by
  have cE : Try.prog.cellsOf 35 = 5 := by kernel_rfl
  simp [Value.formed, Try.underlying35, cE, StV.cells]
theorem q_neq_qsv {ρ : Env} {w : World} {ty yt : TypeId} {x y : Operand} {e q : StV} (hx : ev ρ x = .agg e.cells.toArray) (hy : ev ρ y = .agg q.cells.toArray) (he : e.Rg) (hq : q.Rg) : qv Try.prog (.binOp .neq 35 x y yt) ty ρ w (.bool (!decide (e.ints = q.ints))) :=
  q_neq_lits (m := 2) hx hy (by kernel_rfl) (by decide) (by kernel_rfl) qsv_formed qsv_formed (qsv_lits he) (qsv_lits hq) StV.lts_iff
def EvE.ints (e : EvE) : List Int := [e.kind, e.account, e.id, e.other, e.side, e.price, e.qty, e.fee, e.fee2, e.code, e.version, e.index]
def EvE.lts (e : EvE) : List Lit := [.int .i64 e.kind, .int .i64 e.account, .int .u64 e.id, .int .u64 e.other, .int .i64 e.side, .int .i64 e.price, .int .i64 e.qty, .int .i64 e.fee, .int .i64 e.fee2, .int .i64 e.code, .int .i64 e.version, .int .u64 e.index]
theorem EvE.lts_iff {e q : EvE} : decide (e.ints = q.ints) = true ↔ e.lts = q.lts := by
  simp [EvE.ints, EvE.lts]
def EvE.Rg (e : EvE) : Prop := (-9223372036854775808 ≤ e.kind ∧ e.kind ≤ 9223372036854775807) ∧ (-9223372036854775808 ≤ e.account ∧ e.account ≤ 9223372036854775807) ∧ (0 ≤ e.id ∧ e.id < 18446744073709551616) ∧ (0 ≤ e.other ∧ e.other < 18446744073709551616) ∧ (-9223372036854775808 ≤ e.side ∧ e.side ≤ 9223372036854775807) ∧ (-9223372036854775808 ≤ e.price ∧ e.price ≤ 9223372036854775807) ∧ (-9223372036854775808 ≤ e.qty ∧ e.qty ≤ 9223372036854775807) ∧ (-9223372036854775808 ≤ e.fee ∧ e.fee ≤ 9223372036854775807) ∧ (-9223372036854775808 ≤ e.fee2 ∧ e.fee2 ≤ 9223372036854775807) ∧ (-9223372036854775808 ≤ e.code ∧ e.code ≤ 9223372036854775807) ∧ (-9223372036854775808 ≤ e.version ∧ e.version ≤ 9223372036854775807) ∧ (0 ≤ e.index ∧ e.index < 18446744073709551616)
set_option maxRecDepth 100000 in
theorem ee_lits {e : EvE} (h : e.Rg) : Try.prog.keyLits 2 55 e.cells = some e.lts := by
  obtain ⟨h0, h1, h2, h3, h4, h5, h6, h7, h8, h9, h10, h11⟩ := h
  have k0 : Try.prog.keyLits 1 3 [.int .i64 e.kind] = some [.int .i64 e.kind] := keyLits_int1 Try.underlying3 (wf_i h0)
  have k1 : Try.prog.keyLits 1 3 [.int .i64 e.account] = some [.int .i64 e.account] := keyLits_int1 Try.underlying3 (wf_i h1)
  have k2 : Try.prog.keyLits 1 26 [.int .u64 e.id] = some [.int .u64 e.id] := keyLits_int1 Try.underlying26 (wf_u h2)
  have k3 : Try.prog.keyLits 1 26 [.int .u64 e.other] = some [.int .u64 e.other] := keyLits_int1 Try.underlying26 (wf_u h3)
  have k4 : Try.prog.keyLits 1 3 [.int .i64 e.side] = some [.int .i64 e.side] := keyLits_int1 Try.underlying3 (wf_i h4)
  have k5 : Try.prog.keyLits 1 2 [.int .i64 e.price] = some [.int .i64 e.price] := keyLits_int1 Try.underlying2 (wf_i h5)
  have k6 : Try.prog.keyLits 1 2 [.int .i64 e.qty] = some [.int .i64 e.qty] := keyLits_int1 Try.underlying2 (wf_i h6)
  have k7 : Try.prog.keyLits 1 2 [.int .i64 e.fee] = some [.int .i64 e.fee] := keyLits_int1 Try.underlying2 (wf_i h7)
  have k8 : Try.prog.keyLits 1 2 [.int .i64 e.fee2] = some [.int .i64 e.fee2] := keyLits_int1 Try.underlying2 (wf_i h8)
  have k9 : Try.prog.keyLits 1 53 [.int .i64 e.code] = some [.int .i64 e.code] := keyLits_int1 Try.underlying53 (wf_i h9)
  have k10 : Try.prog.keyLits 1 3 [.int .i64 e.version] = some [.int .i64 e.version] := keyLits_int1 Try.underlying3 (wf_i h10)
  have k11 : Try.prog.keyLits 1 26 [.int .u64 e.index] = some [.int .u64 e.index] := keyLits_int1 Try.underlying26 (wf_u h11)
  have c2 : Try.prog.cellsOf 2 = 1 := by kernel_rfl
  have c3 : Try.prog.cellsOf 3 = 1 := by kernel_rfl
  have c26 : Try.prog.cellsOf 26 = 1 := by kernel_rfl
  have c53 : Try.prog.cellsOf 53 = 1 := by kernel_rfl
  have cE : Try.prog.cellsOf 55 = 12 := by kernel_rfl
  show Try.prog.keyLits (1 + 1) 55 _ = _
  unfold Program.keyLits
  simp only [Try.underlying55]
  rw [if_pos ⟨by rw [cE]; rfl, by simp⟩]
  simp only [List.mapM_cons, List.mapM_nil, c2, c3, c26, c53]
  have d0 : (e.cells.drop 0).take 1 = [.int .i64 e.kind] := rfl
  have d1 : (e.cells.drop 1).take 1 = [.int .i64 e.account] := rfl
  have d2 : (e.cells.drop 2).take 1 = [.int .u64 e.id] := rfl
  have d3 : (e.cells.drop 3).take 1 = [.int .u64 e.other] := rfl
  have d4 : (e.cells.drop 4).take 1 = [.int .i64 e.side] := rfl
  have d5 : (e.cells.drop 5).take 1 = [.int .i64 e.price] := rfl
  have d6 : (e.cells.drop 6).take 1 = [.int .i64 e.qty] := rfl
  have d7 : (e.cells.drop 7).take 1 = [.int .i64 e.fee] := rfl
  have d8 : (e.cells.drop 8).take 1 = [.int .i64 e.fee2] := rfl
  have d9 : (e.cells.drop 9).take 1 = [.int .i64 e.code] := rfl
  have d10 : (e.cells.drop 10).take 1 = [.int .i64 e.version] := rfl
  have d11 : (e.cells.drop 11).take 1 = [.int .u64 e.index] := rfl
  rw [d0, k0, d1, k1, d2, k2, d3, k3, d4, k4, d5, k5, d6, k6, d7, k7, d8, k8, d9, k9, d10, k10, d11, k11]
  rfl
theorem ee_formed {e : EvE} : Value.formed Try.prog 55 (.agg e.cells.toArray) = true := by
  have cE : Try.prog.cellsOf 55 = 12 := by kernel_rfl
  simp [Value.formed, Try.underlying55, cE, EvE.cells]
theorem q_neq_ee {ρ : Env} {w : World} {ty yt : TypeId} {x y : Operand} {e q : EvE} (hx : ev ρ x = .agg e.cells.toArray) (hy : ev ρ y = .agg q.cells.toArray) (he : e.Rg) (hq : q.Rg) : qv Try.prog (.binOp .neq 55 x y yt) ty ρ w (.bool (!decide (e.ints = q.ints))) :=
  q_neq_lits (m := 2) hx hy (by kernel_rfl) (by decide) (by kernel_rfl) ee_formed ee_formed (ee_lits he) (ee_lits hq) EvE.lts_iff
theorem StV.In.rg {s : StV} (h : s.In) : s.Rg := h
def bdc (s : StV) (p : Option Addr) (n : Int) (a : Nat → Int) : List Value := s.cells ++ (.pointer p :: tcs n a)
def vknownE (M : List RuV) (v : Int) : Int := if (rgF M v).isSome then 0 else 51
def vreadyE (M : List RuV) (s : StV) (v busy : Int) : Int := if vknownE M v ≠ 0 then 51 else if busy ≠ 0 then 54 else if v = s.active then 60 else 0
def vschedE (M : List RuV) (s : StV) (n : Int) (a : Nat → Int) (v at_ i : Int) : Int := if vreadyE M s v s.pending ≠ 0 then vreadyE M s v s.pending else if at_ ≤ i then 55 else if at_ - i > 1048576 then 10 else if allT n a v = false then 61 else 0
attribute [local irreducible] blkA rowA rdsA mapA regA
set_option maxRecDepth 100000 in
theorem known_calls {w : World} {R : List Asn} {g : Nat} {M : List RuV} {ps : List RdP} {s : StV} {n : Int} {a : Nat → Int} {v : Int} (hS : St W w (regA W g M ps :: rdsA ps :: R)) : Calls Try.prog 79 #[.agg (bdc s (some ⟨g, 0, none⟩) n a).toArray, .int .i64 v] w fun e w' => e = .returned (.int .i64 (vknownE M v)) ∧ St W w' (regA W g M ps :: rdsA ps :: R) := by
  refine calls_of_wpE (args := [_, _]) Try.func79 rfl rfl rfl ?_
  refine c_seq ?_
  refine c_region ?_
  refine t_box (v := (.agg _)) rfl rfl hS (fun g2 w hS => ?_)
  replace hS := hS.recast (show _ = blkA g2 34 [.int .i64 s.active, .int .i64 s.previous, .int .i64 s.pending, .int .u64 s.at_, .int .i64 s.shadow, .pointer (some ⟨g, 0, none⟩), .int .i64 n, .int .u64 (a 0), .int .u64 (a 1), .int .u64 (a 2), .int .u64 (a 3), .int .u64 (a 4), .int .u64 (a 5), .int .u64 (a 6)] from rfl)
  refine t_q (q_assign) ?_
  refine t_nil ?_
  refine c_seq ?_
  refine c_seq ?_
  refine c_region ?_
  refine t_q (q_fieldAddr 5 Try.runUnderlying34 rfl Try.sizeOf29 (by decide) rfl rfl) ?_
  refine t_q (q_load1 Try.isAgg29 rfl (hS.cell (by repeat first | exact .here _ _ | assumption | apply Pick.there) rfl)) ?_
  refine t_q (q_mv (.int _ _) rfl) ?_
  refine t_call Try.call59 (rgget_calls (v := v) ((hS.pick (A := rdsA ps) (by repeat first | exact .here _ _ | assumption | apply Pick.there)).pick (A := regA W g M ps) (by repeat first | exact .here _ _ | assumption | apply Pick.there))) rfl ?_
  rintro e w ⟨y, rfl, hny, hby, hS⟩
  refine ⟨_, rfl, ?_⟩
  refine t_q (q_mv (.tuple _) rfl) ?_
  refine t_q (q_extract rfl rfl) ?_
  refine t_q (q_extract rfl rfl) ?_
  refine t_alloc Try.zeroValue47 rfl hS (fun g5 w hS => ?_)
  refine t_store (v := (.agg _)) Try.sizeOf47 hS (by repeat first | exact .here _ _ | assumption | apply Pick.there) rfl rfl rfl rfl rfl rfl (fun w hS => ?_)
  replace hS := hS.recast (congrArg (blkA g5 47) (rset_full (vs := y.cells) rfl))
  refine t_q (q_as (.bool _) rfl) ?_
  refine t_nil ?_
  refine c_seq ?_
  refine c_region ?_
  refine t_q (q_mv (.bool _) rfl) ?_
  refine t_q (q_not rfl) ?_
  refine t_nil ?_
  refine c_cond rfl ?_ ?_
  · intro hc4
    have hD : vknownE M v = 51 := by unfold vknownE; rw [bnt (by assumption : (!(rgF M v).isSome) = true)]; rfl
    refine c_seq ?_
    refine c_region ?_
    refine t_q (q_assign) ?_
    refine t_nil ?_
    refine c_ret ?_
    refine r_one rfl rfl ?_
    rw [hD]
    exact ⟨rfl, (((((hS.pick (A := rdsA (ruP y)) (by repeat first | exact .here _ _ | assumption | apply Pick.there)).drop.pick (A := blkA g2 34 [.int .i64 s.active, .int .i64 s.previous, .int .i64 s.pending, .int .u64 s.at_, .int .i64 s.shadow, .pointer (some ⟨g, 0, none⟩), .int .i64 n, .int .u64 (a 0), .int .u64 (a 1), .int .u64 (a 2), .int .u64 (a 3), .int .u64 (a 4), .int .u64 (a 5), .int .u64 (a 6)]) (by repeat first | exact .here _ _ | assumption | apply Pick.there)).drop.pick (A := blkA g5 47 _) (by repeat first | exact .here _ _ | assumption | apply Pick.there)).drop.pick (A := rdsA _) (by repeat first | exact .here _ _ | assumption | apply Pick.there)).pick (A := regA W g _ _) (by repeat first | exact .here _ _ | assumption | apply Pick.there))⟩
  · intro hc4
    have hD : vknownE M v = 0 := by unfold vknownE; rw [bnf (by assumption : (!(rgF M v).isSome) = false)]; rfl
    refine c_skip ?_
    refine c_seq ?_
    refine c_region ?_
    refine t_q (q_assign) ?_
    refine t_nil ?_
    refine c_ret ?_
    refine r_one rfl rfl ?_
    rw [hD]
    exact ⟨rfl, (((((hS.pick (A := rdsA (ruP y)) (by repeat first | exact .here _ _ | assumption | apply Pick.there)).drop.pick (A := blkA g2 34 [.int .i64 s.active, .int .i64 s.previous, .int .i64 s.pending, .int .u64 s.at_, .int .i64 s.shadow, .pointer (some ⟨g, 0, none⟩), .int .i64 n, .int .u64 (a 0), .int .u64 (a 1), .int .u64 (a 2), .int .u64 (a 3), .int .u64 (a 4), .int .u64 (a 5), .int .u64 (a 6)]) (by repeat first | exact .here _ _ | assumption | apply Pick.there)).drop.pick (A := blkA g5 47 _) (by repeat first | exact .here _ _ | assumption | apply Pick.there)).drop.pick (A := rdsA _) (by repeat first | exact .here _ _ | assumption | apply Pick.there)).pick (A := regA W g _ _) (by repeat first | exact .here _ _ | assumption | apply Pick.there))⟩
set_option maxRecDepth 100000 in
theorem ready_calls {w : World} {R : List Asn} {g : Nat} {M : List RuV} {ps : List RdP} {s : StV} {n : Int} {a : Nat → Int} {v busy : Int} (hS : St W w (regA W g M ps :: rdsA ps :: R)) : Calls Try.prog 115 #[.agg (bdc s (some ⟨g, 0, none⟩) n a).toArray, .int .i64 v, .int .i64 busy] w fun e w' => e = .returned (.int .i64 (vreadyE M s v busy)) ∧ St W w' (regA W g M ps :: rdsA ps :: R) := by
  refine calls_of_wpE (args := [_, _, _]) Try.func115 rfl rfl rfl ?_
  refine c_seq ?_
  refine c_region ?_
  refine t_box (v := (.agg _)) rfl rfl hS (fun g3 w hS => ?_)
  replace hS := hS.recast (show _ = blkA g3 34 [.int .i64 s.active, .int .i64 s.previous, .int .i64 s.pending, .int .u64 s.at_, .int .i64 s.shadow, .pointer (some ⟨g, 0, none⟩), .int .i64 n, .int .u64 (a 0), .int .u64 (a 1), .int .u64 (a 2), .int .u64 (a 3), .int .u64 (a 4), .int .u64 (a 5), .int .u64 (a 6)] from rfl)
  refine t_q (q_assign) ?_
  refine t_nil ?_
  refine c_seq ?_
  refine c_block ?_
  refine c_seq ?_
  refine c_region ?_
  refine t_q (q_cast (v' := .agg (bdc s (some ⟨g, 0, none⟩) n a).toArray) (q_load_blk Try.isAgg34 Try.sizeOf34 rfl (hS.blk (by repeat first | exact .here _ _ | assumption | apply Pick.there)) rfl) (by rfl)) ?_
  refine t_q (q_mv (.int _ _) rfl) ?_
  refine t_call Try.call79 (known_calls (v := v) ((hS.pick (A := rdsA ps) (by repeat first | exact .here _ _ | assumption | apply Pick.there)).pick (A := regA W g M ps) (by repeat first | exact .here _ _ | assumption | apply Pick.there))) rfl ?_
  rintro e w ⟨rfl, hS⟩
  refine ⟨_, rfl, ?_⟩
  refine t_q (q_neq rfl rfl) ?_
  refine t_q (q_as (.bool _) rfl) ?_
  refine t_nil ?_
  refine c_cond rfl ?_ ?_
  · intro hc3
    have hc3d := of_decide_eq_true hc3
    have hD : vreadyE M s v busy = 51 := if_pos hc3d
    refine c_seq ?_
    refine c_region ?_
    refine t_q (q_assign) ?_
    refine t_nil ?_
    refine c_ret ?_
    refine r_one rfl rfl ?_
    rw [hD]
    exact ⟨rfl, (((hS.pick (A := blkA g3 34 [.int .i64 s.active, .int .i64 s.previous, .int .i64 s.pending, .int .u64 s.at_, .int .i64 s.shadow, .pointer (some ⟨g, 0, none⟩), .int .i64 n, .int .u64 (a 0), .int .u64 (a 1), .int .u64 (a 2), .int .u64 (a 3), .int .u64 (a 4), .int .u64 (a 5), .int .u64 (a 6)]) (by repeat first | exact .here _ _ | assumption | apply Pick.there)).drop.pick (A := rdsA _) (by repeat first | exact .here _ _ | assumption | apply Pick.there)).pick (A := regA W g _ _) (by repeat first | exact .here _ _ | assumption | apply Pick.there))⟩
  · intro hc3
    have hc3d := of_decide_eq_false hc3
    have h1 := hc3d
    refine c_seq ?_
    refine c_region ?_
    refine t_q (q_mv (.int _ _) rfl) ?_
    refine t_q (q_neq rfl rfl) ?_
    refine t_q (q_as (.bool _) rfl) ?_
    refine t_nil ?_
    refine c_cond rfl ?_ ?_
    · intro hc5
      have hc5d := of_decide_eq_true hc5
      have hD : vreadyE M s v busy = 54 := by unfold vreadyE; rw [if_neg h1, if_pos hc5d]
      refine c_seq ?_
      refine c_region ?_
      refine t_q (q_assign) ?_
      refine t_nil ?_
      refine c_ret ?_
      refine r_one rfl rfl ?_
      rw [hD]
      exact ⟨rfl, (((hS.pick (A := blkA g3 34 [.int .i64 s.active, .int .i64 s.previous, .int .i64 s.pending, .int .u64 s.at_, .int .i64 s.shadow, .pointer (some ⟨g, 0, none⟩), .int .i64 n, .int .u64 (a 0), .int .u64 (a 1), .int .u64 (a 2), .int .u64 (a 3), .int .u64 (a 4), .int .u64 (a 5), .int .u64 (a 6)]) (by repeat first | exact .here _ _ | assumption | apply Pick.there)).drop.pick (A := rdsA _) (by repeat first | exact .here _ _ | assumption | apply Pick.there)).pick (A := regA W g _ _) (by repeat first | exact .here _ _ | assumption | apply Pick.there))⟩
    · intro hc5
      have hc5d := of_decide_eq_false hc5
      have h2 := hc5d
      refine c_seq ?_
      refine c_region ?_
      refine t_q (q_mv (.int _ _) rfl) ?_
      refine t_q (q_fieldAddr 0 Try.runUnderlying34 rfl Try.sizeOf28 (by decide) rfl rfl) ?_
      refine t_q (q_fieldAddr 0 Try.runUnderlying28 rfl Try.sizeOf3 (by decide) rfl rfl) ?_
      refine t_q (q_load1 Try.isAgg3 rfl (hS.cell (by repeat first | exact .here _ _ | assumption | apply Pick.there) rfl)) ?_
      refine t_q (q_eql rfl rfl) ?_
      refine t_q (q_as (.bool _) rfl) ?_
      refine t_nil ?_
      refine c_cond rfl ?_ ?_
      · intro hc7
        have hc7d := of_decide_eq_true hc7
        have hD : vreadyE M s v busy = 60 := by unfold vreadyE; rw [if_neg h1, if_neg h2, if_pos hc7d]
        refine c_seq ?_
        refine c_region ?_
        refine t_q (q_assign) ?_
        refine t_nil ?_
        refine c_ret ?_
        refine r_one rfl rfl ?_
        rw [hD]
        exact ⟨rfl, (((hS.pick (A := blkA g3 34 [.int .i64 s.active, .int .i64 s.previous, .int .i64 s.pending, .int .u64 s.at_, .int .i64 s.shadow, .pointer (some ⟨g, 0, none⟩), .int .i64 n, .int .u64 (a 0), .int .u64 (a 1), .int .u64 (a 2), .int .u64 (a 3), .int .u64 (a 4), .int .u64 (a 5), .int .u64 (a 6)]) (by repeat first | exact .here _ _ | assumption | apply Pick.there)).drop.pick (A := rdsA _) (by repeat first | exact .here _ _ | assumption | apply Pick.there)).pick (A := regA W g _ _) (by repeat first | exact .here _ _ | assumption | apply Pick.there))⟩
      · intro hc7
        have hc7d := of_decide_eq_false hc7
        have hD : vreadyE M s v busy = 0 := by unfold vreadyE; rw [if_neg h1, if_neg h2, if_neg hc7d]
        refine c_skip ?_
        refine c_seq ?_
        refine c_region ?_
        refine t_q (q_assign) ?_
        refine t_nil ?_
        refine c_ret ?_
        refine r_one rfl rfl ?_
        rw [hD]
        exact ⟨rfl, (((hS.pick (A := blkA g3 34 [.int .i64 s.active, .int .i64 s.previous, .int .i64 s.pending, .int .u64 s.at_, .int .i64 s.shadow, .pointer (some ⟨g, 0, none⟩), .int .i64 n, .int .u64 (a 0), .int .u64 (a 1), .int .u64 (a 2), .int .u64 (a 3), .int .u64 (a 4), .int .u64 (a 5), .int .u64 (a 6)]) (by repeat first | exact .here _ _ | assumption | apply Pick.there)).drop.pick (A := rdsA _) (by repeat first | exact .here _ _ | assumption | apply Pick.there)).pick (A := regA W g _ _) (by repeat first | exact .here _ _ | assumption | apply Pick.there))⟩
set_option maxRecDepth 100000 in
theorem sched_calls {w : World} {R : List Asn} {g : Nat} {M : List RuV} {ps : List RdP} {s : StV} {n : Int} {a : Nat → Int} {c : CmdV} {i : Int} (hS : St W w (regA W g M ps :: rdsA ps :: R)) (hn : 0 ≤ n ∧ n ≤ 7) (hs : Sb a) (hat : 0 ≤ c.at_ ∧ c.at_ < 18446744073709551616) (hi : 0 ≤ i ∧ i < 18446744073709551616) : Calls Try.prog 116 #[.agg (bdc s (some ⟨g, 0, none⟩) n a).toArray, .agg c.cells.toArray, .int .u64 i] w fun e w' => e = .returned (.int .i64 (vschedE M s n a c.version c.at_ i)) ∧ St W w' (regA W g M ps :: rdsA ps :: R) := by
  refine calls_of_wpE (args := [_, _, _]) Try.func116 rfl rfl rfl ?_
  refine c_seq ?_
  refine c_region ?_
  refine t_box (v := (.agg _)) rfl rfl hS (fun g3 w hS => ?_)
  replace hS := hS.recast (show _ = blkA g3 34 [.int .i64 s.active, .int .i64 s.previous, .int .i64 s.pending, .int .u64 s.at_, .int .i64 s.shadow, .pointer (some ⟨g, 0, none⟩), .int .i64 n, .int .u64 (a 0), .int .u64 (a 1), .int .u64 (a 2), .int .u64 (a 3), .int .u64 (a 4), .int .u64 (a 5), .int .u64 (a 6)] from rfl)
  refine t_box (v := (.agg _)) rfl rfl hS (fun g4 w hS => ?_)
  replace hS := hS.recast (show _ = blkA g4 49 [.int .i64 c.kind, .int .u64 c.client, .int .u64 c.req, .int .i64 c.account, .int .u64 c.id, .int .i64 c.side, .int .i64 c.typ, .int .i64 c.asset, .int .i64 c.price, .int .i64 c.qty, .int .i64 c.version, .int .i64 c.replica, .int .u64 c.at_, .int .i64 c.rules.version, .slice c.rules.ticks.A c.rules.ticks.l.length c.rules.ticks.c, .int .i64 c.rules.lot, .int .i64 c.rules.band, .slice c.rules.fees.A c.rules.fees.l.length c.rules.fees.c, .int .i64 c.rules.round, .int .i64 c.rules.priority, .int .i64 c.rules.self, .int .i64 c.rules.layout] from rfl)
  refine t_q (q_assign) ?_
  refine t_nil ?_
  refine c_seq ?_
  refine c_region ?_
  refine t_q (q_cast (v' := .agg (bdc s (some ⟨g, 0, none⟩) n a).toArray) (q_load_blk Try.isAgg34 Try.sizeOf34 rfl (hS.blk (by repeat first | exact .here _ _ | assumption | apply Pick.there)) rfl) (by rfl)) ?_
  refine t_q (q_fieldAddr 10 Try.runUnderlying49 rfl Try.sizeOf3 (by decide) rfl rfl) ?_
  refine t_q (q_load1 Try.isAgg3 rfl (hS.cell (by repeat first | exact .here _ _ | assumption | apply Pick.there) rfl)) ?_
  refine t_q (q_fieldAddr 0 Try.runUnderlying34 rfl Try.sizeOf28 (by decide) rfl rfl) ?_
  refine t_q (q_fieldAddr 2 Try.runUnderlying28 rfl Try.sizeOf3 (by decide) rfl rfl) ?_
  refine t_q (q_load1 Try.isAgg3 rfl (hS.cell (by repeat first | exact .here _ _ | assumption | apply Pick.there) rfl)) ?_
  refine t_call Try.call115 (ready_calls (v := c.version) (busy := s.pending) ((hS.pick (A := rdsA ps) (by repeat first | exact .here _ _ | assumption | apply Pick.there)).pick (A := regA W g M ps) (by repeat first | exact .here _ _ | assumption | apply Pick.there))) rfl ?_
  rintro e w ⟨rfl, hS⟩
  refine ⟨_, rfl, ?_⟩
  refine t_q (q_as (.int _ _) rfl) ?_
  refine t_nil ?_
  refine c_seq ?_
  refine c_block ?_
  refine c_seq ?_
  refine c_region ?_
  refine t_q (q_mv (.int _ _) rfl) ?_
  refine t_q (q_neq rfl rfl) ?_
  refine t_q (q_as (.bool _) rfl) ?_
  refine t_nil ?_
  refine c_cond rfl ?_ ?_
  · intro hc3
    have hc3d := of_decide_eq_true hc3
    have hD : vschedE M s n a c.version c.at_ i = vreadyE M s c.version s.pending := if_pos hc3d
    refine c_seq ?_
    refine c_region ?_
    refine t_q (q_mv (.int _ _) rfl) ?_
    refine t_q (q_as (.int _ _) rfl) ?_
    refine t_nil ?_
    refine c_ret ?_
    refine r_one rfl rfl ?_
    rw [hD]
    exact ⟨rfl, ((((hS.pick (A := blkA g3 34 [.int .i64 s.active, .int .i64 s.previous, .int .i64 s.pending, .int .u64 s.at_, .int .i64 s.shadow, .pointer (some ⟨g, 0, none⟩), .int .i64 n, .int .u64 (a 0), .int .u64 (a 1), .int .u64 (a 2), .int .u64 (a 3), .int .u64 (a 4), .int .u64 (a 5), .int .u64 (a 6)]) (by repeat first | exact .here _ _ | assumption | apply Pick.there)).drop.pick (A := blkA g4 49 [.int .i64 c.kind, .int .u64 c.client, .int .u64 c.req, .int .i64 c.account, .int .u64 c.id, .int .i64 c.side, .int .i64 c.typ, .int .i64 c.asset, .int .i64 c.price, .int .i64 c.qty, .int .i64 c.version, .int .i64 c.replica, .int .u64 c.at_, .int .i64 c.rules.version, .slice c.rules.ticks.A c.rules.ticks.l.length c.rules.ticks.c, .int .i64 c.rules.lot, .int .i64 c.rules.band, .slice c.rules.fees.A c.rules.fees.l.length c.rules.fees.c, .int .i64 c.rules.round, .int .i64 c.rules.priority, .int .i64 c.rules.self, .int .i64 c.rules.layout]) (by repeat first | exact .here _ _ | assumption | apply Pick.there)).drop.pick (A := rdsA _) (by repeat first | exact .here _ _ | assumption | apply Pick.there)).pick (A := regA W g _ _) (by repeat first | exact .here _ _ | assumption | apply Pick.there))⟩
  · intro hc3
    have hc3d := of_decide_eq_false hc3
    have h1 := hc3d
    refine c_seq ?_
    refine c_region ?_
    refine t_q (q_fieldAddr 12 Try.runUnderlying49 rfl Try.sizeOf26 (by decide) rfl rfl) ?_
    refine t_q (q_load1 Try.isAgg26 rfl (hS.cell (by repeat first | exact .here _ _ | assumption | apply Pick.there) rfl)) ?_
    refine t_q (q_mv (.int _ _) rfl) ?_
    refine t_q (q_leq rfl rfl) ?_
    refine t_q (q_as (.bool _) rfl) ?_
    refine t_nil ?_
    refine c_cond rfl ?_ ?_
    · intro hc5
      have hc5d := of_decide_eq_true hc5
      have hD : vschedE M s n a c.version c.at_ i = 55 := by unfold vschedE; rw [if_neg h1, if_pos hc5d]
      refine c_seq ?_
      refine c_region ?_
      refine t_q (q_assign) ?_
      refine t_nil ?_
      refine c_ret ?_
      refine r_one rfl rfl ?_
      rw [hD]
      exact ⟨rfl, ((((hS.pick (A := blkA g3 34 [.int .i64 s.active, .int .i64 s.previous, .int .i64 s.pending, .int .u64 s.at_, .int .i64 s.shadow, .pointer (some ⟨g, 0, none⟩), .int .i64 n, .int .u64 (a 0), .int .u64 (a 1), .int .u64 (a 2), .int .u64 (a 3), .int .u64 (a 4), .int .u64 (a 5), .int .u64 (a 6)]) (by repeat first | exact .here _ _ | assumption | apply Pick.there)).drop.pick (A := blkA g4 49 [.int .i64 c.kind, .int .u64 c.client, .int .u64 c.req, .int .i64 c.account, .int .u64 c.id, .int .i64 c.side, .int .i64 c.typ, .int .i64 c.asset, .int .i64 c.price, .int .i64 c.qty, .int .i64 c.version, .int .i64 c.replica, .int .u64 c.at_, .int .i64 c.rules.version, .slice c.rules.ticks.A c.rules.ticks.l.length c.rules.ticks.c, .int .i64 c.rules.lot, .int .i64 c.rules.band, .slice c.rules.fees.A c.rules.fees.l.length c.rules.fees.c, .int .i64 c.rules.round, .int .i64 c.rules.priority, .int .i64 c.rules.self, .int .i64 c.rules.layout]) (by repeat first | exact .here _ _ | assumption | apply Pick.there)).drop.pick (A := rdsA _) (by repeat first | exact .here _ _ | assumption | apply Pick.there)).pick (A := regA W g _ _) (by repeat first | exact .here _ _ | assumption | apply Pick.there))⟩
    · intro hc5
      have hc5d := of_decide_eq_false hc5
      have h2 := hc5d
      refine c_seq ?_
      refine c_region ?_
      refine t_q (q_fieldAddr 12 Try.runUnderlying49 rfl Try.sizeOf26 (by decide) rfl rfl) ?_
      refine t_q (q_load1 Try.isAgg26 rfl (hS.cell (by repeat first | exact .here _ _ | assumption | apply Pick.there) rfl)) ?_
      refine t_q (q_mv (.int _ _) rfl) ?_
      refine t_q (q_sub_u64 rfl rfl (by omega)) ?_
      refine t_q (q_gtr rfl rfl) ?_
      refine t_q (q_as (.bool _) rfl) ?_
      refine t_nil ?_
      refine c_cond rfl ?_ ?_
      · intro hc7
        have hc7d := of_decide_eq_true hc7
        have hD : vschedE M s n a c.version c.at_ i = 10 := by unfold vschedE; rw [if_neg h1, if_neg h2, if_pos hc7d]
        refine c_seq ?_
        refine c_region ?_
        refine t_q (q_assign) ?_
        refine t_nil ?_
        refine c_ret ?_
        refine r_one rfl rfl ?_
        rw [hD]
        exact ⟨rfl, ((((hS.pick (A := blkA g3 34 [.int .i64 s.active, .int .i64 s.previous, .int .i64 s.pending, .int .u64 s.at_, .int .i64 s.shadow, .pointer (some ⟨g, 0, none⟩), .int .i64 n, .int .u64 (a 0), .int .u64 (a 1), .int .u64 (a 2), .int .u64 (a 3), .int .u64 (a 4), .int .u64 (a 5), .int .u64 (a 6)]) (by repeat first | exact .here _ _ | assumption | apply Pick.there)).drop.pick (A := blkA g4 49 [.int .i64 c.kind, .int .u64 c.client, .int .u64 c.req, .int .i64 c.account, .int .u64 c.id, .int .i64 c.side, .int .i64 c.typ, .int .i64 c.asset, .int .i64 c.price, .int .i64 c.qty, .int .i64 c.version, .int .i64 c.replica, .int .u64 c.at_, .int .i64 c.rules.version, .slice c.rules.ticks.A c.rules.ticks.l.length c.rules.ticks.c, .int .i64 c.rules.lot, .int .i64 c.rules.band, .slice c.rules.fees.A c.rules.fees.l.length c.rules.fees.c, .int .i64 c.rules.round, .int .i64 c.rules.priority, .int .i64 c.rules.self, .int .i64 c.rules.layout]) (by repeat first | exact .here _ _ | assumption | apply Pick.there)).drop.pick (A := rdsA _) (by repeat first | exact .here _ _ | assumption | apply Pick.there)).pick (A := regA W g _ _) (by repeat first | exact .here _ _ | assumption | apply Pick.there))⟩
      · intro hc7
        have hc7d := of_decide_eq_false hc7
        have h3 := hc7d
        refine c_seq ?_
        refine c_region ?_
        refine t_q (q_fieldAddr 6 Try.runUnderlying34 rfl Try.sizeOf32 (by decide) rfl rfl) ?_
        refine t_q (q_cast (v' := .agg (tcs n a).toArray) (q_load_sub Try.isAgg32 Try.sizeOf32 rfl (hS.blk (by repeat first | exact .here _ _ | assumption | apply Pick.there)) (by show 0 + 6 + 8 ≤ 14; decide)) (by rfl)) ?_
        refine t_q (q_fieldAddr 10 Try.runUnderlying49 rfl Try.sizeOf3 (by decide) rfl rfl) ?_
        refine t_q (q_load1 Try.isAgg3 rfl (hS.cell (by repeat first | exact .here _ _ | assumption | apply Pick.there) rfl)) ?_
        refine t_call Try.call19 (all_calls (n := n) (v := c.version) (s := a) hn hs) rfl ?_
        rintro e w ⟨rfl, hT⟩
        refine ⟨_, rfl, ?_⟩
        replace hS := hS.after hT
        refine t_q (q_not rfl) ?_
        refine t_q (q_as (.bool _) rfl) ?_
        refine t_nil ?_
        refine c_cond rfl ?_ ?_
        · intro hc9
          have hD : vschedE M s n a c.version c.at_ i = 61 := by unfold vschedE; rw [if_neg h1, if_neg h2, if_neg (by omega), if_pos (bnt (by assumption : (!allT n a c.version) = true))]
          refine c_seq ?_
          refine c_region ?_
          refine t_q (q_assign) ?_
          refine t_nil ?_
          refine c_ret ?_
          refine r_one rfl rfl ?_
          rw [hD]
          exact ⟨rfl, ((((hS.pick (A := blkA g3 34 [.int .i64 s.active, .int .i64 s.previous, .int .i64 s.pending, .int .u64 s.at_, .int .i64 s.shadow, .pointer (some ⟨g, 0, none⟩), .int .i64 n, .int .u64 (a 0), .int .u64 (a 1), .int .u64 (a 2), .int .u64 (a 3), .int .u64 (a 4), .int .u64 (a 5), .int .u64 (a 6)]) (by repeat first | exact .here _ _ | assumption | apply Pick.there)).drop.pick (A := blkA g4 49 [.int .i64 c.kind, .int .u64 c.client, .int .u64 c.req, .int .i64 c.account, .int .u64 c.id, .int .i64 c.side, .int .i64 c.typ, .int .i64 c.asset, .int .i64 c.price, .int .i64 c.qty, .int .i64 c.version, .int .i64 c.replica, .int .u64 c.at_, .int .i64 c.rules.version, .slice c.rules.ticks.A c.rules.ticks.l.length c.rules.ticks.c, .int .i64 c.rules.lot, .int .i64 c.rules.band, .slice c.rules.fees.A c.rules.fees.l.length c.rules.fees.c, .int .i64 c.rules.round, .int .i64 c.rules.priority, .int .i64 c.rules.self, .int .i64 c.rules.layout]) (by repeat first | exact .here _ _ | assumption | apply Pick.there)).drop.pick (A := rdsA _) (by repeat first | exact .here _ _ | assumption | apply Pick.there)).pick (A := regA W g _ _) (by repeat first | exact .here _ _ | assumption | apply Pick.there))⟩
        · intro hc9
          have hD : vschedE M s n a c.version c.at_ i = 0 := by unfold vschedE; rw [if_neg h1, if_neg h2, if_neg (by omega), if_neg (by rw [bnf (by assumption : (!allT n a c.version) = false)]; decide)]
          refine c_skip ?_
          refine c_seq ?_
          refine c_region ?_
          refine t_q (q_assign) ?_
          refine t_nil ?_
          refine c_ret ?_
          refine r_one rfl rfl ?_
          rw [hD]
          exact ⟨rfl, ((((hS.pick (A := blkA g3 34 [.int .i64 s.active, .int .i64 s.previous, .int .i64 s.pending, .int .u64 s.at_, .int .i64 s.shadow, .pointer (some ⟨g, 0, none⟩), .int .i64 n, .int .u64 (a 0), .int .u64 (a 1), .int .u64 (a 2), .int .u64 (a 3), .int .u64 (a 4), .int .u64 (a 5), .int .u64 (a 6)]) (by repeat first | exact .here _ _ | assumption | apply Pick.there)).drop.pick (A := blkA g4 49 [.int .i64 c.kind, .int .u64 c.client, .int .u64 c.req, .int .i64 c.account, .int .u64 c.id, .int .i64 c.side, .int .i64 c.typ, .int .i64 c.asset, .int .i64 c.price, .int .i64 c.qty, .int .i64 c.version, .int .i64 c.replica, .int .u64 c.at_, .int .i64 c.rules.version, .slice c.rules.ticks.A c.rules.ticks.l.length c.rules.ticks.c, .int .i64 c.rules.lot, .int .i64 c.rules.band, .slice c.rules.fees.A c.rules.fees.l.length c.rules.fees.c, .int .i64 c.rules.round, .int .i64 c.rules.priority, .int .i64 c.rules.self, .int .i64 c.rules.layout]) (by repeat first | exact .here _ _ | assumption | apply Pick.there)).drop.pick (A := rdsA _) (by repeat first | exact .here _ _ | assumption | apply Pick.there)).pick (A := regA W g _ _) (by repeat first | exact .here _ _ | assumption | apply Pick.there))⟩
end Go.Proofs.Ytmgobaojioaioaa
