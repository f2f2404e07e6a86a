/- Archives: what the laws use. -/
import Derived.Test.YtlppgpidakfnlaaAj
import Derived.Test.YtlppgpidakfnlaaAk
import Derived.Test.YtlppgpidakfnlaaAt
import Derived.Test.YtlppgpidakfnlaaAf
import Derived.Test.YtlppgpidakfnlaaAv
import Derived.Test.YtlppgpidakfnlaaOp
import Derived.Test.YtlppgpidakfnlaaCl
namespace Go.Proofs.Ytlppgpidakfnlaa
open Go Go.RowKit Go.Lib
variable {W : World}
structure SnapV where
  index : Int
  term : Int
  body : Sl UInt8
instance : Inhabited SnapV := ⟨⟨0, 0, default⟩⟩
def SnapV.cells (x : SnapV) : List Value := [.int .u64 x.index, .int .u64 x.term, .slice x.body.A x.body.l.length x.body.c]
structure SnapV.Ok (w : World) (x : SnapV) : Prop where
  index : 0 ≤ x.index ∧ x.index < 18446744073709551616
  term : 0 ≤ x.term ∧ x.term < 18446744073709551616
  body : (Sl.Ok 1 (fun b : UInt8 => [bv b]) (fun _ => True) w) x.body
set_option maxRecDepth 100000 in
theorem opn_SnapV {H : Type} {enc : TypeId × Value → H} {w : World} : Opn enc Try.prog w 45 SnapV.cells (SnapV.Ok w) := fun _ _ _ h => by
  obtain ⟨parts, rfl, hl, hf⟩ := opn_parts Try.underlying45 (by kernel_rfl) (by kernel_rfl) h
  match parts, hl with
  | [p0, p1, p2], _ =>
    obtain ⟨f0, x0, h0⟩ := hf 0 _ rfl
    obtain ⟨a0, e0, k0⟩ := (opn_u64 Try.underlying43) _ _ _ h0
    replace e0 : p0 = _ := e0
    obtain ⟨f1, x1, h1⟩ := hf 1 _ rfl
    obtain ⟨a1, e1, k1⟩ := (opn_u64 Try.underlying43) _ _ _ h1
    replace e1 : p1 = _ := e1
    obtain ⟨f2, x2, h2⟩ := hf 2 _ rfl
    obtain ⟨a2, e2, k2⟩ := (opn_slice (β := UInt8) (size := 1) Try.underlying25 (by kernel_rfl) (by decide) (opn_byte Try.underlying5)) _ _ _ h2
    replace e2 : p2 = _ := e2
    subst e0 e1 e2
    exact ⟨⟨a0, a1, a2⟩, by simp [SnapV.cells, Sl.cells], ⟨k0, k1, k2⟩⟩
structure AOp where
  kind : Int
  by_ : Int
  raw : Bool
  s : SnapV
instance : Inhabited AOp := ⟨⟨0, 0, false, default⟩⟩
def AOp.cells (x : AOp) : List Value := [.int .i64 x.kind, .int .u64 x.by_, .bool x.raw] ++ (SnapV.cells x.s)
structure AOp.Ok (w : World) (x : AOp) : Prop where
  kind : -9223372036854775808 ≤ x.kind ∧ x.kind ≤ 9223372036854775807
  by_ : 0 ≤ x.by_ ∧ x.by_ < 18446744073709551616
  raw : True
  s : (SnapV.Ok w) x.s
set_option maxRecDepth 100000 in
theorem opn_AOp {H : Type} {enc : TypeId × Value → H} {w : World} : Opn enc Try.prog w 64 AOp.cells (AOp.Ok w) := fun _ _ _ h => by
  obtain ⟨parts, rfl, hl, hf⟩ := opn_parts Try.underlying64 (by kernel_rfl) (by kernel_rfl) h
  match parts, hl with
  | [p0, p1, p2, p3], _ =>
    obtain ⟨f0, x0, h0⟩ := hf 0 _ rfl
    obtain ⟨a0, e0, k0⟩ := (opn_i64 Try.underlying3) _ _ _ h0
    replace e0 : p0 = _ := e0
    obtain ⟨f1, x1, h1⟩ := hf 1 _ rfl
    obtain ⟨a1, e1, k1⟩ := (opn_u64 Try.underlying43) _ _ _ h1
    replace e1 : p1 = _ := e1
    obtain ⟨f2, x2, h2⟩ := hf 2 _ rfl
    obtain ⟨a2, e2, k2⟩ := (opn_bool Try.underlying4) _ _ _ h2
    replace e2 : p2 = _ := e2
    obtain ⟨f3, x3, h3⟩ := hf 3 _ rfl
    obtain ⟨a3, e3, k3⟩ := opn_SnapV _ _ _ h3
    replace e3 : p3 = _ := e3
    subst e0 e1 e2 e3
    exact ⟨⟨a0, a1, a2, a3⟩, by simp [AOp.cells], ⟨k0, k1, k2, k3⟩⟩
def RdAO (w : World) (A : Option Addr) (l : List AOp) : Prop := Rd w 6 A l.length (fun i => (l.getD i default).cells)
theorem RdAO.st {w : World} {Q : List Asn} {A : Option Addr} {l : List AOp} (h : RdAO W A l) (hS : St W w Q) : RdAO w A l := Rd.st h hS
def opI (x : AOp) (now : Nat) : Nat := if x.raw = true then x.s.index.toNat else (now + x.by_.toNat % 3) % 18446744073709551616
def opT (x : AOp) : Nat := if x.raw = true then x.s.term.toNat else x.s.term.toNat % 9
def opSn (x : AOp) (now : Nat) : Sn := ⟨opI x now, opT x, x.s.body.l⟩
def fewB (l : List AOp) : Bool := (l.all fun x => decide (x.s.body.l.length ≤ 5000)) && decide (l.length ≤ 40)
theorem few_at {l : List AOp} (h : fewB l = true) {j : Nat} (hj : j < l.length) : (l.getD j default).s.body.l.length ≤ 5000 := by
  unfold fewB at h
  simp only [Bool.and_eq_true, List.all_eq_true, decide_eq_true_eq] at h
  exact h.1 _ (getD_mem hj)
theorem few_len {l : List AOp} (h : fewB l = true) : l.length ≤ 40 := by
  unfold fewB at h
  simp only [Bool.and_eq_true, decide_eq_true_eq] at h
  exact h.2
theorem few_no {l : List AOp} {j : Nat} (hj : j < l.length) (h : 5000 < (l.getD j default).s.body.l.length) : fewB l = false := by
  cases hb : fewB l with
  | false => rfl
  | true => have := few_at hb hj; omega
theorem few_yes {l : List AOp} (h : ∀ j, j < l.length → (l.getD j default).s.body.l.length ≤ 5000) : fewB l = decide (l.length ≤ 40) := by
  unfold fewB
  have : (l.all fun x => decide (x.s.body.l.length ≤ 5000)) = true := by
    rw [List.all_eq_true]
    intro x hx
    obtain ⟨j, hj, rfl⟩ := List.mem_iff_getElem.1 hx
    have := h j hj
    rw [List.getD_eq_getElem?_getD, List.getElem?_eq_getElem hj] at this
    exact decide_eq_true this
  rw [this, Bool.true_and]
theorem op_good {x : AOp} (hx : x.Ok W) {now : Nat} : opI x now < 18446744073709551616 ∧ opT x < 18446744073709551616 := by
  have h1 := hx.s.index
  have h2 := hx.s.term
  unfold opI opT
  split
  · omega
  · omega
theorem D0_files {n : Nat} : AFiles D0 n (-1) sn0 := .inl ⟨rfl, rfl, rfl, rfl⟩
theorem D0_ok : DGood D0 ∧ D0.gone = false ∧ D0.fuse < 0 := ⟨DGood.zero, rfl, by decide⟩
attribute [local irreducible] blkA rowA rdrA rdO dskA arA
set_option maxRecDepth 100000 in
theorem alight_calls {i t : Int} {B : Option Addr} {n c : Nat} : Calls Try.prog 25 #[.agg #[.int .u64 i, .int .u64 t, .slice B n c]] W fun e w' => e = .returned (.bool (decide (n ≤ 5000))) ∧ St W w' [] := by
  have hS := St.init W
  refine calls_of_wpE (args := [_]) Try.func25 rfl rfl rfl ?_
  refine c_seq ?_
  refine c_region ?_
  refine t_box (v := (.agg _)) rfl rfl hS (fun g1 w hS => ?_)
  refine t_q (q_assign) ?_
  refine t_nil ?_
  refine c_seq ?_
  refine c_region ?_
  refine t_q (q_fieldAddr 2 Try.runUnderlying45 rfl Try.sizeOf25 (by decide) rfl rfl) ?_
  refine t_q (q_load1 Try.isAgg25 rfl (hS.cell (by repeat first | exact .here _ _ | assumption | apply Pick.there) rfl)) ?_
  refine t_q (q_len_slice Try.runUnderlying25 rfl) ?_
  refine t_q (q_leq rfl rfl) ?_
  refine t_q (q_as (.bool _) rfl) ?_
  refine t_nil ?_
  refine c_ret ?_
  refine r_one rfl rfl ?_
  refine ⟨congrArg (fun b => Ending.returned (.bool b)) ?_, hS.nil⟩
  rw [decide_eq_decide]; omega
set_option maxRecDepth 100000 in
theorem asame_calls {i t i' t' : Int} {Ba Bb : Option Addr} {a b : List UInt8} {ca cb : Nat} (ha : RdB W Ba a) (hb : RdB W Bb b) : Calls Try.prog 30 #[.agg #[.int .u64 i, .int .u64 t, .slice Ba a.length ca], .agg #[.int .u64 i', .int .u64 t', .slice Bb b.length cb]] W fun e w' => e = .returned (.bool (decide (i = i' ∧ t = t' ∧ a = b))) ∧ St W w' [] := by
  have hS := St.init W
  refine calls_of_wpE (args := [_, _]) Try.func30 rfl rfl rfl ?_
  refine c_seq ?_
  refine c_region ?_
  refine t_box (v := (.agg _)) rfl rfl hS (fun g2 w hS => ?_)
  refine t_box (v := (.agg _)) rfl rfl hS (fun g3 w hS => ?_)
  refine t_q (q_assign) ?_
  refine t_nil ?_
  refine c_seq ?_
  refine c_region ?_
  refine t_q (q_fieldAddr 0 Try.runUnderlying45 rfl Try.sizeOf43 (by decide) rfl rfl) ?_
  refine t_q (q_load1 Try.isAgg43 rfl (hS.cell (by repeat first | exact .here _ _ | assumption | apply Pick.there) rfl)) ?_
  refine t_q (q_fieldAddr 0 Try.runUnderlying50 rfl Try.sizeOf43 (by decide) rfl rfl) ?_
  refine t_q (q_load1 Try.isAgg43 rfl (hS.cell (by repeat first | exact .here _ _ | assumption | apply Pick.there) rfl)) ?_
  refine t_q (q_eql rfl rfl) ?_
  refine t_q (q_mv (.bool _) rfl) ?_
  refine t_case 10 rfl ?_ ?_
  · intro hg2
    have hg2d := of_decide_eq_true hg2
    refine t_yes rfl rfl hg2 ?_
    refine t_q (q_fieldAddr 1 Try.runUnderlying45 rfl Try.sizeOf43 (by decide) rfl rfl) ?_
    refine t_yes rfl rfl hg2 ?_
    refine t_q (q_load1 Try.isAgg43 rfl (hS.cell (by repeat first | exact .here _ _ | assumption | apply Pick.there) rfl)) ?_
    refine t_yes rfl rfl hg2 ?_
    refine t_q (q_fieldAddr 1 Try.runUnderlying50 rfl Try.sizeOf43 (by decide) rfl rfl) ?_
    refine t_yes rfl rfl hg2 ?_
    refine t_q (q_load1 Try.isAgg43 rfl (hS.cell (by repeat first | exact .here _ _ | assumption | apply Pick.there) rfl)) ?_
    refine t_yes rfl rfl hg2 ?_
    refine t_q (q_eql rfl rfl) ?_
    refine t_q (q_pick_t rfl hg2) ?_
    refine t_q (q_mv (.bool _) rfl) ?_
    refine t_case 17 rfl ?_ ?_
    · intro hg4
      have hg4d := of_decide_eq_true hg4
      refine t_yes rfl rfl hg4 ?_
      refine t_q (q_fieldAddr 2 Try.runUnderlying45 rfl Try.sizeOf25 (by decide) rfl rfl) ?_
      refine t_yes rfl rfl hg4 ?_
      refine t_q (q_load1 Try.isAgg25 rfl (hS.cell (by repeat first | exact .here _ _ | assumption | apply Pick.there) rfl)) ?_
      refine t_yes rfl rfl hg4 ?_
      refine t_q (q_string Try.runUnderlying25 Try.runUnderlying5 Try.runUnderlying9 rfl rfl (ha.st hS)) ?_
      refine t_yes rfl rfl hg4 ?_
      refine t_q (q_fieldAddr 2 Try.runUnderlying50 rfl Try.sizeOf25 (by decide) rfl rfl) ?_
      refine t_yes rfl rfl hg4 ?_
      refine t_q (q_load1 Try.isAgg25 rfl (hS.cell (by repeat first | exact .here _ _ | assumption | apply Pick.there) rfl)) ?_
      refine t_yes rfl rfl hg4 ?_
      refine t_q (q_string Try.runUnderlying25 Try.runUnderlying5 Try.runUnderlying9 rfl rfl (hb.st hS)) ?_
      refine t_yes rfl rfl hg4 ?_
      refine t_q (q_eql_string rfl rfl) ?_
      refine t_q (q_pick_t rfl hg4) ?_
      refine t_q (q_as (.bool _) rfl) ?_
      refine t_nil ?_
      refine c_ret ?_
      refine r_one rfl rfl ?_
      refine ⟨congrArg (fun b => Ending.returned (.bool b)) ?_, hS.nil⟩
      first | (simp [*]; done) | (rw [decide_eq_decide]; constructor <;> (intro h; simp_all)) | (simp_all; done)
    · intro hg4
      have hg4d := of_decide_eq_false hg4
      refine t_no rfl rfl (by rw [hg4]; decide) ?_
      refine t_no rfl rfl (by rw [hg4]; decide) ?_
      refine t_no rfl rfl (by rw [hg4]; decide) ?_
      refine t_no rfl rfl (by rw [hg4]; decide) ?_
      refine t_no rfl rfl (by rw [hg4]; decide) ?_
      refine t_no rfl rfl (by rw [hg4]; decide) ?_
      refine t_no rfl rfl (by rw [hg4]; decide) ?_
      refine t_q (q_pick_f rfl hg4) ?_
      refine t_q (q_as (.bool _) rfl) ?_
      refine t_nil ?_
      refine c_ret ?_
      refine r_one rfl rfl ?_
      refine ⟨congrArg (fun b => Ending.returned (.bool b)) ?_, hS.nil⟩
      first | (simp [*]; done) | (rw [decide_eq_decide]; constructor <;> (intro h; simp_all)) | (simp_all; done)
  · intro hg2
    have hg2d := of_decide_eq_false hg2
    refine t_no rfl rfl (by rw [hg2]; decide) ?_
    refine t_no rfl rfl (by rw [hg2]; decide) ?_
    refine t_no rfl rfl (by rw [hg2]; decide) ?_
    refine t_no rfl rfl (by rw [hg2]; decide) ?_
    refine t_no rfl rfl (by rw [hg2]; decide) ?_
    refine t_q (q_pick_f rfl hg2) ?_
    refine t_q (q_mv (.bool _) rfl) ?_
    refine t_no rfl rfl (by decide) ?_
    refine t_no rfl rfl (by decide) ?_
    refine t_no rfl rfl (by decide) ?_
    refine t_no rfl rfl (by decide) ?_
    refine t_no rfl rfl (by decide) ?_
    refine t_no rfl rfl (by decide) ?_
    refine t_no rfl rfl (by decide) ?_
    refine t_q (q_pick_f rfl rfl) ?_
    refine t_q (q_as (.bool _) rfl) ?_
    refine t_nil ?_
    refine c_ret ?_
    refine r_one rfl rfl ?_
    refine ⟨congrArg (fun b => Ending.returned (.bool b)) ?_, hS.nil⟩
    first | (simp [*]; done) | (rw [decide_eq_decide]; constructor <;> (intro h; simp_all)) | (simp_all; done)
set_option maxRecDepth 100000 in
theorem snap_calls {V : World} {x : AOp} {now : Nat} (hx : x.Ok V) (hn : now < 18446744073709551616) : Calls Try.prog 34 #[.agg x.cells.toArray, .int .u64 (now : Int)] W fun e w' => e = .returned (.agg #[.int .u64 (opI x now : Int), .int .u64 (opT x : Int), .slice x.s.body.A x.s.body.l.length x.s.body.c]) ∧ St W w' [] := by
  have h1 := hx.s.index
  have h2 := hx.s.term
  have h3 := hx.by_
  have hS := St.init W
  refine calls_of_wpE (args := [_, _]) Try.func34 rfl rfl rfl ?_
  refine c_seq ?_
  refine c_region ?_
  refine t_box (v := (.agg _)) rfl rfl hS (fun g2 w hS => ?_)
  replace hS := hS.recast (show _ = blkA g2 64 [.int .i64 x.kind, .int .u64 x.by_, .bool x.raw, .int .u64 x.s.index, .int .u64 x.s.term, .slice x.s.body.A x.s.body.l.length x.s.body.c] from rfl)
  refine t_alloc Try.zeroValue45 rfl hS (fun g4 w hS => ?_)
  refine t_nil ?_
  refine c_seq ?_
  refine c_region ?_
  refine t_q (q_fieldAddr 3 Try.runUnderlying64 rfl Try.sizeOf45 (by decide) rfl rfl) ?_
  refine t_q (q_cast (v' := .agg #[.int .u64 x.s.index, .int .u64 x.s.term, .slice x.s.body.A x.s.body.l.length x.s.body.c]) (q_load_sub Try.isAgg45 Try.sizeOf45 rfl (hS.blk (by repeat first | exact .here _ _ | assumption | apply Pick.there)) (by show 0 + 3 + 3 ≤ 6; decide)) (rfl)) ?_
  refine t_alloc Try.zeroValue45 rfl hS (fun g5 w hS => ?_)
  refine t_store (v := (.agg _)) Try.sizeOf45 hS (by repeat first | exact .here _ _ | assumption | apply Pick.there) rfl rfl rfl rfl rfl rfl (fun w hS => ?_)
  replace hS := hS.recast (show _ = blkA g5 45 [.int .u64 x.s.index, .int .u64 x.s.term, .slice x.s.body.A x.s.body.l.length x.s.body.c] from rfl)
  refine t_nil ?_
  refine c_seq ?_
  refine c_seq ?_
  refine c_region ?_
  refine t_q (q_fieldAddr 2 Try.runUnderlying64 rfl Try.sizeOf4 (by decide) rfl rfl) ?_
  refine t_q (q_load1 Try.isAgg4 rfl (hS.cell (by repeat first | exact .here _ _ | assumption | apply Pick.there) rfl)) ?_
  refine t_q (q_not rfl) ?_
  refine t_nil ?_
  refine c_cond rfl ?_ ?_
  · intro hc2
    have hrw : ¬ x.raw = true := by have h := not_back hc2; rw [h]; decide
    have e1 : (((now : Int) + x.by_ % 3) % 18446744073709551616) = (opI x now : Int) := by unfold opI; rw [if_neg hrw]; omega
    have e2 : x.s.term % 9 = (opT x : Int) := by unfold opT; rw [if_neg hrw]; omega
    refine c_region ?_
    refine t_q (q_mv (.int _ _) rfl) ?_
    refine t_q (q_fieldAddr 1 Try.runUnderlying64 rfl Try.sizeOf43 (by decide) rfl rfl) ?_
    refine t_q (q_load1 Try.isAgg43 rfl (hS.cell (by repeat first | exact .here _ _ | assumption | apply Pick.there) rfl)) ?_
    refine t_q (q_rem_n rfl rfl (by omega) (by omega)) ?_
    refine t_q (q_addm_u64 rfl rfl) ?_
    refine t_q (q_fieldAddr 1 Try.runUnderlying45 rfl Try.sizeOf43 (by decide) rfl rfl) ?_
    refine t_q (q_load1 Try.isAgg43 rfl (hS.cell (by repeat first | exact .here _ _ | assumption | apply Pick.there) rfl)) ?_
    refine t_q (q_rem_n rfl rfl (by omega) (by omega)) ?_
    refine t_q (q_fieldAddr 0 Try.runUnderlying45 rfl Try.sizeOf43 (by decide) rfl rfl) ?_
    refine t_store (v := (.int _ _)) Try.sizeOf43 hS (by repeat first | exact .here _ _ | assumption | apply Pick.there) rfl rfl rfl rfl rfl rfl (fun w hS => ?_)
    refine t_q (q_fieldAddr 1 Try.runUnderlying45 rfl Try.sizeOf43 (by decide) rfl rfl) ?_
    refine t_store (v := (.int _ _)) Try.sizeOf43 hS (by repeat first | exact .here _ _ | assumption | apply Pick.there) rfl rfl rfl rfl rfl rfl (fun w hS => ?_)
    replace hS := hS.recast (show _ = blkA g5 45 [.int .u64 (((now : Int) + x.by_ % 3) % 18446744073709551616), .int .u64 (x.s.term % 9), .slice x.s.body.A x.s.body.l.length x.s.body.c] from rfl)
    refine t_nil ?_
    refine c_seq ?_
    refine c_region ?_
    refine t_q (q_load_blk Try.isAgg45 Try.sizeOf45 rfl (hS.blk (by repeat first | exact .here _ _ | assumption | apply Pick.there)) rfl) ?_
    refine t_store (v := (.agg _)) Try.sizeOf45 hS (by repeat first | exact .here _ _ | assumption | apply Pick.there) rfl rfl rfl rfl rfl rfl (fun w hS => ?_)
    skip
    refine t_nil ?_
    refine c_ret ?_
    refine r_one rfl (res1_cellN Try.isAgg45 Try.sizeOf45 rfl (hS.blk (by repeat first | exact .here _ _ | assumption | apply Pick.there)) rfl) ?_
    rw [← e1, ← e2]
    exact ⟨rfl, hS.nil⟩
  · intro hc2
    have hrw : x.raw = true := not_back hc2
    have e1 : x.s.index = (opI x now : Int) := by unfold opI; rw [if_pos hrw]; omega
    have e2 : x.s.term = (opT x : Int) := by unfold opT; rw [if_pos hrw]; omega
    refine c_skip ?_
    refine c_seq ?_
    refine c_region ?_
    refine t_q (q_load_blk Try.isAgg45 Try.sizeOf45 rfl (hS.blk (by repeat first | exact .here _ _ | assumption | apply Pick.there)) rfl) ?_
    refine t_store (v := (.agg _)) Try.sizeOf45 hS (by repeat first | exact .here _ _ | assumption | apply Pick.there) rfl rfl rfl rfl rfl rfl (fun w hS => ?_)
    skip
    refine t_nil ?_
    refine c_ret ?_
    refine r_one rfl (res1_cellN Try.isAgg45 Try.sizeOf45 rfl (hS.blk (by repeat first | exact .here _ _ | assumption | apply Pick.there)) rfl) ?_
    rw [← e1, ← e2]
    exact ⟨rfl, hS.nil⟩
set_option maxRecDepth 100000 in
theorem few_calls {A : Option Addr} {c : Nat} {l : List AOp} (hl : RdAO W A l) (hm : l.length ≤ maxLen) : Calls Try.prog 31 #[.slice A l.length c] W fun e w' => e = .returned (.bool (fewB l)) ∧ St W w' [] := by
  have hS := St.init W
  unfold maxLen at hm
  refine calls_of_wpE (args := [_]) Try.func31 rfl rfl rfl ?_
  refine c_seq ?_
  refine c_region ?_
  refine t_q (q_assign) ?_
  refine t_nil ?_
  refine c_seq ?_
  refine c_seq ?_
  refine c_region ?_
  refine t_q (q_mv (.slice _ _ _) rfl) ?_
  refine t_q (q_len_slice Try.runUnderlying56 rfl) ?_
  refine t_q (q_move) ?_
  refine t_nil ?_
  refine c_block ?_
  refine c_loop [2, 4, 7, 8, 9, 10, 11, 12, 13, 14, 15] (fun k σ w => ∃ j : Nat, σ 7 = .int .i64 (j : Int) ∧ j ≤ l.length ∧ l.length - j ≤ k ∧ (∀ i, i < j → (l.getD i default).s.body.l.length ≤ 5000) ∧ St W w []) (l.length) rfl (⟨0, rfl, by omega, by omega, fun i h => absurd h (by omega), hS⟩) ?_
  skip
  rintro k σ w ⟨j, h7, hj, hk, hall, hS⟩
  refine c_know 7 h7 ?_
  clear h7
  obtain ⟨x, hx⟩ : ∃ x, x = l.getD j default := ⟨_, rfl⟩
  refine c_seq ?_
  refine c_region ?_
  refine t_q (q_lss rfl rfl) ?_
  refine t_nil ?_
  refine c_seq ?_
  refine c_cond rfl ?_ ?_
  · intro hc2
    have hc2d := of_decide_eq_true hc2
    refine c_skip ?_
    refine c_seq ?_
    refine c_block ?_
    refine c_seq ?_
    refine c_region ?_
    first | refine t_index_nat Try.runUnderlying56 Try.sizeOf64 (hl.st hS) rfl rfl (by omega) (fun ad3 hl3 hx3 => ?_) | refine t_index Try.runUnderlying56 Try.sizeOf64 (hl.st hS) rfl rfl (by omega) (fun ad3 hl3 hx3 => ?_)
    refine t_q (q_loadN Try.isAgg64 Try.sizeOf64 rfl hl3 hx3) ?_
    refine t_alloc Try.zeroValue64 rfl hS (fun g4 w hS => ?_)
    refine t_store (v := (.agg _)) Try.sizeOf64 hS (by repeat first | exact .here _ _ | assumption | apply Pick.there) rfl rfl rfl rfl rfl rfl (fun w hS => ?_)
    replace hS := hS.recast (show blkA g4 64 _ = blkA g4 64 [.int .i64 x.kind, .int .u64 x.by_, .bool x.raw, .int .u64 x.s.index, .int .u64 x.s.term, .slice x.s.body.A x.s.body.l.length x.s.body.c] from by rw [hx]; rfl)
    refine t_nil ?_
    refine c_seq ?_
    refine c_region ?_
    refine t_q (q_fieldAddr 3 Try.runUnderlying64 rfl Try.sizeOf45 (by decide) rfl rfl) ?_
    refine t_q (q_cast (v' := .agg #[.int .u64 x.s.index, .int .u64 x.s.term, .slice x.s.body.A x.s.body.l.length x.s.body.c]) (q_load_sub Try.isAgg45 Try.sizeOf45 rfl (hS.blk (by repeat first | exact .here _ _ | assumption | apply Pick.there)) (by show 0 + 3 + 3 ≤ 6; decide)) (rfl)) ?_
    refine t_call Try.call25 (alight_calls) rfl ?_
    rintro e w ⟨rfl, hT⟩
    refine ⟨_, rfl, ?_⟩
    replace hS := hS.after hT
    refine t_q (q_not rfl) ?_
    refine t_nil ?_
    refine c_cond rfl ?_ ?_
    · intro hc5
      have hno := few_no (l := l) (j := j) (by omega) (by rw [← hx]; have h := of_decide_eq_false (not_back hc5); omega)
      refine c_seq ?_
      refine c_region ?_
      refine t_q (q_assign) ?_
      refine t_nil ?_
      refine c_ret ?_
      refine r_one rfl rfl ?_
      first
        | exact ⟨congrArg (fun b => Ending.returned (.bool b)) hno.symm, hS.nil⟩
        | exact ⟨congrArg (fun b => Ending.returned (.bool b)) (by rw [few_yes fun i hi => hall i (by omega), decide_eq_decide]; omega), hS⟩
    · intro hc5
      have hli : x.s.body.l.length ≤ 5000 := of_decide_eq_true (not_back hc5)
      refine c_skip ?_
      refine c_region ?_
      refine t_q (q_add_i64 rfl rfl (by omega)) ?_
      refine t_q (q_mv (.int _ _) rfl) ?_
      refine t_nil ?_
      exact ⟨k - 1, by omega, j + 1, rfl, by omega, by omega, fun i hi => (by
        rcases Nat.lt_or_ge i j with h | h
        · exact hall i h
        · have : i = j := by omega
          subst this; rw [← hx]; exact hli), hS.nil⟩
  · intro hc2
    have hc2d := of_decide_eq_false hc2
    refine c_exit ?_
    refine ite_t rfl ?_
    refine c_seq ?_
    refine c_region ?_
    refine t_q (q_mv (.slice _ _ _) rfl) ?_
    refine t_q (q_len_slice Try.runUnderlying56 rfl) ?_
    refine t_q (q_leq rfl rfl) ?_
    refine t_q (q_as (.bool _) rfl) ?_
    refine t_nil ?_
    refine c_ret ?_
    refine r_one rfl rfl ?_
    first
      | exact ⟨congrArg (fun b => Ending.returned (.bool b)) hno.symm, hS.nil⟩
      | exact ⟨congrArg (fun b => Ending.returned (.bool b)) (by rw [few_yes fun i hi => hall i (by omega), decide_eq_decide]; omega), hS⟩
theorem lv_open : opC D0 0 2 = (-1, sn0) := D0_files.opens
theorem lv_ok : snE 3 0 [120] = 0 ∧ snE 2 0 [] = 0 := by decide
theorem lv_disk : ∃ d, opD D0 0 (-1) 2 = d ∧ DGood d ∧ d.gone = false ∧ d.fuse < 0 ∧ d.calls ≤ 2 ∧ AFiles d 0 (-1) sn0 := by
  obtain ⟨h1, h2, h3, h4⟩ := opD_ok (n := 0) (c := -1) D0_ok.1 D0_ok.2.1 D0_ok.2.2 2
  exact ⟨_, rfl, h1, h2, by rw [h3]; exact D0_ok.2.2, h4, D0_files.opened D0_ok.1 D0_ok.2.1 D0_ok.2.2 (by decide)⟩
theorem lv_save {d : Dk} (hg : d.gone = false) (hf : d.fuse < 0) (h : AFiles d 0 (-1) sn0) : saE (⟨((0 : Nat) : Int), -1, sn0, false⟩ : Ar) d (⟨3, 0, [120]⟩ : Sn) = 0 ∧ saA (⟨((0 : Nat) : Int), -1, sn0, false⟩ : Ar) d (⟨3, 0, [120]⟩ : Sn) = ⟨((0 : Nat) : Int), 0, (⟨3, 0, [120]⟩ : Sn), false⟩ ∧ DGood d → DGood (saD (⟨((0 : Nat) : Int), -1, sn0, false⟩ : Ar) d (⟨3, 0, [120]⟩ : Sn)) := fun hh => by
  obtain ⟨r1, _, _, _, _, r6⟩ := h.saved (n := 0) (x := (⟨3, 0, [120]⟩ : Sn)) hg hf (by decide) lv_ok.1
  obtain ⟨_, _, e3⟩ := sa_5 (a := (⟨((0 : Nat) : Int), -1, sn0, false⟩ : Ar)) (d := d) (s := (⟨3, 0, [120]⟩ : Sn)) rfl lv_ok.1 (by intro h; exact absurd h.1 (by decide)) r1
  rw [e3]
  exact r6 hh.2.2
theorem lv_save2 {d : Dk} (hG : DGood d) (hg : d.gone = false) (hf : d.fuse < 0) (h : AFiles d 0 (-1) sn0) : saE (⟨((0 : Nat) : Int), -1, sn0, false⟩ : Ar) d (⟨3, 0, [120]⟩ : Sn) = 0 ∧ saA (⟨((0 : Nat) : Int), -1, sn0, false⟩ : Ar) d (⟨3, 0, [120]⟩ : Sn) = ⟨((0 : Nat) : Int), 0, (⟨3, 0, [120]⟩ : Sn), false⟩ ∧ DGood (saD (⟨((0 : Nat) : Int), -1, sn0, false⟩ : Ar) d (⟨3, 0, [120]⟩ : Sn)) ∧ (saD (⟨((0 : Nat) : Int), -1, sn0, false⟩ : Ar) d (⟨3, 0, [120]⟩ : Sn)).calls ≤ d.calls + 4 := by
  obtain ⟨r1, _, _, _, r5, r6⟩ := h.saved (n := 0) (x := (⟨3, 0, [120]⟩ : Sn)) hg hf (by decide) lv_ok.1
  obtain ⟨e1, e2, e3⟩ := sa_5 (a := (⟨((0 : Nat) : Int), -1, sn0, false⟩ : Ar)) (d := d) (s := (⟨3, 0, [120]⟩ : Sn)) rfl lv_ok.1 (by intro h; exact absurd h.1 (by decide)) r1
  rw [e1, e2, e3]
  exact ⟨rfl, rfl, r6 hG, r5⟩
set_option maxHeartbeats 1000000 in
set_option maxRecDepth 100000 in
theorem alives_calls : Calls Try.prog 26 #[] W fun e w' => e = .returned (.bool true) ∧ St W w' [] := by
  have hS := St.init W
  refine calls_of_wpE (args := []) Try.func26 rfl rfl rfl ?_
  refine c_seq ?_
  refine c_region ?_
  refine t_q (q_assign) ?_
  refine t_nil ?_
  refine c_seq ?_
  refine c_region ?_
  refine t_call Try.call32 (dnew_calls hS) rfl ?_
  rintro e w ⟨gd, rfl, hS⟩
  refine ⟨_, rfl, ?_⟩
  refine t_call Try.call33 (open_calls (d := D0) (n := 0) hS (by decide) D0_ok.1 D0_ok.2.1 D0_ok.2.2 (by decide)) rfl ?_
  rintro e w ⟨g9, rfl, hS⟩
  refine ⟨_, rfl, ?_⟩
  rw [lv_open] at hS
  obtain ⟨d, hd, hG, hg, hf, hc, hF⟩ := lv_disk
  rw [hd] at hS
  obtain ⟨s1, s2, s3, s4⟩ := lv_save2 hG hg hf hF
  refine t_q (q_mv (.tuple _) rfl) ?_
  refine t_q (q_extract rfl rfl) ?_
  refine t_q (q_extract rfl rfl) ?_
  refine t_q (q_as (.pointer _) rfl) ?_
  refine t_q (q_as (.int _ _) rfl) ?_
  refine t_nil ?_
  refine c_seq ?_
  refine c_region ?_
  refine t_q (q_mv (.pointer _) rfl) ?_
  refine t_build_bytes [_] Try.runUnderlying25 Try.sizeOf5 Try.zeroValue5 rfl rfl (by simp; try omega) (by decide) hS (fun g13 w hS => ?_)
  replace hS := hS
  refine t_mark Try.underlying25 Try.underlying5 hS (by repeat first | exact .here _ _ | assumption | apply Pick.there) rfl (fun w hS => ?_)
  replace hS := hS.recast (show _ = blkA g13 5 (([120] : List UInt8).map bv ++ List.replicate 0 (Value.int .u8 0)) (1, 1 + 1) from rfl)
  refine t_q (q_build (qs := [(0, 1), (1, 1), (2, 1)]) [(.int _ _), (.int _ _), (.slice _ _ _)] Try.zeroValue45 Try.runUnderlying45 ⟨rfl, Try.sizeOf43, rfl, Try.sizeOf43, rfl, Try.sizeOf25, trivial⟩ rfl rfl) ?_
  refine t_call Try.call35 (save_calls (a := (⟨((0 : Nat) : Int), -1, sn0, false⟩ : Ar)) (d := d) (i := 3) (t := 0) (bs := [120]) (((hS.pick (A := dskA gd d) (by repeat first | exact .here _ _ | assumption | apply Pick.there)).pick (A := arA g9 gd (⟨((0 : Nat) : Int), -1, sn0, false⟩ : Ar)) (by repeat first | exact .here _ _ | assumption | apply Pick.there))) (fun w h => frz_rdB (m := 1) (k := 0) (bs := [120]) h (.here _ _)) (by decide) (by decide) (by decide) hG (by omega) (by decide)) rfl ?_
  rintro e w ⟨rfl, hS⟩
  refine ⟨_, rfl, ?_⟩
  rw [s1]
  rw [s2] at hS
  refine t_q (q_as (.int _ _) rfl) ?_
  refine t_nil ?_
  refine c_seq ?_
  refine c_region ?_
  refine t_q (q_mv (.pointer _) rfl) ?_
  refine t_q (q_build (qs := [(0, 1), (1, 1), (2, 1)]) [(.int _ _), (.int _ _), (.slice _ _ _)] Try.zeroValue45 Try.runUnderlying45 ⟨rfl, Try.sizeOf43, rfl, Try.sizeOf43, rfl, Try.sizeOf25, trivial⟩ rfl rfl) ?_
  refine t_call Try.call35 (save_calls (a := ⟨((0 : Nat) : Int), 0, (⟨3, 0, [120]⟩ : Sn), false⟩) (d := saD (⟨((0 : Nat) : Int), -1, sn0, false⟩ : Ar) d (⟨3, 0, [120]⟩ : Sn)) (i := 2) (t := 0) (bs := []) hS (fun w h => Rd.none_ _ _ _ _) (by decide) (by decide) (by decide) s3 (by omega) (by decide)) rfl ?_
  rintro e w ⟨rfl, hS⟩
  refine ⟨_, rfl, ?_⟩
  obtain ⟨z1, z2, z3⟩ := sa_3 (a := ⟨((0 : Nat) : Int), 0, (⟨3, 0, [120]⟩ : Sn), false⟩) (d := saD (⟨((0 : Nat) : Int), -1, sn0, false⟩ : Ar) d (⟨3, 0, [120]⟩ : Sn)) (s := (⟨2, 0, []⟩ : Sn)) rfl lv_ok.2 ⟨by decide, by decide⟩
  rw [z1]
  rw [z2, z3] at hS
  refine t_q (q_as (.int _ _) rfl) ?_
  refine t_nil ?_
  refine c_seq ?_
  refine c_region ?_
  refine t_q (q_mv (.pointer _) rfl) ?_
  refine t_call Try.call36 (newest_calls hS (by repeat first | exact .here _ _ | assumption | apply Pick.there) (by decide)) rfl ?_
  rintro e w ⟨A22, c22, rfl, hS⟩
  refine ⟨_, rfl, ?_⟩
  refine t_q (q_mv (.tuple _) rfl) ?_
  refine t_q (q_extract rfl rfl) ?_
  refine t_q (q_extract rfl rfl) ?_
  refine t_alloc Try.zeroValue45 rfl hS (fun g5 w hS => ?_)
  refine t_store (v := (.agg _)) Try.sizeOf45 hS (by repeat first | exact .here _ _ | assumption | apply Pick.there) rfl rfl rfl rfl rfl rfl (fun w hS => ?_)
  replace hS := hS.recast (show _ = blkA g5 45 [.int .u64 3, .int .u64 0, .slice A22 [(120 : UInt8)].length c22] from rfl)
  refine t_q (q_as (.bool _) rfl) ?_
  refine t_nil ?_
  refine c_seq ?_
  refine c_region ?_
  refine t_q (q_mv (.int _ _) rfl) ?_
  refine t_q (q_cast (v' := .bool true) (q_eql rfl rfl) (by rfl)) ?_
  refine t_q (q_mv (.bool _) rfl) ?_
  refine t_yes rfl rfl rfl ?_
  refine t_q (q_mv (.int _ _) rfl) ?_
  refine t_yes rfl rfl rfl ?_
  refine t_q (q_cast (v' := .bool true) (q_eql rfl rfl) (by rfl)) ?_
  refine t_q (q_pick_t rfl rfl) ?_
  refine t_q (q_mv (.bool _) rfl) ?_
  refine t_yes rfl rfl rfl ?_
  refine t_q (q_mv (.int _ _) rfl) ?_
  refine t_yes rfl rfl rfl ?_
  refine t_q (q_cast (v' := .bool true) (q_eql rfl rfl) (by rfl)) ?_
  refine t_q (q_pick_t rfl rfl) ?_
  refine t_q (q_mv (.bool _) rfl) ?_
  refine t_yes rfl rfl rfl ?_
  refine t_q (q_mv (.bool _) rfl) ?_
  refine t_q (q_pick_t rfl rfl) ?_
  refine t_q (q_mv (.bool _) rfl) ?_
  refine t_yes rfl rfl rfl ?_
  refine t_q (q_fieldAddr 0 Try.runUnderlying45 rfl Try.sizeOf43 (by decide) rfl rfl) ?_
  refine t_yes rfl rfl rfl ?_
  refine t_q (q_load1 Try.isAgg43 rfl (hS.cell (by repeat first | exact .here _ _ | assumption | apply Pick.there) rfl)) ?_
  refine t_yes rfl rfl rfl ?_
  refine t_q (q_cast (v' := .bool true) (q_eql rfl rfl) (by rfl)) ?_
  refine t_q (q_pick_t rfl rfl) ?_
  refine t_q (q_mv (.bool _) rfl) ?_
  refine t_yes rfl rfl rfl ?_
  refine t_q (q_fieldAddr 2 Try.runUnderlying45 rfl Try.sizeOf25 (by decide) rfl rfl) ?_
  refine t_yes rfl rfl rfl ?_
  refine t_q (q_load1 Try.isAgg25 rfl (hS.cell (by repeat first | exact .here _ _ | assumption | apply Pick.there) rfl)) ?_
  refine t_yes rfl rfl rfl ?_
  refine t_q (q_string Try.runUnderlying25 Try.runUnderlying5 Try.runUnderlying9 rfl rfl (hS.rowRd (A := A22) (c := c22) (bs := [120]) (by repeat first | exact .here _ _ | assumption | apply Pick.there) rfl)) ?_
  refine t_yes rfl rfl rfl ?_
  refine t_q (q_cast (v' := .bool true) (q_eql_string rfl rfl) (by rfl)) ?_
  refine t_q (q_pick_t rfl rfl) ?_
  refine t_q (q_as (.bool _) rfl) ?_
  refine t_nil ?_
  refine c_ret ?_
  refine r_one rfl rfl ?_
  exact ⟨rfl, hS.nil⟩
end Go.Proofs.Ytlppgpidakfnlaa
