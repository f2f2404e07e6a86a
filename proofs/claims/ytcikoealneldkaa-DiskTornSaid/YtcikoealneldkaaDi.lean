/- Disks: what the laws do with them. -/
import Derived.Test.YtcikoealneldkaaDh
import Derived.Test.YtcikoealneldkaaOp
namespace Go.Proofs.Ytcikoealneldkaa
open Go Go.RowKit Go.Lib
variable {W : World}
structure DskOp where
  kind : Int
  file : Int
  n : Int
  b : Sl UInt8
  keep : Sl Int
instance : Inhabited DskOp := ⟨⟨0, 0, 0, default, default⟩⟩
def DskOp.cells (x : DskOp) : List Value := [.int .i64 x.kind, .int .i64 x.file, .int .i64 x.n, .slice x.b.A x.b.l.length x.b.c, .slice x.keep.A x.keep.l.length x.keep.c]
structure DskOp.Ok (w : World) (x : DskOp) : Prop where
  kind : -9223372036854775808 ≤ x.kind ∧ x.kind ≤ 9223372036854775807
  file : -9223372036854775808 ≤ x.file ∧ x.file ≤ 9223372036854775807
  n : -9223372036854775808 ≤ x.n ∧ x.n ≤ 9223372036854775807
  b : (Sl.Ok 1 (fun b : UInt8 => [bv b]) (fun _ => True) w) x.b
  keep : (Sl.Ok 1 (fun n : Int => [.int .i64 n]) (fun n : Int => -9223372036854775808 ≤ n ∧ n ≤ 9223372036854775807) w) x.keep
set_option maxRecDepth 100000 in
theorem opn_DskOp {H : Type} {enc : TypeId × Value → H} {w : World} : Opn enc Try.prog w 96 DskOp.cells (DskOp.Ok w) := fun _ _ _ h => by
  obtain ⟨parts, rfl, hl, hf⟩ := opn_parts Try.underlying96 (by kernel_rfl) (by kernel_rfl) h
  match parts, hl with
  | [p0, p1, p2, p3, p4], _ =>
    obtain ⟨f0, x0, h0⟩ := hf 0 _ rfl
    obtain ⟨a0, e0, k0⟩ := (opn_i64 Try.underlying3) _ _ _ h0
    replace e0 : p0 = _ := e0
    obtain ⟨f1, x1, h1⟩ := hf 1 _ rfl
    obtain ⟨a1, e1, k1⟩ := (opn_i64 Try.underlying3) _ _ _ h1
    replace e1 : p1 = _ := e1
    obtain ⟨f2, x2, h2⟩ := hf 2 _ rfl
    obtain ⟨a2, e2, k2⟩ := (opn_i64 Try.underlying3) _ _ _ h2
    replace e2 : p2 = _ := e2
    obtain ⟨f3, x3, h3⟩ := hf 3 _ rfl
    obtain ⟨a3, e3, k3⟩ := (opn_slice (β := UInt8) (size := 1) Try.underlying48 (by kernel_rfl) (by decide) (opn_byte Try.underlying5)) _ _ _ h3
    replace e3 : p3 = _ := e3
    obtain ⟨f4, x4, h4⟩ := hf 4 _ rfl
    obtain ⟨a4, e4, k4⟩ := (opn_slice (β := Int) (size := 1) Try.underlying94 (by kernel_rfl) (by decide) (opn_i64 Try.underlying3)) _ _ _ h4
    replace e4 : p4 = _ := e4
    subst e0 e1 e2 e3 e4
    exact ⟨⟨a0, a1, a2, a3, a4⟩, by simp [DskOp.cells, Sl.cells], ⟨k0, k1, k2, k3, k4⟩⟩
def doD (d : Dk) (x : DskOp) : Dk :=
  if x.kind = 1 then tnD d x.file 0 (syF d.F x.file.toNat)
  else if x.kind = 2 then tnD d x.file (cuE d.F x.file.toNat x.n) (cuF d.F x.file.toNat x.n)
  else if x.kind = 3 then tnD d x.file 0 (drF d.F x.file.toNat)
  else if x.kind = 4 then { d with fuse := x.n }
  else if x.kind = 5 then crD x.keep.l d
  else if x.kind = 6 then d
  else apD d x.file (apE d.F x.file.toNat x.b.l.length) (apF d.F x.file.toNat x.b.l)
theorem DGood.setF {d : Dk} (h : DGood d) {F : Nat → List UInt8 × Nat} (hF : FGood F) : DGood (d.setF F) := ⟨fun i => (hF i).1, fun i => (hF i).2, h.fuse, h.calls⟩
theorem FGood.upd {F : Nat → List UInt8 × Nat} (h : FGood F) {i : Nat} {v : List UInt8 × Nat} (hv : v.2 ≤ v.1.length ∧ v.1.length ≤ 1048576) : FGood (updF F i v) := fun j => by
  unfold updF
  split
  · exact hv
  · exact h j
theorem DGood.fg {d : Dk} (h : DGood d) : FGood d.F := fun i => ⟨h.sync i, h.len i⟩
theorem DGood.tn {d : Dk} (h : DGood d) {i c : Int} {F : Nat → List UInt8 × Nat} (hF : FGood F) : DGood (tnD d i c F) := by
  unfold tnD
  split
  · exact h
  · split
    · exact h.blow
    · exact h.blow.setF hF
theorem DGood.ap {d : Dk} (h : DGood d) {i : Int} {ys : List UInt8} : DGood (apD d i (apE d.F i.toNat ys.length) (apF d.F i.toNat ys)) := by
  unfold apD
  split
  · exact h
  · rename_i hn
    have hE : apE d.F i.toNat ys.length = 0 := by
      by_cases hq : apE d.F i.toNat ys.length = 0
      · exact hq
      · exact absurd (.inr (.inr hq)) hn
    refine h.blow.setF (h.fg.upd ⟨?_, ?_⟩)
    · have := h.sync i.toNat
      show (d.F i.toNat).2 ≤ ((d.F i.toNat).1 ++ ys).length
      rw [List.length_append]; omega
    · show ((d.F i.toNat).1 ++ ys).length ≤ _
      rw [List.length_append]
      unfold apE at hE
      split at hE
      · cases hE
      · omega
theorem syF_good {F : Nat → List UInt8 × Nat} (h : FGood F) (i : Nat) : FGood (syF F i) := h.upd ⟨Nat.le_refl _, (h i).2⟩
theorem cuF_good {F : Nat → List UInt8 × Nat} (h : FGood F) (i : Nat) (n : Int) : FGood (cuF F i n) := h.upd (by
  have h1 := h i
  show min (F i).2 n.toNat ≤ ((F i).1.take n.toNat).length ∧ ((F i).1.take n.toNat).length ≤ 1048576
  rw [List.length_take]
  omega)
theorem drF_good {F : Nat → List UInt8 × Nat} (h : FGood F) (i : Nat) : FGood (drF F i) := h.upd ⟨Nat.le_refl 0, Nat.zero_le _⟩
theorem DGood.doD {d : Dk} (h : DGood d) {x : DskOp} (hn : -9223372036854775808 ≤ x.n ∧ x.n ≤ 9223372036854775807) : DGood (doD d x) := by
  unfold Go.Proofs.Ytcikoealneldkaa.doD
  split
  · exact h.tn (syF_good h.fg _)
  · split
    · exact h.tn (cuF_good h.fg _ _)
    · split
      · exact h.tn (drF_good h.fg _)
      · split
        · exact ⟨h.sync, h.len, hn, h.calls⟩
        · split
          · exact h.crash _
          · split
            · exact h
            · exact h.ap
theorem tn_calls (d : Dk) (i c : Int) (F : Nat → List UInt8 × Nat) : (tnD d i c F).calls ≤ d.calls + 1 ∧ (apD d i c F).calls ≤ d.calls + 1 := by
  unfold tnD apD
  constructor
  · split
    · omega
    · split <;> exact Int.le_refl _
  · split
    · omega
    · exact Int.le_refl _
theorem do_calls_le (d : Dk) (x : DskOp) : (doD d x).calls ≤ d.calls + 1 := by
  unfold doD
  split
  · exact (tn_calls _ _ _ _).1
  · split
    · exact (tn_calls _ _ _ _).1
    · split
      · exact (tn_calls _ _ _ _).1
      · split
        · show d.calls ≤ _; omega
        · split
          · show d.calls ≤ _; omega
          · split
            · omega
            · exact (tn_calls _ _ _ _).2
theorem qtl_2 (d : Dk) : (qtl d)[2]? = some (.int .i64 d.calls) := rfl
attribute [local irreducible] blkA rowA rdrA rowC packA fcells qtl dtl dskA qdkA
set_option maxHeartbeats 1000000 in
set_option maxRecDepth 100000 in
theorem do_calls {w : World} {R : List Asn} {g g2 : Nat} {d d2 : Dk} {x : DskOp} (hS : St W w (dskA g d :: qdkA g2 d2 :: R)) (hx : x.Ok W) (hG : DGood d) (hG2 : DGood d2) (hc : d.calls ≤ 999999999 ∧ d2.calls ≤ 999999999) (hbl : x.b.l.length ≤ 1000000 ∧ x.keep.l.length ≤ 1000000) :
  Calls Try.prog 79 #[.pointer (some ⟨g, 0, none⟩), .pointer (some ⟨g2, 0, none⟩), .agg x.cells.toArray] w fun e w' => ∃ g' b, e = .returned (.tuple #[.pointer (some ⟨g', 0, none⟩), .bool b]) ∧ (d2 = d → b = true) ∧ St W w' (dskA g' (doD d x) :: qdkA g2 (doD d2 x) :: R) := by
  refine calls_of_wpE (args := [_, _, _]) Try.func79 rfl rfl rfl ?_
  refine c_seq ?_
  refine c_region ?_
  refine t_box (v := (.agg _)) rfl rfl hS (fun g5 w hS => ?_)
  refine t_q (q_assign) ?_
  refine t_q (q_assign) ?_
  refine t_nil ?_
  refine c_seq ?_
  refine c_seq ?_
  refine c_region ?_
  refine t_q (q_fieldAddr 0 Try.runUnderlying96 rfl Try.sizeOf3 (by decide) rfl rfl) ?_
  refine t_q (q_load1 Try.isAgg3 rfl (hS.cell (by repeat first | exact .here _ _ | assumption | apply Pick.there) rfl)) ?_
  refine t_nil ?_
  refine c_block ?_
  refine c_seq ?_
  refine c_region ?_
  refine t_q (q_eql rfl rfl) ?_
  refine t_q (q_as (.bool _) rfl) ?_
  refine t_nil ?_
  refine c_cond rfl ?_ ?_
  · intro hc2
    have hc2d := of_decide_eq_true hc2
    have hk1 := of_decide_eq_true hc2
    have hD : ∀ d, doD d x = tnD d x.file 0 (syF d.F x.file.toNat) := fun d => by unfold doD; rw [if_pos hk1]
    refine c_seq ?_
    refine c_draw ?_
    refine d_keep (blkA g5 96 x.cells) 12 [0, 1, 2, 3, 4, 5, 6, 7, 8, 9, 10, 11] [0, 1, 2, 3, 4, 5, 6, 7, 8, 10, 9, 11] hS rfl (by kernel_rfl) (by kernel_rfl) (by kernel_rfl) (by kernel_rfl) (fun hap hsel w hS => ?_)
    refine p_q hap hsel 0 rfl rfl ⟨_, hS.pick (by repeat first | exact .here _ _ | assumption | apply Pick.there)⟩ (fun w hI => q_mv (.pointer _) rfl) ?_
    refine p_q hap hsel 1 rfl rfl ⟨_, hS.pick (by repeat first | exact .here _ _ | assumption | apply Pick.there)⟩ (fun w hI => q_mv (.pointer _) rfl) ?_
    refine p_q hap hsel 2 rfl rfl ⟨_, hS.pick (by repeat first | exact .here _ _ | assumption | apply Pick.there)⟩ (fun w hI => q_fieldAddr 1 Try.runUnderlying96 rfl Try.sizeOf3 (by decide) rfl rfl) ?_
    refine p_q hap hsel 3 rfl rfl ⟨_, hS.pick (by repeat first | exact .here _ _ | assumption | apply Pick.there)⟩ (fun w hI => q_load1 Try.isAgg3 rfl (hI.choose_spec.cell (by repeat first | exact .here _ _ | assumption | apply Pick.there) rfl)) ?_
    refine p_q hap hsel 5 rfl rfl ⟨_, hS.pick (by repeat first | exact .here _ _ | assumption | apply Pick.there)⟩ (fun w hI => q_mv (.pointer _) rfl) ?_
    refine p_q hap hsel 6 rfl rfl ⟨_, hS.pick (by repeat first | exact .here _ _ | assumption | apply Pick.there)⟩ (fun w hI => q_fieldAddr 1 Try.runUnderlying96 rfl Try.sizeOf3 (by decide) rfl rfl) ?_
    refine p_q hap hsel 7 rfl rfl ⟨_, hS.pick (by repeat first | exact .here _ _ | assumption | apply Pick.there)⟩ (fun w hI => q_load1 Try.isAgg3 rfl (hI.choose_spec.cell (by repeat first | exact .here _ _ | assumption | apply Pick.there) rfl)) ?_
    refine p_one 4 rfl (by kernel_rfl) ?_
    refine t_call Try.call78 (syn_calls hS (by repeat first | exact .here _ _ | assumption | apply Pick.there) hG (by omega)) rfl ?_
    rintro e w ⟨rfl, hS⟩
    refine ⟨_, rfl, ?_⟩
    refine t_nil ?_
    refine ⟨.inr ⟨_, hS.pick (by repeat first | exact .here _ _ | assumption | apply Pick.there)⟩, ?_⟩
    refine p_one 8 rfl (by kernel_rfl) ?_
    refine t_call Try.call153 (qsyn_calls hS (by repeat first | exact .here _ _ | assumption | apply Pick.there) hG2 (by omega)) rfl ?_
    rintro e w ⟨rfl, hS⟩
    refine ⟨_, rfl, ?_⟩
    refine t_nil ?_
    refine ⟨.inr ⟨_, hS.pick (by repeat first | exact .here _ _ | assumption | apply Pick.there)⟩, ?_⟩
    refine p_q hap hsel 9 rfl rfl ⟨_, hS.pick (by repeat first | exact .here _ _ | assumption | apply Pick.there)⟩ (fun w hI => q_eql rfl rfl) ?_
    refine p_q hap hsel 10 rfl rfl ⟨_, hS.pick (by repeat first | exact .here _ _ | assumption | apply Pick.there)⟩ (fun w hI => q_as (.pointer _) rfl) ?_
    refine p_q hap hsel 11 rfl rfl ⟨_, hS.pick (by repeat first | exact .here _ _ | assumption | apply Pick.there)⟩ (fun w hI => q_as (.bool _) rfl) ?_
    refine p_end (by kernel_rfl) ?_
    refine c_ret ?_
    refine r_two rfl rfl rfl ?_
    rw [hD, hD]
    first
      | (replace hS := (hS.pick (A := dskA g (tnD _ _ _ _)) (by repeat first | exact .here _ _ | assumption | apply Pick.there)).drop
         replace hS := (hS.pick (A := blkA g5 96 x.cells) (by repeat first | exact .here _ _ | assumption | apply Pick.there)).drop
         exact ⟨gC, _, rfl, (fun _ => rfl), hS⟩)
      | exact ⟨g, _, rfl, (fun h => by subst h; simp), ((((hS.pick (A := blkA g5 96 x.cells) (by repeat first | exact .here _ _ | assumption | apply Pick.there)).drop.pick (A := qdkA g2 _) (by repeat first | exact .here _ _ | assumption | apply Pick.there)).pick (A := dskA g _) (by repeat first | exact .here _ _ | assumption | apply Pick.there)))⟩
  · intro hc2
    have hc2d := of_decide_eq_false hc2
    have hkn25 := of_decide_eq_false hc2
    refine c_seq ?_
    refine c_region ?_
    refine t_q (q_eql rfl rfl) ?_
    refine t_q (q_as (.bool _) rfl) ?_
    refine t_nil ?_
    refine c_cond rfl ?_ ?_
    · intro hc7
      have hc7d := of_decide_eq_true hc7
      have hk1 := of_decide_eq_true hc7
      have hD : ∀ d, doD d x = tnD d x.file (cuE d.F x.file.toNat x.n) (cuF d.F x.file.toNat x.n) := fun d => by unfold doD; rw [if_neg (by omega), if_pos hk1]
      refine c_seq ?_
      refine c_draw ?_
      refine d_keep (blkA g5 96 x.cells) 16 [0, 1, 2, 3, 4, 5, 6, 7, 8, 9, 10, 11, 12, 13, 14, 15] [0, 1, 2, 3, 4, 5, 6, 7, 8, 9, 10, 11, 12, 14, 13, 15] hS rfl (by kernel_rfl) (by kernel_rfl) (by kernel_rfl) (by kernel_rfl) (fun hap hsel w hS => ?_)
      refine p_q hap hsel 0 rfl rfl ⟨_, hS.pick (by repeat first | exact .here _ _ | assumption | apply Pick.there)⟩ (fun w hI => q_mv (.pointer _) rfl) ?_
      refine p_q hap hsel 1 rfl rfl ⟨_, hS.pick (by repeat first | exact .here _ _ | assumption | apply Pick.there)⟩ (fun w hI => q_mv (.pointer _) rfl) ?_
      refine p_q hap hsel 2 rfl rfl ⟨_, hS.pick (by repeat first | exact .here _ _ | assumption | apply Pick.there)⟩ (fun w hI => q_fieldAddr 1 Try.runUnderlying96 rfl Try.sizeOf3 (by decide) rfl rfl) ?_
      refine p_q hap hsel 3 rfl rfl ⟨_, hS.pick (by repeat first | exact .here _ _ | assumption | apply Pick.there)⟩ (fun w hI => q_load1 Try.isAgg3 rfl (hI.choose_spec.cell (by repeat first | exact .here _ _ | assumption | apply Pick.there) rfl)) ?_
      refine p_q hap hsel 4 rfl rfl ⟨_, hS.pick (by repeat first | exact .here _ _ | assumption | apply Pick.there)⟩ (fun w hI => q_fieldAddr 2 Try.runUnderlying96 rfl Try.sizeOf3 (by decide) rfl rfl) ?_
      refine p_q hap hsel 5 rfl rfl ⟨_, hS.pick (by repeat first | exact .here _ _ | assumption | apply Pick.there)⟩ (fun w hI => q_load1 Try.isAgg3 rfl (hI.choose_spec.cell (by repeat first | exact .here _ _ | assumption | apply Pick.there) rfl)) ?_
      refine p_q hap hsel 7 rfl rfl ⟨_, hS.pick (by repeat first | exact .here _ _ | assumption | apply Pick.there)⟩ (fun w hI => q_mv (.pointer _) rfl) ?_
      refine p_q hap hsel 8 rfl rfl ⟨_, hS.pick (by repeat first | exact .here _ _ | assumption | apply Pick.there)⟩ (fun w hI => q_fieldAddr 1 Try.runUnderlying96 rfl Try.sizeOf3 (by decide) rfl rfl) ?_
      refine p_q hap hsel 9 rfl rfl ⟨_, hS.pick (by repeat first | exact .here _ _ | assumption | apply Pick.there)⟩ (fun w hI => q_load1 Try.isAgg3 rfl (hI.choose_spec.cell (by repeat first | exact .here _ _ | assumption | apply Pick.there) rfl)) ?_
      refine p_q hap hsel 10 rfl rfl ⟨_, hS.pick (by repeat first | exact .here _ _ | assumption | apply Pick.there)⟩ (fun w hI => q_fieldAddr 2 Try.runUnderlying96 rfl Try.sizeOf3 (by decide) rfl rfl) ?_
      refine p_q hap hsel 11 rfl rfl ⟨_, hS.pick (by repeat first | exact .here _ _ | assumption | apply Pick.there)⟩ (fun w hI => q_load1 Try.isAgg3 rfl (hI.choose_spec.cell (by repeat first | exact .here _ _ | assumption | apply Pick.there) rfl)) ?_
      refine p_one 6 rfl (by kernel_rfl) ?_
      refine t_call Try.call91 (cut_calls hS (by repeat first | exact .here _ _ | assumption | apply Pick.there) hG (by omega)) rfl ?_
      rintro e w ⟨rfl, hS⟩
      refine ⟨_, rfl, ?_⟩
      refine t_nil ?_
      refine ⟨.inr ⟨_, hS.pick (by repeat first | exact .here _ _ | assumption | apply Pick.there)⟩, ?_⟩
      refine p_one 12 rfl (by kernel_rfl) ?_
      refine t_call Try.call154 (qcut_calls hS (by repeat first | exact .here _ _ | assumption | apply Pick.there) hG2 (by omega)) rfl ?_
      rintro e w ⟨rfl, hS⟩
      refine ⟨_, rfl, ?_⟩
      refine t_nil ?_
      refine ⟨.inr ⟨_, hS.pick (by repeat first | exact .here _ _ | assumption | apply Pick.there)⟩, ?_⟩
      refine p_q hap hsel 13 rfl rfl ⟨_, hS.pick (by repeat first | exact .here _ _ | assumption | apply Pick.there)⟩ (fun w hI => q_eql rfl rfl) ?_
      refine p_q hap hsel 14 rfl rfl ⟨_, hS.pick (by repeat first | exact .here _ _ | assumption | apply Pick.there)⟩ (fun w hI => q_as (.pointer _) rfl) ?_
      refine p_q hap hsel 15 rfl rfl ⟨_, hS.pick (by repeat first | exact .here _ _ | assumption | apply Pick.there)⟩ (fun w hI => q_as (.bool _) rfl) ?_
      refine p_end (by kernel_rfl) ?_
      refine c_ret ?_
      refine r_two rfl rfl rfl ?_
      rw [hD, hD]
      first
        | (replace hS := (hS.pick (A := dskA g (tnD _ _ _ _)) (by repeat first | exact .here _ _ | assumption | apply Pick.there)).drop
           replace hS := (hS.pick (A := blkA g5 96 x.cells) (by repeat first | exact .here _ _ | assumption | apply Pick.there)).drop
           exact ⟨gC, _, rfl, (fun _ => rfl), hS⟩)
        | exact ⟨g, _, rfl, (fun h => by subst h; simp), ((((hS.pick (A := blkA g5 96 x.cells) (by repeat first | exact .here _ _ | assumption | apply Pick.there)).drop.pick (A := qdkA g2 _) (by repeat first | exact .here _ _ | assumption | apply Pick.there)).pick (A := dskA g _) (by repeat first | exact .here _ _ | assumption | apply Pick.there)))⟩
    · intro hc7
      have hc7d := of_decide_eq_false hc7
      have hkn37 := of_decide_eq_false hc7
      refine c_seq ?_
      refine c_region ?_
      refine t_q (q_eql rfl rfl) ?_
      refine t_q (q_as (.bool _) rfl) ?_
      refine t_nil ?_
      refine c_cond rfl ?_ ?_
      · intro hc12
        have hc12d := of_decide_eq_true hc12
        have hk1 := of_decide_eq_true hc12
        have hD : ∀ d, doD d x = tnD d x.file 0 (drF d.F x.file.toNat) := fun d => by unfold doD; rw [if_neg (by omega), if_neg (by omega), if_pos hk1]
        refine c_seq ?_
        refine c_draw ?_
        refine d_keep (blkA g5 96 x.cells) 12 [0, 1, 2, 3, 4, 5, 6, 7, 8, 9, 10, 11] [0, 1, 2, 3, 4, 5, 6, 7, 8, 10, 9, 11] hS rfl (by kernel_rfl) (by kernel_rfl) (by kernel_rfl) (by kernel_rfl) (fun hap hsel w hS => ?_)
        refine p_q hap hsel 0 rfl rfl ⟨_, hS.pick (by repeat first | exact .here _ _ | assumption | apply Pick.there)⟩ (fun w hI => q_mv (.pointer _) rfl) ?_
        refine p_q hap hsel 1 rfl rfl ⟨_, hS.pick (by repeat first | exact .here _ _ | assumption | apply Pick.there)⟩ (fun w hI => q_mv (.pointer _) rfl) ?_
        refine p_q hap hsel 2 rfl rfl ⟨_, hS.pick (by repeat first | exact .here _ _ | assumption | apply Pick.there)⟩ (fun w hI => q_fieldAddr 1 Try.runUnderlying96 rfl Try.sizeOf3 (by decide) rfl rfl) ?_
        refine p_q hap hsel 3 rfl rfl ⟨_, hS.pick (by repeat first | exact .here _ _ | assumption | apply Pick.there)⟩ (fun w hI => q_load1 Try.isAgg3 rfl (hI.choose_spec.cell (by repeat first | exact .here _ _ | assumption | apply Pick.there) rfl)) ?_
        refine p_q hap hsel 5 rfl rfl ⟨_, hS.pick (by repeat first | exact .here _ _ | assumption | apply Pick.there)⟩ (fun w hI => q_mv (.pointer _) rfl) ?_
        refine p_q hap hsel 6 rfl rfl ⟨_, hS.pick (by repeat first | exact .here _ _ | assumption | apply Pick.there)⟩ (fun w hI => q_fieldAddr 1 Try.runUnderlying96 rfl Try.sizeOf3 (by decide) rfl rfl) ?_
        refine p_q hap hsel 7 rfl rfl ⟨_, hS.pick (by repeat first | exact .here _ _ | assumption | apply Pick.there)⟩ (fun w hI => q_load1 Try.isAgg3 rfl (hI.choose_spec.cell (by repeat first | exact .here _ _ | assumption | apply Pick.there) rfl)) ?_
        refine p_one 4 rfl (by kernel_rfl) ?_
        refine t_call Try.call92 (drp_calls hS (by repeat first | exact .here _ _ | assumption | apply Pick.there) hG (by omega)) rfl ?_
        rintro e w ⟨rfl, hS⟩
        refine ⟨_, rfl, ?_⟩
        refine t_nil ?_
        refine ⟨.inr ⟨_, hS.pick (by repeat first | exact .here _ _ | assumption | apply Pick.there)⟩, ?_⟩
        refine p_one 8 rfl (by kernel_rfl) ?_
        refine t_call Try.call155 (qdrp_calls hS (by repeat first | exact .here _ _ | assumption | apply Pick.there) hG2 (by omega)) rfl ?_
        rintro e w ⟨rfl, hS⟩
        refine ⟨_, rfl, ?_⟩
        refine t_nil ?_
        refine ⟨.inr ⟨_, hS.pick (by repeat first | exact .here _ _ | assumption | apply Pick.there)⟩, ?_⟩
        refine p_q hap hsel 9 rfl rfl ⟨_, hS.pick (by repeat first | exact .here _ _ | assumption | apply Pick.there)⟩ (fun w hI => q_eql rfl rfl) ?_
        refine p_q hap hsel 10 rfl rfl ⟨_, hS.pick (by repeat first | exact .here _ _ | assumption | apply Pick.there)⟩ (fun w hI => q_as (.pointer _) rfl) ?_
        refine p_q hap hsel 11 rfl rfl ⟨_, hS.pick (by repeat first | exact .here _ _ | assumption | apply Pick.there)⟩ (fun w hI => q_as (.bool _) rfl) ?_
        refine p_end (by kernel_rfl) ?_
        refine c_ret ?_
        refine r_two rfl rfl rfl ?_
        rw [hD, hD]
        first
          | (replace hS := (hS.pick (A := dskA g (tnD _ _ _ _)) (by repeat first | exact .here _ _ | assumption | apply Pick.there)).drop
             replace hS := (hS.pick (A := blkA g5 96 x.cells) (by repeat first | exact .here _ _ | assumption | apply Pick.there)).drop
             exact ⟨gC, _, rfl, (fun _ => rfl), hS⟩)
          | exact ⟨g, _, rfl, (fun h => by subst h; simp), ((((hS.pick (A := blkA g5 96 x.cells) (by repeat first | exact .here _ _ | assumption | apply Pick.there)).drop.pick (A := qdkA g2 _) (by repeat first | exact .here _ _ | assumption | apply Pick.there)).pick (A := dskA g _) (by repeat first | exact .here _ _ | assumption | apply Pick.there)))⟩
      · intro hc12
        have hc12d := of_decide_eq_false hc12
        have hkn53 := of_decide_eq_false hc12
        refine c_seq ?_
        refine c_region ?_
        refine t_q (q_eql rfl rfl) ?_
        refine t_q (q_as (.bool _) rfl) ?_
        refine t_nil ?_
        refine c_cond rfl ?_ ?_
        · intro hc17
          have hc17d := of_decide_eq_true hc17
          have hk1 := of_decide_eq_true hc17
          have hD : ∀ d, doD d x = { d with fuse := x.n } := fun d => by unfold doD; rw [if_neg (by omega), if_neg (by omega), if_neg (by omega), if_pos hk1]
          refine c_seq ?_
          refine c_region ?_
          refine t_q (q_mv (.pointer _) rfl) ?_
          refine t_q (q_fieldAddr 2 Try.runUnderlying96 rfl Try.sizeOf3 (by decide) rfl rfl) ?_
          refine t_q (q_load1 Try.isAgg3 rfl (hS.cell (by repeat first | exact .here _ _ | assumption | apply Pick.there) rfl)) ?_
          refine t_call Try.call90 (arm_calls hS (by repeat first | exact .here _ _ | assumption | apply Pick.there)) rfl ?_
          rintro e w ⟨rfl, hS⟩
          refine ⟨_, rfl, ?_⟩
          refine t_nil ?_
          obtain ⟨rwq, hS⟩ := (hS.pick (A := qdkA g2 d2) (by repeat first | exact .here _ _ | assumption | apply Pick.there)).qdk
          rw [qtl_eq] at hS
          refine c_region ?_
          refine t_q (q_mv (.pointer _) rfl) ?_
          refine t_q (q_fieldAddr 2 Try.runUnderlying96 rfl Try.sizeOf3 (by decide) rfl rfl) ?_
          refine t_q (q_load1 Try.isAgg3 rfl (hS.cell (by repeat first | exact .here _ _ | assumption | apply Pick.there) rfl)) ?_
          refine t_q (q_nilCheck rfl) ?_
          refine t_q (q_fieldAddr 64 Try.runUnderlying210 rfl Try.sizeOf3 (by decide) rfl rfl) ?_
          refine t_store (v := (.int _ _)) Try.sizeOf3 hS (by repeat first | exact .here _ _ | assumption | apply Pick.there) rfl rfl rfl rfl rfl (Nat.ble_eq_true_of_le (by show 0 + 64 + 1 ≤ (fcells _ _ ++ _).length; rw [List.length_append, fcells_len]; show _ ≤ 64 + 3; omega)) (fun w hS => ?_)
          replace hS := hS.recast (show _ = blkA g2 210 (fcells d2.F rwq ++ [.int .i64 x.n, .bool d2.gone, .int .i64 d2.calls]) from congrArg (blkA g2 210 ·) (st_tl 0 _))
          replace hS := (((hS.pick (A := packA _) (by repeat first | exact .here _ _ | assumption | apply Pick.there)).pick (A := blkA g2 210 _) (by repeat first | exact .here _ _ | assumption | apply Pick.there)))
          rw [← qtl_eq { d2 with fuse := x.n }] at hS
          replace hS := hS.unqdk (d := { d2 with fuse := x.n })
          refine t_nil ?_
          refine c_seq ?_
          refine c_region ?_
          refine t_q (q_mv (.pointer _) rfl) ?_
          refine t_q (q_as (.pointer _) rfl) ?_
          refine t_q (q_assign) ?_
          refine t_nil ?_
          refine c_ret ?_
          refine r_two rfl rfl rfl ?_
          rw [hD, hD]
          first
            | (replace hS := (hS.pick (A := dskA g (tnD _ _ _ _)) (by repeat first | exact .here _ _ | assumption | apply Pick.there)).drop
               replace hS := (hS.pick (A := blkA g5 96 x.cells) (by repeat first | exact .here _ _ | assumption | apply Pick.there)).drop
               exact ⟨gC, _, rfl, (fun _ => rfl), hS⟩)
            | exact ⟨g, _, rfl, (fun h => by subst h; simp), ((((hS.pick (A := blkA g5 96 x.cells) (by repeat first | exact .here _ _ | assumption | apply Pick.there)).drop.pick (A := qdkA g2 _) (by repeat first | exact .here _ _ | assumption | apply Pick.there)).pick (A := dskA g _) (by repeat first | exact .here _ _ | assumption | apply Pick.there)))⟩
        · intro hc17
          have hc17d := of_decide_eq_false hc17
          have hkn65 := of_decide_eq_false hc17
          refine c_seq ?_
          refine c_region ?_
          refine t_q (q_eql rfl rfl) ?_
          refine t_q (q_as (.bool _) rfl) ?_
          refine t_nil ?_
          refine c_cond rfl ?_ ?_
          · intro hc20
            have hc20d := of_decide_eq_true hc20
            have hk1 := of_decide_eq_true hc20
            have hD : ∀ d, doD d x = crD x.keep.l d := fun d => by unfold doD; rw [if_neg (by omega), if_neg (by omega), if_neg (by omega), if_neg (by omega), if_pos hk1]
            refine c_seq ?_
            refine c_region ?_
            refine t_q (q_mv (.pointer _) rfl) ?_
            refine t_q (q_fieldAddr 4 Try.runUnderlying96 rfl Try.sizeOf94 (by decide) rfl rfl) ?_
            refine t_q (q_load1 Try.isAgg94 rfl (hS.cell (by repeat first | exact .here _ _ | assumption | apply Pick.there) rfl)) ?_
            refine t_call Try.call83 (crash_calls (ns := x.keep.l) hS (by repeat first | exact .here _ _ | assumption | apply Pick.there) hG (fun w h => Rd.st (show RdI W .i64 x.keep.A x.keep.l from hx.keep.rd) h) (by omega)) rfl ?_
            rintro e w ⟨rfl, hS⟩
            refine ⟨_, rfl, ?_⟩
            refine t_nil ?_
            refine c_region ?_
            refine t_q (q_mv (.pointer _) rfl) ?_
            refine t_q (q_fieldAddr 4 Try.runUnderlying96 rfl Try.sizeOf94 (by decide) rfl rfl) ?_
            refine t_q (q_load1 Try.isAgg94 rfl (hS.cell (by repeat first | exact .here _ _ | assumption | apply Pick.there) rfl)) ?_
            refine t_call Try.call156 (qcrash_calls (ns := x.keep.l) hS (by repeat first | exact .here _ _ | assumption | apply Pick.there) hG2 (fun w h => Rd.st (show RdI W .i64 x.keep.A x.keep.l from hx.keep.rd) h) (by omega)) rfl ?_
            rintro e w ⟨rfl, hS⟩
            refine ⟨_, rfl, ?_⟩
            refine t_nil ?_
            refine c_seq ?_
            refine c_region ?_
            refine t_q (q_mv (.pointer _) rfl) ?_
            refine t_q (q_as (.pointer _) rfl) ?_
            refine t_q (q_assign) ?_
            refine t_nil ?_
            refine c_ret ?_
            refine r_two rfl rfl rfl ?_
            rw [hD, hD]
            first
              | (replace hS := (hS.pick (A := dskA g (tnD _ _ _ _)) (by repeat first | exact .here _ _ | assumption | apply Pick.there)).drop
                 replace hS := (hS.pick (A := blkA g5 96 x.cells) (by repeat first | exact .here _ _ | assumption | apply Pick.there)).drop
                 exact ⟨gC, _, rfl, (fun _ => rfl), hS⟩)
              | exact ⟨g, _, rfl, (fun h => by subst h; simp), ((((hS.pick (A := blkA g5 96 x.cells) (by repeat first | exact .here _ _ | assumption | apply Pick.there)).drop.pick (A := qdkA g2 _) (by repeat first | exact .here _ _ | assumption | apply Pick.there)).pick (A := dskA g _) (by repeat first | exact .here _ _ | assumption | apply Pick.there)))⟩
          · intro hc20
            have hc20d := of_decide_eq_false hc20
            have hkn76 := of_decide_eq_false hc20
            refine c_seq ?_
            refine c_region ?_
            refine t_q (q_eql rfl rfl) ?_
            refine t_q (q_as (.bool _) rfl) ?_
            refine t_nil ?_
            refine c_cond rfl ?_ ?_
            · intro hc24
              have hc24d := of_decide_eq_true hc24
              have hk1 := of_decide_eq_true hc24
              have hD : ∀ d, doD d x = d := fun d => by unfold doD; rw [if_neg (by omega), if_neg (by omega), if_neg (by omega), if_neg (by omega), if_neg (by omega), if_pos hk1]
              refine c_seq ?_
              refine c_region ?_
              refine t_q (q_mv (.pointer _) rfl) ?_
              refine t_call Try.call82 (clon_calls hS (by repeat first | exact .here _ _ | assumption | apply Pick.there) hG) rfl ?_
              rintro e w ⟨gC, rfl, hS⟩
              refine ⟨_, rfl, ?_⟩
              refine t_q (q_as (.pointer _) rfl) ?_
              refine t_nil ?_
              refine c_seq ?_
              refine c_region ?_
              refine t_q (q_mv (.pointer _) rfl) ?_
              refine t_q (q_fieldAddr 1 Try.runUnderlying96 rfl Try.sizeOf3 (by decide) rfl rfl) ?_
              refine t_q (q_load1 Try.isAgg3 rfl (hS.cell (by repeat first | exact .here _ _ | assumption | apply Pick.there) rfl)) ?_
              refine t_call Try.call92 (drp_calls (d := d) hS (.there (.here _ _)) hG (by omega)) rfl ?_
              rintro e w ⟨rfl, hS⟩
              refine ⟨_, rfl, ?_⟩
              refine t_nil ?_
              refine c_seq ?_
              refine c_region ?_
              refine t_q (q_mv (.pointer _) rfl) ?_
              refine t_q (q_as (.pointer _) rfl) ?_
              refine t_q (q_assign) ?_
              refine t_nil ?_
              refine c_ret ?_
              refine r_two rfl rfl rfl ?_
              rw [hD, hD]
              first
                | (replace hS := (hS.pick (A := dskA g (tnD _ _ _ _)) (by repeat first | exact .here _ _ | assumption | apply Pick.there)).drop
                   replace hS := (hS.pick (A := blkA g5 96 x.cells) (by repeat first | exact .here _ _ | assumption | apply Pick.there)).drop
                   exact ⟨gC, _, rfl, (fun _ => rfl), hS⟩)
                | exact ⟨g, _, rfl, (fun h => by subst h; simp), ((((hS.pick (A := blkA g5 96 x.cells) (by repeat first | exact .here _ _ | assumption | apply Pick.there)).drop.pick (A := qdkA g2 _) (by repeat first | exact .here _ _ | assumption | apply Pick.there)).pick (A := dskA g _) (by repeat first | exact .here _ _ | assumption | apply Pick.there)))⟩
            · intro hc24
              have hc24d := of_decide_eq_false hc24
              have hkn86 := of_decide_eq_false hc24
              have hD : ∀ d, doD d x = apD d x.file (apE d.F x.file.toNat x.b.l.length) (apF d.F x.file.toNat x.b.l) := fun d => by unfold doD; rw [if_neg (by omega), if_neg (by omega), if_neg (by omega), if_neg (by omega), if_neg (by omega), if_neg (by omega)]
              refine c_seq ?_
              refine c_draw ?_
              refine d_keep (blkA g5 96 x.cells) 16 [0, 1, 2, 3, 4, 5, 6, 7, 8, 9, 10, 11, 12, 13, 14, 15] [0, 1, 2, 3, 4, 5, 6, 7, 8, 9, 10, 11, 12, 14, 13, 15] hS rfl (by kernel_rfl) (by kernel_rfl) (by kernel_rfl) (by kernel_rfl) (fun hap hsel w hS => ?_)
              refine p_q hap hsel 0 rfl rfl ⟨_, hS.pick (by repeat first | exact .here _ _ | assumption | apply Pick.there)⟩ (fun w hI => q_mv (.pointer _) rfl) ?_
              refine p_q hap hsel 1 rfl rfl ⟨_, hS.pick (by repeat first | exact .here _ _ | assumption | apply Pick.there)⟩ (fun w hI => q_mv (.pointer _) rfl) ?_
              refine p_q hap hsel 2 rfl rfl ⟨_, hS.pick (by repeat first | exact .here _ _ | assumption | apply Pick.there)⟩ (fun w hI => q_fieldAddr 1 Try.runUnderlying96 rfl Try.sizeOf3 (by decide) rfl rfl) ?_
              refine p_q hap hsel 3 rfl rfl ⟨_, hS.pick (by repeat first | exact .here _ _ | assumption | apply Pick.there)⟩ (fun w hI => q_load1 Try.isAgg3 rfl (hI.choose_spec.cell (by repeat first | exact .here _ _ | assumption | apply Pick.there) rfl)) ?_
              refine p_q hap hsel 4 rfl rfl ⟨_, hS.pick (by repeat first | exact .here _ _ | assumption | apply Pick.there)⟩ (fun w hI => q_fieldAddr 3 Try.runUnderlying96 rfl Try.sizeOf48 (by decide) rfl rfl) ?_
              refine p_q hap hsel 5 rfl rfl ⟨_, hS.pick (by repeat first | exact .here _ _ | assumption | apply Pick.there)⟩ (fun w hI => q_load1 Try.isAgg48 rfl (hI.choose_spec.cell (by repeat first | exact .here _ _ | assumption | apply Pick.there) rfl)) ?_
              refine p_q hap hsel 7 rfl rfl ⟨_, hS.pick (by repeat first | exact .here _ _ | assumption | apply Pick.there)⟩ (fun w hI => q_mv (.pointer _) rfl) ?_
              refine p_q hap hsel 8 rfl rfl ⟨_, hS.pick (by repeat first | exact .here _ _ | assumption | apply Pick.there)⟩ (fun w hI => q_fieldAddr 1 Try.runUnderlying96 rfl Try.sizeOf3 (by decide) rfl rfl) ?_
              refine p_q hap hsel 9 rfl rfl ⟨_, hS.pick (by repeat first | exact .here _ _ | assumption | apply Pick.there)⟩ (fun w hI => q_load1 Try.isAgg3 rfl (hI.choose_spec.cell (by repeat first | exact .here _ _ | assumption | apply Pick.there) rfl)) ?_
              refine p_q hap hsel 10 rfl rfl ⟨_, hS.pick (by repeat first | exact .here _ _ | assumption | apply Pick.there)⟩ (fun w hI => q_fieldAddr 3 Try.runUnderlying96 rfl Try.sizeOf48 (by decide) rfl rfl) ?_
              refine p_q hap hsel 11 rfl rfl ⟨_, hS.pick (by repeat first | exact .here _ _ | assumption | apply Pick.there)⟩ (fun w hI => q_load1 Try.isAgg48 rfl (hI.choose_spec.cell (by repeat first | exact .here _ _ | assumption | apply Pick.there) rfl)) ?_
              refine p_one 6 rfl (by kernel_rfl) ?_
              refine t_call Try.call77 (app_calls hS (by repeat first | exact .here _ _ | assumption | apply Pick.there) hG (by omega) (fun w h => Rd.st (show RdB W x.b.A x.b.l from hx.b.rd) h) rfl (by omega)) rfl ?_
              rintro e w ⟨rfl, hS⟩
              refine ⟨_, rfl, ?_⟩
              refine t_nil ?_
              refine ⟨.inr ⟨_, hS.pick (by repeat first | exact .here _ _ | assumption | apply Pick.there)⟩, ?_⟩
              refine p_one 12 rfl (by kernel_rfl) ?_
              refine t_call Try.call157 (qapp_calls hS (by repeat first | exact .here _ _ | assumption | apply Pick.there) hG2 (by omega) (fun w h => Rd.st (show RdB W x.b.A x.b.l from hx.b.rd) h) rfl (by omega)) rfl ?_
              rintro e w ⟨rfl, hS⟩
              refine ⟨_, rfl, ?_⟩
              refine t_nil ?_
              refine ⟨.inr ⟨_, hS.pick (by repeat first | exact .here _ _ | assumption | apply Pick.there)⟩, ?_⟩
              refine p_q hap hsel 13 rfl rfl ⟨_, hS.pick (by repeat first | exact .here _ _ | assumption | apply Pick.there)⟩ (fun w hI => q_eql rfl rfl) ?_
              refine p_q hap hsel 14 rfl rfl ⟨_, hS.pick (by repeat first | exact .here _ _ | assumption | apply Pick.there)⟩ (fun w hI => q_as (.pointer _) rfl) ?_
              refine p_q hap hsel 15 rfl rfl ⟨_, hS.pick (by repeat first | exact .here _ _ | assumption | apply Pick.there)⟩ (fun w hI => q_as (.bool _) rfl) ?_
              refine p_end (by kernel_rfl) ?_
              refine c_ret ?_
              refine r_two rfl rfl rfl ?_
              rw [hD, hD]
              first
                | (replace hS := (hS.pick (A := dskA g (tnD _ _ _ _)) (by repeat first | exact .here _ _ | assumption | apply Pick.there)).drop
                   replace hS := (hS.pick (A := blkA g5 96 x.cells) (by repeat first | exact .here _ _ | assumption | apply Pick.there)).drop
                   exact ⟨gC, _, rfl, (fun _ => rfl), hS⟩)
                | exact ⟨g, _, rfl, (fun h => by subst h; simp), ((((hS.pick (A := blkA g5 96 x.cells) (by repeat first | exact .here _ _ | assumption | apply Pick.there)).drop.pick (A := qdkA g2 _) (by repeat first | exact .here _ _ | assumption | apply Pick.there)).pick (A := dskA g _) (by repeat first | exact .here _ _ | assumption | apply Pick.there)))⟩
set_option maxHeartbeats 1000000 in
set_option maxRecDepth 100000 in
theorem dlike_calls {w : World} {R : List Asn} {g g2 : Nat} {d : Dk} (hS : St W w (dskA g d :: qdkA g2 d :: R)) (hG : DGood d) : Calls Try.prog 89 #[.pointer (some ⟨g, 0, none⟩), .pointer (some ⟨g2, 0, none⟩)] w fun e w' => e = .returned (.bool true) ∧ St W w' (dskA g d :: qdkA g2 d :: R) := by
  obtain ⟨rw, hS⟩ := (hS.pick (A := qdkA g2 d) (by repeat first | exact .here _ _ | assumption | apply Pick.there)).qdk
  refine calls_of_wpE (args := [_, _]) Try.func89 rfl rfl rfl ?_
  refine c_seq ?_
  refine c_region ?_
  refine t_q (q_assign) ?_
  refine t_nil ?_
  refine c_seq ?_
  refine c_seq ?_
  refine c_region ?_
  refine t_q (q_move) ?_
  refine t_nil ?_
  refine c_block ?_
  refine c_loop [4, 5, 6, 7, 8, 9, 10, 11, 12, 13, 14, 15, 16, 17, 18, 19, 20, 21, 22, 23, 24, 25, 26, 27, 28, 29, 30, 31, 32, 33, 34, 35, 36, 37, 38, 39, 40, 41, 42, 43, 44, 45, 46, 47, 48, 49] (fun k σ w => ∃ i : Nat, σ 6 = .int .i64 (i : Int) ∧ i ≤ 32 ∧ 32 - i ≤ k ∧ St W w (blkA g2 210 (fcells d.F rw ++ qtl d) :: packA (filesL d.F rw) :: dskA g d :: R)) (32) rfl (⟨0, rfl, by omega, by omega, hS⟩) ?_
  skip
  rintro k σ w ⟨i, h6, hi0, hk, hS⟩
  refine c_know 6 h6 ?_
  clear h6
  refine c_seq ?_
  refine c_region ?_
  refine t_q (q_lss rfl rfl) ?_
  refine t_nil ?_
  refine c_seq ?_
  refine c_cond rfl ?_ ?_
  · intro hc2
    have hc2d := of_decide_eq_true hc2
    refine c_skip ?_
    refine c_seq ?_
    refine c_block ?_
    refine c_seq ?_
    refine c_region ?_
    refine t_q (q_mv (.int _ _) rfl) ?_
    refine t_q (q_as (.int _ _) rfl) ?_
    refine t_nil ?_
    refine c_seq ?_
    have hi : i < 32 := by omega
    replace hS := (hS.pick (A := packA (filesL d.F rw)) (by repeat first | exact .here _ _ | assumption | apply Pick.there)).file hi
    have hlen := hG.len i
    refine c_draw ?_
    refine d_keep2 (blkA g2 210 (fcells d.F rw ++ qtl d)) (rowC 5 (rw i).1 (rw i).2 (d.F i).1) 40 [0, 1, 2, 3, 4, 5, 6, 7, 8, 9, 10, 11, 12, 13, 14, 15, 16, 17, 18, 19, 20, 21, 22, 23, 24, 25, 26, 27, 28, 29, 30, 31, 32, 33, 34, 35, 36, 37, 38, 39] [0, 1, 2, 3, 4, 5, 6, 7, 8, 9, 10, 11, 12, 13, 14, 15, 16, 17, 18, 19, 20, 21, 22, 23, 24, 25, 26, 27, 28, 29, 30, 31, 32, 33, 34, 35, 36, 37, 38, 39] hS rfl (by kernel_rfl) (by kernel_rfl) (by kernel_rfl) (by kernel_rfl) (fun hap hsel w hS => ?_)
    refine p_q hap hsel 0 rfl rfl ⟨_, ((hS.pick (A := rowC 5 (rw i).1 (rw i).2 (d.F i).1) (by repeat first | exact .here _ _ | assumption | apply Pick.there)).pick (A := blkA g2 210 (fcells d.F rw ++ qtl d)) (by repeat first | exact .here _ _ | assumption | apply Pick.there))⟩ (fun w hI => q_mv (.pointer _) rfl) ?_
    refine p_q hap hsel 1 rfl rfl ⟨_, ((hS.pick (A := rowC 5 (rw i).1 (rw i).2 (d.F i).1) (by repeat first | exact .here _ _ | assumption | apply Pick.there)).pick (A := blkA g2 210 (fcells d.F rw ++ qtl d)) (by repeat first | exact .here _ _ | assumption | apply Pick.there))⟩ (fun w hI => q_mv (.int _ _) rfl) ?_
    refine p_q hap hsel 4 rfl rfl ⟨_, ((hS.pick (A := rowC 5 (rw i).1 (rw i).2 (d.F i).1) (by repeat first | exact .here _ _ | assumption | apply Pick.there)).pick (A := blkA g2 210 (fcells d.F rw ++ qtl d)) (by repeat first | exact .here _ _ | assumption | apply Pick.there))⟩ (fun w hI => q_mv (.pointer _) rfl) ?_
    refine p_q hap hsel 5 rfl rfl ⟨_, ((hS.pick (A := rowC 5 (rw i).1 (rw i).2 (d.F i).1) (by repeat first | exact .here _ _ | assumption | apply Pick.there)).pick (A := blkA g2 210 (fcells d.F rw ++ qtl d)) (by repeat first | exact .here _ _ | assumption | apply Pick.there))⟩ (fun w hI => q_mv (.int _ _) rfl) ?_
    refine p_q hap hsel 6 rfl rfl ⟨_, ((hS.pick (A := rowC 5 (rw i).1 (rw i).2 (d.F i).1) (by repeat first | exact .here _ _ | assumption | apply Pick.there)).pick (A := blkA g2 210 (fcells d.F rw ++ qtl d)) (by repeat first | exact .here _ _ | assumption | apply Pick.there))⟩ (fun w hI => q_nilCheck rfl) ?_
    refine p_q hap hsel 7 rfl rfl ⟨_, ((hS.pick (A := rowC 5 (rw i).1 (rw i).2 (d.F i).1) (by repeat first | exact .here _ _ | assumption | apply Pick.there)).pick (A := blkA g2 210 (fcells d.F rw ++ qtl d)) (by repeat first | exact .here _ _ | assumption | apply Pick.there))⟩ (fun w hI => q_fieldAddr 0 Try.runUnderlying210 rfl Try.sizeOf208 (by decide) rfl rfl) ?_
    first | refine p_q hap hsel 8 rfl rfl ⟨_, ((hS.pick (A := rowC 5 (rw i).1 (rw i).2 (d.F i).1) (by repeat first | exact .here _ _ | assumption | apply Pick.there)).pick (A := blkA g2 210 (fcells d.F rw ++ qtl d)) (by repeat first | exact .here _ _ | assumption | apply Pick.there))⟩ (fun w hI => q_arr_nat Try.runUnderlying208 Try.sizeOf207 rfl rfl (by omega)) ?_ | refine p_q hap hsel 8 rfl rfl ⟨_, ((hS.pick (A := rowC 5 (rw i).1 (rw i).2 (d.F i).1) (by repeat first | exact .here _ _ | assumption | apply Pick.there)).pick (A := blkA g2 210 (fcells d.F rw ++ qtl d)) (by repeat first | exact .here _ _ | assumption | apply Pick.there))⟩ (fun w hI => q_arr Try.runUnderlying208 Try.sizeOf207 rfl rfl (by omega)) ?_
    refine p_q hap hsel 9 rfl rfl ⟨_, ((hS.pick (A := rowC 5 (rw i).1 (rw i).2 (d.F i).1) (by repeat first | exact .here _ _ | assumption | apply Pick.there)).pick (A := blkA g2 210 (fcells d.F rw ++ qtl d)) (by repeat first | exact .here _ _ | assumption | apply Pick.there))⟩ (fun w hI => q_fieldAddr 0 Try.runUnderlying207 rfl Try.sizeOf48 (by decide) rfl rfl) ?_
    refine p_q hap hsel 10 rfl rfl ⟨_, ((hS.pick (A := rowC 5 (rw i).1 (rw i).2 (d.F i).1) (by repeat first | exact .here _ _ | assumption | apply Pick.there)).pick (A := blkA g2 210 (fcells d.F rw ++ qtl d)) (by repeat first | exact .here _ _ | assumption | apply Pick.there))⟩ (fun w hI => q_load1 Try.isAgg48 rfl (hI.choose_spec.cell (by repeat first | exact .here _ _ | assumption | apply Pick.there) (fc_b hi))) ?_
    refine p_q hap hsel 11 rfl rfl ⟨_, ((hS.pick (A := rowC 5 (rw i).1 (rw i).2 (d.F i).1) (by repeat first | exact .here _ _ | assumption | apply Pick.there)).pick (A := blkA g2 210 (fcells d.F rw ++ qtl d)) (by repeat first | exact .here _ _ | assumption | apply Pick.there))⟩ (fun w hI => q_string Try.runUnderlying48 Try.runUnderlying5 Try.runUnderlying9 rfl rfl (hI.choose_spec.rowC_rd (by repeat first | exact .here _ _ | assumption | apply Pick.there))) ?_
    refine p_one 2 rfl (by kernel_rfl) ?_
    refine t_call Try.call80 (read_in (i := (i : Int)) hS (by repeat first | exact .here _ _ | assumption | apply Pick.there) hG ⟨by omega, by omega⟩) rfl ?_
    rintro e w ⟨A11, c11, rfl, hS⟩
    refine ⟨_, rfl, ?_⟩
    rw [Int.toNat_natCast] at hS
    refine t_nil ?_
    refine ⟨.inr ⟨_, ((hS.pick (A := rowC 5 (rw i).1 (rw i).2 (d.F i).1) (by repeat first | exact .here _ _ | assumption | apply Pick.there)).pick (A := blkA g2 210 (fcells d.F rw ++ qtl d)) (by repeat first | exact .here _ _ | assumption | apply Pick.there))⟩, ?_⟩
    refine p_one 3 rfl (by kernel_rfl) ?_
    refine t_q (q_string Try.runUnderlying48 Try.runUnderlying5 Try.runUnderlying9 rfl rfl (hS.rowRd (A := A11) (c := c11) (bs := (d.F i).1) (by repeat first | exact .here _ _ | assumption | apply Pick.there) rfl)) ?_
    refine t_nil ?_
    refine ⟨.inr ⟨_, ((hS.pick (A := rowC 5 (rw i).1 (rw i).2 (d.F i).1) (by repeat first | exact .here _ _ | assumption | apply Pick.there)).pick (A := blkA g2 210 (fcells d.F rw ++ qtl d)) (by repeat first | exact .here _ _ | assumption | apply Pick.there))⟩, ?_⟩
    refine p_q hap hsel 12 rfl rfl ⟨_, ((hS.pick (A := rowC 5 (rw i).1 (rw i).2 (d.F i).1) (by repeat first | exact .here _ _ | assumption | apply Pick.there)).pick (A := blkA g2 210 (fcells d.F rw ++ qtl d)) (by repeat first | exact .here _ _ | assumption | apply Pick.there))⟩ (fun w hI => (q_cast (v' := .bool false) (q_neq_string rfl rfl) (by simp))) ?_
    refine p_q hap hsel 13 rfl rfl ⟨_, ((hS.pick (A := rowC 5 (rw i).1 (rw i).2 (d.F i).1) (by repeat first | exact .here _ _ | assumption | apply Pick.there)).pick (A := blkA g2 210 (fcells d.F rw ++ qtl d)) (by repeat first | exact .here _ _ | assumption | apply Pick.there))⟩ (fun w hI => q_mv (.bool _) rfl) ?_
    refine p_yes hap hsel 14 rfl rfl ⟨_, ((hS.pick (A := rowC 5 (rw i).1 (rw i).2 (d.F i).1) (by repeat first | exact .here _ _ | assumption | apply Pick.there)).pick (A := blkA g2 210 (fcells d.F rw ++ qtl d)) (by repeat first | exact .here _ _ | assumption | apply Pick.there))⟩ rfl rfl rfl (fun w hI => q_mv (.pointer _) rfl) ?_
    refine p_yes hap hsel 15 rfl rfl ⟨_, ((hS.pick (A := rowC 5 (rw i).1 (rw i).2 (d.F i).1) (by repeat first | exact .here _ _ | assumption | apply Pick.there)).pick (A := blkA g2 210 (fcells d.F rw ++ qtl d)) (by repeat first | exact .here _ _ | assumption | apply Pick.there))⟩ rfl rfl rfl (fun w hI => q_mv (.int _ _) rfl) ?_
    refine p_yes hap hsel 17 rfl rfl ⟨_, ((hS.pick (A := rowC 5 (rw i).1 (rw i).2 (d.F i).1) (by repeat first | exact .here _ _ | assumption | apply Pick.there)).pick (A := blkA g2 210 (fcells d.F rw ++ qtl d)) (by repeat first | exact .here _ _ | assumption | apply Pick.there))⟩ rfl rfl rfl (fun w hI => q_mv (.pointer _) rfl) ?_
    refine p_yes hap hsel 18 rfl rfl ⟨_, ((hS.pick (A := rowC 5 (rw i).1 (rw i).2 (d.F i).1) (by repeat first | exact .here _ _ | assumption | apply Pick.there)).pick (A := blkA g2 210 (fcells d.F rw ++ qtl d)) (by repeat first | exact .here _ _ | assumption | apply Pick.there))⟩ rfl rfl rfl (fun w hI => q_mv (.int _ _) rfl) ?_
    refine p_yes hap hsel 19 rfl rfl ⟨_, ((hS.pick (A := rowC 5 (rw i).1 (rw i).2 (d.F i).1) (by repeat first | exact .here _ _ | assumption | apply Pick.there)).pick (A := blkA g2 210 (fcells d.F rw ++ qtl d)) (by repeat first | exact .here _ _ | assumption | apply Pick.there))⟩ rfl rfl rfl (fun w hI => q_nilCheck rfl) ?_
    refine p_yes hap hsel 20 rfl rfl ⟨_, ((hS.pick (A := rowC 5 (rw i).1 (rw i).2 (d.F i).1) (by repeat first | exact .here _ _ | assumption | apply Pick.there)).pick (A := blkA g2 210 (fcells d.F rw ++ qtl d)) (by repeat first | exact .here _ _ | assumption | apply Pick.there))⟩ rfl rfl rfl (fun w hI => q_fieldAddr 0 Try.runUnderlying210 rfl Try.sizeOf208 (by decide) rfl rfl) ?_
    first | refine p_yes hap hsel 21 rfl rfl ⟨_, ((hS.pick (A := rowC 5 (rw i).1 (rw i).2 (d.F i).1) (by repeat first | exact .here _ _ | assumption | apply Pick.there)).pick (A := blkA g2 210 (fcells d.F rw ++ qtl d)) (by repeat first | exact .here _ _ | assumption | apply Pick.there))⟩ rfl rfl rfl (fun w hI => q_arr_nat Try.runUnderlying208 Try.sizeOf207 rfl rfl (by omega)) ?_ | refine p_yes hap hsel 21 rfl rfl ⟨_, ((hS.pick (A := rowC 5 (rw i).1 (rw i).2 (d.F i).1) (by repeat first | exact .here _ _ | assumption | apply Pick.there)).pick (A := blkA g2 210 (fcells d.F rw ++ qtl d)) (by repeat first | exact .here _ _ | assumption | apply Pick.there))⟩ rfl rfl rfl (fun w hI => q_arr Try.runUnderlying208 Try.sizeOf207 rfl rfl (by omega)) ?_
    refine p_yes hap hsel 22 rfl rfl ⟨_, ((hS.pick (A := rowC 5 (rw i).1 (rw i).2 (d.F i).1) (by repeat first | exact .here _ _ | assumption | apply Pick.there)).pick (A := blkA g2 210 (fcells d.F rw ++ qtl d)) (by repeat first | exact .here _ _ | assumption | apply Pick.there))⟩ rfl rfl rfl (fun w hI => q_fieldAddr 0 Try.runUnderlying207 rfl Try.sizeOf48 (by decide) rfl rfl) ?_
    refine p_yes hap hsel 23 rfl rfl ⟨_, ((hS.pick (A := rowC 5 (rw i).1 (rw i).2 (d.F i).1) (by repeat first | exact .here _ _ | assumption | apply Pick.there)).pick (A := blkA g2 210 (fcells d.F rw ++ qtl d)) (by repeat first | exact .here _ _ | assumption | apply Pick.there))⟩ rfl rfl rfl (fun w hI => q_load1 Try.isAgg48 rfl (hI.choose_spec.cell (by repeat first | exact .here _ _ | assumption | apply Pick.there) (fc_b hi))) ?_
    refine p_yes hap hsel 24 rfl rfl ⟨_, ((hS.pick (A := rowC 5 (rw i).1 (rw i).2 (d.F i).1) (by repeat first | exact .here _ _ | assumption | apply Pick.there)).pick (A := blkA g2 210 (fcells d.F rw ++ qtl d)) (by repeat first | exact .here _ _ | assumption | apply Pick.there))⟩ rfl rfl rfl (fun w hI => q_len_slice Try.runUnderlying48 rfl) ?_
    refine p_one 16 rfl (by kernel_rfl) ?_
    refine t_yes rfl rfl rfl ?_
    refine t_call Try.call93 (size_in (i := (i : Int)) hS (by repeat first | exact .here _ _ | assumption | apply Pick.there) hG ⟨by omega, by omega⟩) rfl ?_
    rintro e w ⟨rfl, hS⟩
    refine ⟨_, rfl, ?_⟩
    refine t_nil ?_
    refine ⟨.inr ⟨_, ((hS.pick (A := rowC 5 (rw i).1 (rw i).2 (d.F i).1) (by repeat first | exact .here _ _ | assumption | apply Pick.there)).pick (A := blkA g2 210 (fcells d.F rw ++ qtl d)) (by repeat first | exact .here _ _ | assumption | apply Pick.there))⟩, ?_⟩
    refine p_yes hap hsel 25 rfl rfl ⟨_, ((hS.pick (A := rowC 5 (rw i).1 (rw i).2 (d.F i).1) (by repeat first | exact .here _ _ | assumption | apply Pick.there)).pick (A := blkA g2 210 (fcells d.F rw ++ qtl d)) (by repeat first | exact .here _ _ | assumption | apply Pick.there))⟩ rfl rfl rfl (fun w hI => (q_cast (v' := .bool false) (q_neq rfl rfl) (by simp))) ?_
    refine p_q hap hsel 26 rfl rfl ⟨_, ((hS.pick (A := rowC 5 (rw i).1 (rw i).2 (d.F i).1) (by repeat first | exact .here _ _ | assumption | apply Pick.there)).pick (A := blkA g2 210 (fcells d.F rw ++ qtl d)) (by repeat first | exact .here _ _ | assumption | apply Pick.there))⟩ (fun w hI => q_pick_f rfl rfl) ?_
    refine p_q hap hsel 27 rfl rfl ⟨_, ((hS.pick (A := rowC 5 (rw i).1 (rw i).2 (d.F i).1) (by repeat first | exact .here _ _ | assumption | apply Pick.there)).pick (A := blkA g2 210 (fcells d.F rw ++ qtl d)) (by repeat first | exact .here _ _ | assumption | apply Pick.there))⟩ (fun w hI => q_mv (.bool _) rfl) ?_
    refine p_yes hap hsel 28 rfl rfl ⟨_, ((hS.pick (A := rowC 5 (rw i).1 (rw i).2 (d.F i).1) (by repeat first | exact .here _ _ | assumption | apply Pick.there)).pick (A := blkA g2 210 (fcells d.F rw ++ qtl d)) (by repeat first | exact .here _ _ | assumption | apply Pick.there))⟩ rfl rfl rfl (fun w hI => q_mv (.pointer _) rfl) ?_
    refine p_yes hap hsel 29 rfl rfl ⟨_, ((hS.pick (A := rowC 5 (rw i).1 (rw i).2 (d.F i).1) (by repeat first | exact .here _ _ | assumption | apply Pick.there)).pick (A := blkA g2 210 (fcells d.F rw ++ qtl d)) (by repeat first | exact .here _ _ | assumption | apply Pick.there))⟩ rfl rfl rfl (fun w hI => q_mv (.int _ _) rfl) ?_
    refine p_yes hap hsel 31 rfl rfl ⟨_, ((hS.pick (A := rowC 5 (rw i).1 (rw i).2 (d.F i).1) (by repeat first | exact .here _ _ | assumption | apply Pick.there)).pick (A := blkA g2 210 (fcells d.F rw ++ qtl d)) (by repeat first | exact .here _ _ | assumption | apply Pick.there))⟩ rfl rfl rfl (fun w hI => q_mv (.pointer _) rfl) ?_
    refine p_yes hap hsel 32 rfl rfl ⟨_, ((hS.pick (A := rowC 5 (rw i).1 (rw i).2 (d.F i).1) (by repeat first | exact .here _ _ | assumption | apply Pick.there)).pick (A := blkA g2 210 (fcells d.F rw ++ qtl d)) (by repeat first | exact .here _ _ | assumption | apply Pick.there))⟩ rfl rfl rfl (fun w hI => q_mv (.int _ _) rfl) ?_
    refine p_yes hap hsel 33 rfl rfl ⟨_, ((hS.pick (A := rowC 5 (rw i).1 (rw i).2 (d.F i).1) (by repeat first | exact .here _ _ | assumption | apply Pick.there)).pick (A := blkA g2 210 (fcells d.F rw ++ qtl d)) (by repeat first | exact .here _ _ | assumption | apply Pick.there))⟩ rfl rfl rfl (fun w hI => q_nilCheck rfl) ?_
    refine p_yes hap hsel 34 rfl rfl ⟨_, ((hS.pick (A := rowC 5 (rw i).1 (rw i).2 (d.F i).1) (by repeat first | exact .here _ _ | assumption | apply Pick.there)).pick (A := blkA g2 210 (fcells d.F rw ++ qtl d)) (by repeat first | exact .here _ _ | assumption | apply Pick.there))⟩ rfl rfl rfl (fun w hI => q_fieldAddr 0 Try.runUnderlying210 rfl Try.sizeOf208 (by decide) rfl rfl) ?_
    first | refine p_yes hap hsel 35 rfl rfl ⟨_, ((hS.pick (A := rowC 5 (rw i).1 (rw i).2 (d.F i).1) (by repeat first | exact .here _ _ | assumption | apply Pick.there)).pick (A := blkA g2 210 (fcells d.F rw ++ qtl d)) (by repeat first | exact .here _ _ | assumption | apply Pick.there))⟩ rfl rfl rfl (fun w hI => q_arr_nat Try.runUnderlying208 Try.sizeOf207 rfl rfl (by omega)) ?_ | refine p_yes hap hsel 35 rfl rfl ⟨_, ((hS.pick (A := rowC 5 (rw i).1 (rw i).2 (d.F i).1) (by repeat first | exact .here _ _ | assumption | apply Pick.there)).pick (A := blkA g2 210 (fcells d.F rw ++ qtl d)) (by repeat first | exact .here _ _ | assumption | apply Pick.there))⟩ rfl rfl rfl (fun w hI => q_arr Try.runUnderlying208 Try.sizeOf207 rfl rfl (by omega)) ?_
    refine p_yes hap hsel 36 rfl rfl ⟨_, ((hS.pick (A := rowC 5 (rw i).1 (rw i).2 (d.F i).1) (by repeat first | exact .here _ _ | assumption | apply Pick.there)).pick (A := blkA g2 210 (fcells d.F rw ++ qtl d)) (by repeat first | exact .here _ _ | assumption | apply Pick.there))⟩ rfl rfl rfl (fun w hI => q_fieldAddr 1 Try.runUnderlying207 rfl Try.sizeOf3 (by decide) rfl rfl) ?_
    refine p_yes hap hsel 37 rfl rfl ⟨_, ((hS.pick (A := rowC 5 (rw i).1 (rw i).2 (d.F i).1) (by repeat first | exact .here _ _ | assumption | apply Pick.there)).pick (A := blkA g2 210 (fcells d.F rw ++ qtl d)) (by repeat first | exact .here _ _ | assumption | apply Pick.there))⟩ rfl rfl rfl (fun w hI => q_load1 Try.isAgg3 rfl (hI.choose_spec.cell (by repeat first | exact .here _ _ | assumption | apply Pick.there) (fc_s hi))) ?_
    refine p_one 30 rfl (by kernel_rfl) ?_
    refine t_yes rfl rfl rfl ?_
    refine t_call Try.call81 (sync_in (i := (i : Int)) hS (by repeat first | exact .here _ _ | assumption | apply Pick.there) hG ⟨by omega, by omega⟩) rfl ?_
    rintro e w ⟨rfl, hS⟩
    refine ⟨_, rfl, ?_⟩
    refine t_nil ?_
    refine ⟨.inr ⟨_, ((hS.pick (A := rowC 5 (rw i).1 (rw i).2 (d.F i).1) (by repeat first | exact .here _ _ | assumption | apply Pick.there)).pick (A := blkA g2 210 (fcells d.F rw ++ qtl d)) (by repeat first | exact .here _ _ | assumption | apply Pick.there))⟩, ?_⟩
    refine p_yes hap hsel 38 rfl rfl ⟨_, ((hS.pick (A := rowC 5 (rw i).1 (rw i).2 (d.F i).1) (by repeat first | exact .here _ _ | assumption | apply Pick.there)).pick (A := blkA g2 210 (fcells d.F rw ++ qtl d)) (by repeat first | exact .here _ _ | assumption | apply Pick.there))⟩ rfl rfl rfl (fun w hI => (q_cast (v' := .bool false) (q_neq rfl rfl) (by simp))) ?_
    refine p_q hap hsel 39 rfl rfl ⟨_, ((hS.pick (A := rowC 5 (rw i).1 (rw i).2 (d.F i).1) (by repeat first | exact .here _ _ | assumption | apply Pick.there)).pick (A := blkA g2 210 (fcells d.F rw ++ qtl d)) (by repeat first | exact .here _ _ | assumption | apply Pick.there))⟩ (fun w hI => q_pick_f rfl rfl) ?_
    refine p_end (by kernel_rfl) ?_
    refine c_cond_f rfl rfl ?_
    refine c_skip ?_
    refine c_region ?_
    refine t_q (q_add_i64 rfl rfl (by omega)) ?_
    refine t_q (q_mv (.int _ _) rfl) ?_
    refine t_nil ?_
    replace hS := (hS.pick (A := rowA 5 1 A11 _ c11 _) (by repeat first | exact .here _ _ | assumption | apply Pick.there)).drop
    replace hS := (((hS.pick (A := packA _) (by repeat first | exact .here _ _ | assumption | apply Pick.there)).pick (A := rowC 5 (rw i).1 (rw i).2 (d.F i).1) (by repeat first | exact .here _ _ | assumption | apply Pick.there))).unfile0 hi
    exact ⟨k - 1, by omega, i + 1, rfl, by omega, by omega, (((hS.pick (A := dskA g d) (by repeat first | exact .here _ _ | assumption | apply Pick.there)).pick (A := packA (filesL d.F rw)) (by repeat first | exact .here _ _ | assumption | apply Pick.there)).pick (A := blkA g2 210 (fcells d.F rw ++ qtl d)) (by repeat first | exact .here _ _ | assumption | apply Pick.there))⟩
  · intro hc2
    have hc2d := of_decide_eq_false hc2
    obtain rfl : i = 32 := by omega
    refine c_exit ?_
    refine ite_t rfl ?_
    refine c_seq ?_
    refine c_draw ?_
    refine d_keep (blkA g2 210 (fcells d.F rw ++ qtl d)) 33 [0, 1, 2, 3, 4, 5, 6, 7, 8, 9, 10, 11, 12, 13, 14, 15, 16, 17, 18, 19, 20, 21, 22, 23, 24, 25, 26, 27, 28, 29, 30, 31, 32] [0, 1, 2, 3, 4, 5, 6, 7, 8, 9, 10, 11, 12, 13, 14, 15, 16, 17, 18, 19, 20, 21, 22, 23, 24, 25, 26, 27, 28, 29, 30, 31, 32] hS rfl (by kernel_rfl) (by kernel_rfl) (by kernel_rfl) (by kernel_rfl) (fun hap hsel w hS => ?_)
    refine p_q hap hsel 0 rfl rfl ⟨_, hS.pick (by repeat first | exact .here _ _ | assumption | apply Pick.there)⟩ (fun w hI => q_mv (.pointer _) rfl) ?_
    refine p_q hap hsel 2 rfl rfl ⟨_, hS.pick (by repeat first | exact .here _ _ | assumption | apply Pick.there)⟩ (fun w hI => q_mv (.pointer _) rfl) ?_
    refine p_q hap hsel 3 rfl rfl ⟨_, hS.pick (by repeat first | exact .here _ _ | assumption | apply Pick.there)⟩ (fun w hI => q_nilCheck rfl) ?_
    refine p_q hap hsel 4 rfl rfl ⟨_, hS.pick (by repeat first | exact .here _ _ | assumption | apply Pick.there)⟩ (fun w hI => q_fieldAddr 65 Try.runUnderlying210 rfl Try.sizeOf4 (by decide) rfl rfl) ?_
    refine p_q hap hsel 5 rfl rfl ⟨_, hS.pick (by repeat first | exact .here _ _ | assumption | apply Pick.there)⟩ (fun w hI => q_load1 Try.isAgg4 rfl (hI.choose_spec.cell (by repeat first | exact .here _ _ | assumption | apply Pick.there) ((fc_tl 1).trans (qtl_1 d)))) ?_
    refine p_one 1 rfl (by kernel_rfl) ?_
    refine t_call Try.call84 (down_calls hS (by repeat first | exact .here _ _ | assumption | apply Pick.there)) rfl ?_
    rintro e w ⟨rfl, hS⟩
    refine ⟨_, rfl, ?_⟩
    refine t_nil ?_
    refine ⟨.inr ⟨_, hS.pick (by repeat first | exact .here _ _ | assumption | apply Pick.there)⟩, ?_⟩
    refine p_q hap hsel 6 rfl rfl ⟨_, hS.pick (by repeat first | exact .here _ _ | assumption | apply Pick.there)⟩ (fun w hI => (q_cast (v' := .bool true) (q_eql_bool Try.runUnderlying4 rfl rfl) (by simp))) ?_
    refine p_q hap hsel 7 rfl rfl ⟨_, hS.pick (by repeat first | exact .here _ _ | assumption | apply Pick.there)⟩ (fun w hI => q_mv (.bool _) rfl) ?_
    refine p_yes hap hsel 8 rfl rfl ⟨_, hS.pick (by repeat first | exact .here _ _ | assumption | apply Pick.there)⟩ rfl rfl rfl (fun w hI => q_mv (.pointer _) rfl) ?_
    refine p_yes hap hsel 10 rfl rfl ⟨_, hS.pick (by repeat first | exact .here _ _ | assumption | apply Pick.there)⟩ rfl rfl rfl (fun w hI => q_mv (.pointer _) rfl) ?_
    refine p_yes hap hsel 11 rfl rfl ⟨_, hS.pick (by repeat first | exact .here _ _ | assumption | apply Pick.there)⟩ rfl rfl rfl (fun w hI => q_nilCheck rfl) ?_
    refine p_yes hap hsel 12 rfl rfl ⟨_, hS.pick (by repeat first | exact .here _ _ | assumption | apply Pick.there)⟩ rfl rfl rfl (fun w hI => q_fieldAddr 66 Try.runUnderlying210 rfl Try.sizeOf3 (by decide) rfl rfl) ?_
    refine p_yes hap hsel 13 rfl rfl ⟨_, hS.pick (by repeat first | exact .here _ _ | assumption | apply Pick.there)⟩ rfl rfl rfl (fun w hI => q_load1 Try.isAgg3 rfl (hI.choose_spec.cell (by repeat first | exact .here _ _ | assumption | apply Pick.there) ((fc_tl 2).trans (qtl_2 d)))) ?_
    refine p_one 9 rfl (by kernel_rfl) ?_
    refine t_yes rfl rfl rfl ?_
    refine t_call Try.call94 (calls_calls hS (by repeat first | exact .here _ _ | assumption | apply Pick.there)) rfl ?_
    rintro e w ⟨rfl, hS⟩
    refine ⟨_, rfl, ?_⟩
    refine t_nil ?_
    refine ⟨.inr ⟨_, hS.pick (by repeat first | exact .here _ _ | assumption | apply Pick.there)⟩, ?_⟩
    refine p_yes hap hsel 14 rfl rfl ⟨_, hS.pick (by repeat first | exact .here _ _ | assumption | apply Pick.there)⟩ rfl rfl rfl (fun w hI => (q_cast (v' := .bool true) (q_eql rfl rfl) (by simp))) ?_
    refine p_q hap hsel 15 rfl rfl ⟨_, hS.pick (by repeat first | exact .here _ _ | assumption | apply Pick.there)⟩ (fun w hI => q_pick_t rfl rfl) ?_
    refine p_q hap hsel 16 rfl rfl ⟨_, hS.pick (by repeat first | exact .here _ _ | assumption | apply Pick.there)⟩ (fun w hI => q_mv (.bool _) rfl) ?_
    refine p_yes hap hsel 17 rfl rfl ⟨_, hS.pick (by repeat first | exact .here _ _ | assumption | apply Pick.there)⟩ rfl rfl rfl (fun w hI => q_mv (.pointer _) rfl) ?_
    refine p_one 18 rfl (by kernel_rfl) ?_
    refine t_yes rfl rfl rfl ?_
    refine t_call Try.call80 (read_out (by omega)) rfl ?_
    rintro e w ⟨rfl, hT⟩
    refine ⟨_, rfl, ?_⟩
    replace hS := hS.after hT
    refine t_nil ?_
    refine ⟨.inr ⟨_, hS.pick (by repeat first | exact .here _ _ | assumption | apply Pick.there)⟩, ?_⟩
    refine p_yes hap hsel 19 rfl rfl ⟨_, hS.pick (by repeat first | exact .here _ _ | assumption | apply Pick.there)⟩ rfl rfl rfl (fun w hI => q_len_slice Try.runUnderlying48 rfl) ?_
    refine p_yes hap hsel 20 rfl rfl ⟨_, hS.pick (by repeat first | exact .here _ _ | assumption | apply Pick.there)⟩ rfl rfl rfl (fun w hI => (q_cast (v' := .bool true) (q_eql rfl rfl) (by rfl))) ?_
    refine p_q hap hsel 21 rfl rfl ⟨_, hS.pick (by repeat first | exact .here _ _ | assumption | apply Pick.there)⟩ (fun w hI => q_pick_t rfl rfl) ?_
    refine p_q hap hsel 22 rfl rfl ⟨_, hS.pick (by repeat first | exact .here _ _ | assumption | apply Pick.there)⟩ (fun w hI => q_mv (.bool _) rfl) ?_
    refine p_yes hap hsel 23 rfl rfl ⟨_, hS.pick (by repeat first | exact .here _ _ | assumption | apply Pick.there)⟩ rfl rfl rfl (fun w hI => q_mv (.pointer _) rfl) ?_
    refine p_one 24 rfl (by kernel_rfl) ?_
    refine t_yes rfl rfl rfl ?_
    refine t_call Try.call93 (size_out (by omega)) rfl ?_
    rintro e w ⟨rfl, hT⟩
    refine ⟨_, rfl, ?_⟩
    replace hS := hS.after hT
    refine t_nil ?_
    refine ⟨.inr ⟨_, hS.pick (by repeat first | exact .here _ _ | assumption | apply Pick.there)⟩, ?_⟩
    refine p_yes hap hsel 25 rfl rfl ⟨_, hS.pick (by repeat first | exact .here _ _ | assumption | apply Pick.there)⟩ rfl rfl rfl (fun w hI => (q_cast (v' := .bool true) (q_eql rfl rfl) (by rfl))) ?_
    refine p_q hap hsel 26 rfl rfl ⟨_, hS.pick (by repeat first | exact .here _ _ | assumption | apply Pick.there)⟩ (fun w hI => q_pick_t rfl rfl) ?_
    refine p_q hap hsel 27 rfl rfl ⟨_, hS.pick (by repeat first | exact .here _ _ | assumption | apply Pick.there)⟩ (fun w hI => q_mv (.bool _) rfl) ?_
    refine p_yes hap hsel 28 rfl rfl ⟨_, hS.pick (by repeat first | exact .here _ _ | assumption | apply Pick.there)⟩ rfl rfl rfl (fun w hI => q_mv (.pointer _) rfl) ?_
    refine p_one 29 rfl (by kernel_rfl) ?_
    refine t_yes rfl rfl rfl ?_
    refine t_call Try.call81 (sync_out (by omega)) rfl ?_
    rintro e w ⟨rfl, hT⟩
    refine ⟨_, rfl, ?_⟩
    replace hS := hS.after hT
    refine t_nil ?_
    refine ⟨.inr ⟨_, hS.pick (by repeat first | exact .here _ _ | assumption | apply Pick.there)⟩, ?_⟩
    refine p_yes hap hsel 30 rfl rfl ⟨_, hS.pick (by repeat first | exact .here _ _ | assumption | apply Pick.there)⟩ rfl rfl rfl (fun w hI => (q_cast (v' := .bool true) (q_eql rfl rfl) (by rfl))) ?_
    refine p_q hap hsel 31 rfl rfl ⟨_, hS.pick (by repeat first | exact .here _ _ | assumption | apply Pick.there)⟩ (fun w hI => q_pick_t rfl rfl) ?_
    refine p_q hap hsel 32 rfl rfl ⟨_, hS.pick (by repeat first | exact .here _ _ | assumption | apply Pick.there)⟩ (fun w hI => q_as (.bool _) rfl) ?_
    refine p_end (by kernel_rfl) ?_
    refine c_ret ?_
    refine r_one rfl rfl ?_
    exact ⟨rfl, ((((hS.pick (A := packA _) (by repeat first | exact .here _ _ | assumption | apply Pick.there)).pick (A := blkA g2 210 (fcells d.F rw ++ qtl d)) (by repeat first | exact .here _ _ | assumption | apply Pick.there))).unqdk).pick (A := dskA g d) (by repeat first | exact .here _ _ | assumption | apply Pick.there)⟩
def RdDsk (w : World) (A : Option Addr) (l : List DskOp) : Prop := Rd w 5 A l.length (fun i => (l.getD i default).cells)
theorem RdDsk.st {w : World} {Q : List Asn} {A : Option Addr} {l : List DskOp} (h : RdDsk W A l) (hS : St W w Q) : RdDsk w A l := Rd.st h hS
theorem dsk_at {l : List DskOp} (h : ∀ e ∈ l, e.Ok W) {j : Nat} (hj : j < l.length) : (l.getD j default).Ok W := by
  rw [List.getD_eq_getElem?_getD, List.getElem?_eq_getElem hj]
  exact h _ (List.getElem_mem hj)
def LightB (l : List DskOp) : Prop := l.length ≤ 100 ∧ ∀ i, i < l.length → (l.getD i default).b.l.length ≤ 2000 ∧ (l.getD i default).keep.l.length ≤ 40
set_option maxHeartbeats 1000000 in
set_option maxRecDepth 100000 in
theorem dlight_calls {A : Option Addr} {c : Nat} {l : List DskOp} (hl : RdDsk W A l) (hok : ∀ e ∈ l, e.Ok W) (hm : l.length ≤ maxLen) : Calls Try.prog 73 #[.slice A l.length c] W fun e w' => ∃ b, e = .returned (.bool b) ∧ (b = true → LightB l) ∧ St W w' [] := by
  have hS := St.init W
  unfold maxLen at hm
  refine calls_of_wpE (args := [_]) Try.func73 rfl rfl rfl ?_
  refine c_seq ?_
  refine c_region ?_
  refine t_q (q_assign) ?_
  refine t_nil ?_
  refine c_seq ?_
  refine c_seq ?_
  refine c_region ?_
  refine t_q (q_mv (.slice _ _ _) rfl) ?_
  refine t_q (q_len_slice Try.runUnderlying86 rfl) ?_
  refine t_q (q_move) ?_
  refine t_nil ?_
  refine c_block ?_
  refine c_loop [2, 4, 7, 8, 9, 10, 11, 12, 13, 14, 15, 16, 17, 18, 19, 20, 21] (fun k σ w => ∃ j : Nat, σ 7 = .int .i64 (j : Int) ∧ j ≤ l.length ∧ l.length - j ≤ k ∧ (∀ i, i < j → (l.getD i default).b.l.length ≤ 2000 ∧ (l.getD i default).keep.l.length ≤ 40) ∧ St W w []) (l.length) rfl (⟨0, rfl, by omega, by omega, (fun i h => absurd h (by omega)), hS⟩) ?_
  skip
  rintro k σ w ⟨j, h7, hj, hk, hall, hS⟩
  refine c_know 7 h7 ?_
  clear h7
  refine c_seq ?_
  refine c_region ?_
  refine t_q (q_lss rfl rfl) ?_
  refine t_nil ?_
  refine c_seq ?_
  refine c_cond rfl ?_ ?_
  · intro hc2
    have hc2d := of_decide_eq_true hc2
    have hxo := dsk_at hok (j := j) (by omega)
    have hxl := hxo.b.le
    have hxk := hxo.keep.le
    refine c_skip ?_
    refine c_seq ?_
    refine c_block ?_
    refine c_seq ?_
    refine c_region ?_
    first | refine t_index_nat Try.runUnderlying86 Try.sizeOf96 (hl.st hS) rfl rfl (by omega) (fun ad3 hl3 hx3 => ?_) | refine t_index Try.runUnderlying86 Try.sizeOf96 (hl.st hS) rfl rfl (by omega) (fun ad3 hl3 hx3 => ?_)
    refine t_q (q_loadN Try.isAgg96 Try.sizeOf96 rfl hl3 hx3) ?_
    refine t_alloc Try.zeroValue96 rfl hS (fun g4 w hS => ?_)
    refine t_store (v := (.agg _)) Try.sizeOf96 hS (by repeat first | exact .here _ _ | assumption | apply Pick.there) rfl rfl rfl rfl rfl rfl (fun w hS => ?_)
    replace hS := hS.recast (show blkA g4 96 _ = blkA g4 96 (l.getD j default).cells from rfl)
    refine t_nil ?_
    refine c_seq ?_
    refine c_region ?_
    refine t_q (q_fieldAddr 3 Try.runUnderlying96 rfl Try.sizeOf48 (by decide) rfl rfl) ?_
    refine t_q (q_load1 Try.isAgg48 rfl (hS.cell (by repeat first | exact .here _ _ | assumption | apply Pick.there) rfl)) ?_
    refine t_q (q_len_slice Try.runUnderlying48 rfl) ?_
    refine t_q (q_gtr rfl rfl) ?_
    refine t_q (q_mv (.bool _) rfl) ?_
    refine t_case 15 rfl ?_ ?_
    · intro hg5
      have hg5d := of_decide_eq_true hg5
      refine t_no rfl rfl (by rw [hg5]; decide) ?_
      refine t_no rfl rfl (by rw [hg5]; decide) ?_
      refine t_no rfl rfl (by rw [hg5]; decide) ?_
      refine t_no rfl rfl (by rw [hg5]; decide) ?_
      refine t_q (q_pick_t rfl hg5) ?_
      refine t_nil ?_
      refine c_cond_t rfl rfl ?_
      refine c_seq ?_
      refine c_region ?_
      refine t_q (q_assign) ?_
      refine t_nil ?_
      refine c_ret ?_
      refine r_one rfl rfl ?_
      first
        | exact ⟨_, rfl, (fun h => by cases h), hS.nil⟩
        | exact ⟨_, rfl, (fun h => ⟨by have := of_decide_eq_true h; omega, hall⟩), hS.nil⟩
    · intro hg5
      have hg5d := of_decide_eq_false hg5
      refine t_yes rfl rfl hg5 ?_
      refine t_q (q_fieldAddr 4 Try.runUnderlying96 rfl Try.sizeOf94 (by decide) rfl rfl) ?_
      refine t_yes rfl rfl hg5 ?_
      refine t_q (q_load1 Try.isAgg94 rfl (hS.cell (by repeat first | exact .here _ _ | assumption | apply Pick.there) rfl)) ?_
      refine t_yes rfl rfl hg5 ?_
      refine t_q (q_len_slice Try.runUnderlying94 rfl) ?_
      refine t_yes rfl rfl hg5 ?_
      refine t_q (q_gtr rfl rfl) ?_
      refine t_q (q_pick_f rfl hg5) ?_
      refine t_nil ?_
      refine c_cond rfl ?_ ?_
      · intro hc7
        have hc7d := of_decide_eq_true hc7
        refine c_seq ?_
        refine c_region ?_
        refine t_q (q_assign) ?_
        refine t_nil ?_
        refine c_ret ?_
        refine r_one rfl rfl ?_
        first
          | exact ⟨_, rfl, (fun h => by cases h), hS.nil⟩
          | exact ⟨_, rfl, (fun h => ⟨by have := of_decide_eq_true h; omega, hall⟩), hS.nil⟩
      · intro hc7
        have hc7d := of_decide_eq_false hc7
        have hyes : (l.getD j default).b.l.length ≤ 2000 ∧ (l.getD j default).keep.l.length ≤ 40 := by omega
        refine c_skip ?_
        refine c_region ?_
        refine t_q (q_add_i64 rfl rfl (by omega)) ?_
        refine t_q (q_mv (.int _ _) rfl) ?_
        refine t_nil ?_
        exact ⟨k - 1, by omega, j + 1, rfl, by omega, by omega, (fun i hi => by
          rcases Nat.lt_or_ge i j with h | h
          · exact hall i h
          · obtain rfl : i = j := by omega
            exact hyes), hS.nil⟩
  · intro hc2
    have hc2d := of_decide_eq_false hc2
    obtain rfl : j = l.length := by omega
    refine c_exit ?_
    refine ite_t rfl ?_
    refine c_seq ?_
    refine c_region ?_
    refine t_q (q_mv (.slice _ _ _) rfl) ?_
    refine t_q (q_len_slice Try.runUnderlying86 rfl) ?_
    refine t_q (q_leq rfl rfl) ?_
    refine t_q (q_as (.bool _) rfl) ?_
    refine t_nil ?_
    refine c_ret ?_
    refine r_one rfl rfl ?_
    first
      | exact ⟨_, rfl, (fun h => by cases h), hS.nil⟩
      | exact ⟨_, rfl, (fun h => ⟨by have := of_decide_eq_true h; omega, hall⟩), hS.nil⟩
def Da1 : Dk := apD D0 0 (apE D0.F (0 : Int).toNat ([1, 2, 3] : List UInt8).length) (apF D0.F (0 : Int).toNat [1, 2, 3])
def Da2 : Dk := tnD Da1 0 0 (syF Da1.F (0 : Int).toNat)
def Da3 : Dk := apD Da2 0 (apE Da2.F (0 : Int).toNat ([4, 5] : List UInt8).length) (apF Da2.F (0 : Int).toNat [4, 5])
def Da4 : Dk := crD [1] Da3
theorem Da1_good : DGood Da1 := DGood.zero.ap (i := 0) (ys := [1, 2, 3])
theorem Da2_good : DGood Da2 := Da1_good.tn (syF_good Da1_good.fg _)
theorem Da3_good : DGood Da3 := Da2_good.ap (i := 0) (ys := [4, 5])
theorem Da4_good : DGood Da4 := Da3_good.crash _
theorem Da_calls : Da1.calls ≤ 10 ∧ Da2.calls ≤ 10 ∧ Da3.calls ≤ 10 := by
  have h1 : Da1.calls ≤ D0.calls + 1 := (tn_calls _ _ _ _).2
  have h2 : Da2.calls ≤ Da1.calls + 1 := (tn_calls _ _ _ _).1
  have h3 : Da3.calls ≤ Da2.calls + 1 := (tn_calls _ _ _ _).2
  have h0 : D0.calls = 0 := rfl
  omega
theorem Da4_file : Da4.F (0 : Int).toNat = ([1, 2, 3, 4], 4) := by rfl
set_option maxRecDepth 100000 in
theorem dlives_calls : Calls Try.prog 74 #[] W fun e w' => e = .returned (.bool true) ∧ St W w' [] := by
  have hS := St.init W
  obtain ⟨hc1, hc2, hc3⟩ := Da_calls
  refine calls_of_wpE (args := []) Try.func74 rfl rfl rfl ?_
  refine c_seq ?_
  refine c_region ?_
  refine t_q (q_assign) ?_
  refine t_nil ?_
  refine c_seq ?_
  refine c_region ?_
  refine t_call Try.call75 (dnew_calls hS) rfl ?_
  rintro e w ⟨gD, rfl, hS⟩
  refine ⟨_, rfl, ?_⟩
  refine t_q (q_as (.pointer _) rfl) ?_
  refine t_nil ?_
  refine c_seq ?_
  refine c_region ?_
  refine t_q (q_mv (.pointer _) rfl) ?_
  refine t_build_bytes [_, _, _] Try.runUnderlying48 Try.sizeOf5 Try.zeroValue5 rfl rfl (by simp; try omega) (by decide) hS (fun g4 w hS => ?_)
  replace hS := hS.recast (show _ = rowA 5 1 (some ⟨g4, 0, none⟩) 3 3 (([1, 2, 3]).map bv) from rfl)
  refine t_call Try.call77 (app_calls (d := D0) (ys := [1, 2, 3]) hS (by repeat first | exact .here _ _ | assumption | apply Pick.there) DGood.zero (by decide) (fun _ h => h.rowRd (A := some ⟨g4, 0, none⟩) (bs := [1, 2, 3]) (.here _ _) rfl) rfl (by decide)) rfl ?_
  rintro e w ⟨rfl, hS⟩
  refine ⟨_, rfl, ?_⟩
  replace hS := hS.recast (show _ = dskA gD Da1 from rfl)
  refine t_nil ?_
  refine c_seq ?_
  refine c_region ?_
  refine t_q (q_mv (.pointer _) rfl) ?_
  refine t_call Try.call78 (syn_calls (d := Da1) hS (by repeat first | exact .here _ _ | assumption | apply Pick.there) Da1_good (by omega)) rfl ?_
  rintro e w ⟨rfl, hS⟩
  refine ⟨_, rfl, ?_⟩
  replace hS := hS.recast (show _ = dskA gD Da2 from rfl)
  refine t_nil ?_
  refine c_seq ?_
  refine c_region ?_
  refine t_q (q_mv (.pointer _) rfl) ?_
  refine t_build_bytes [_, _] Try.runUnderlying48 Try.sizeOf5 Try.zeroValue5 rfl rfl (by simp; try omega) (by decide) hS (fun g9 w hS => ?_)
  replace hS := hS.recast (show _ = rowA 5 1 (some ⟨g9, 0, none⟩) 2 2 (([4, 5]).map bv) from rfl)
  refine t_call Try.call77 (app_calls (d := Da2) (ys := [4, 5]) hS (by repeat first | exact .here _ _ | assumption | apply Pick.there) Da2_good (by omega) (fun _ h => h.rowRd (A := some ⟨g9, 0, none⟩) (bs := [4, 5]) (.here _ _) rfl) rfl (by decide)) rfl ?_
  rintro e w ⟨rfl, hS⟩
  refine ⟨_, rfl, ?_⟩
  replace hS := hS.recast (show _ = dskA gD Da3 from rfl)
  refine t_nil ?_
  refine c_seq ?_
  refine c_region ?_
  refine t_q (q_mv (.pointer _) rfl) ?_
  refine t_build_ints [_] Try.runUnderlying94 Try.sizeOf3 Try.zeroValue3 rfl rfl (by decide) hS (fun g12 w hS => ?_)
  refine t_call Try.call83 (crash_calls (d := Da3) (ns := [1]) hS (by repeat first | exact .here _ _ | assumption | apply Pick.there) Da3_good (fun _ h => h.rowInts (A := some ⟨g12, 0, none⟩) (ns := [1]) (.here _ _) rfl) (by decide)) rfl ?_
  rintro e w ⟨rfl, hS⟩
  refine ⟨_, rfl, ?_⟩
  replace hS := hS.recast (show _ = dskA gD Da4 from rfl)
  refine t_nil ?_
  refine c_seq ?_
  refine c_region ?_
  refine t_q (q_mv (.pointer _) rfl) ?_
  refine t_call Try.call80 (read_in (d := Da4) (i := 0) hS (by repeat first | exact .here _ _ | assumption | apply Pick.there) Da4_good (by decide)) rfl ?_
  rintro e w ⟨A15, c15, rfl, hS⟩
  refine ⟨_, rfl, ?_⟩
  refine t_q (q_string Try.runUnderlying48 Try.runUnderlying5 Try.runUnderlying9 rfl rfl (hS.rowRd (A := A15) (c := c15) (bs := (Da4.F (0 : Int).toNat).1) (by repeat first | exact .here _ _ | assumption | apply Pick.there) rfl)) ?_
  refine t_q (q_cast (v' := .bool true) (q_eql_string rfl rfl) (by rw [Da4_file]; rfl)) ?_
  refine t_q (q_mv (.bool _) rfl) ?_
  refine t_yes rfl rfl rfl ?_
  refine t_q (q_mv (.pointer _) rfl) ?_
  refine t_yes rfl rfl rfl ?_
  refine t_call Try.call81 (sync_in (d := Da4) (i := 0) hS (by repeat first | exact .here _ _ | assumption | apply Pick.there) Da4_good (by decide)) rfl ?_
  rintro e w ⟨rfl, hS⟩
  refine ⟨_, rfl, ?_⟩
  refine t_yes rfl rfl rfl ?_
  refine t_q (q_cast (v' := .bool true) (q_eql rfl rfl) (by rw [Da4_file]; rfl)) ?_
  refine t_q (q_pick_t rfl rfl) ?_
  refine t_q (q_as (.bool _) rfl) ?_
  refine t_nil ?_
  refine c_ret ?_
  refine r_one rfl rfl ?_
  exact ⟨rfl, hS.nil⟩
end Go.Proofs.Ytcikoealneldkaa
