/- Faults in memory of the call's own; errors.Is over a chain of faults. -/
import Derived.Test.YtcgagmojgjbfpaaDoorDc
namespace Go.Proofs.YtcgagmojgjbfpaaDoor
open Go Go.RowKit Go.Lib Go.Extern Go.Extern.ReflectliteType
variable {W : World}
/-- faults of the call's own: where each lies, and what it has -/
def fltsA (l : List (Nat × List Value)) : Asn where
  holds w F := F = l.map (·.1) ∧ ∀ p ∈ l, Blk w p.1 76 p.2
  loc w w' F h hk := ⟨h.1, fun p hp => (hk p.1 (by rw [h.1]; exact List.mem_map.2 ⟨p, hp, rfl⟩)).trans (h.2 p hp)⟩
  lt w F h k hk := by
    rw [h.1] at hk
    obtain ⟨p, hp, rfl⟩ := List.mem_map.1 hk
    exact (h.2 p hp).lt
/-- an error that is this chain of faults, the outermost first: layer and number -/
def ErrB (ls : List (Nat × List Value)) : Value → List (Int × Int) → Prop
  | v, [] => v = .nilIface
  | v, (l, c) :: F => ∃ g e, v = .iface 35 (.pointer (some ⟨g, 0, none⟩)) ∧ (g, fcs l c e) ∈ ls ∧ ErrB ls e F
theorem ErrB.mono {ls ls' : List (Nat × List Value)} (hs : ∀ p ∈ ls, p ∈ ls') : ∀ {F : List (Int × Int)} {v : Value}, ErrB ls v F → ErrB ls' v F
  | [], _, h => h
  | _ :: _, _, ⟨g, e, h1, h2, h3⟩ => ⟨g, e, h1, hs _ h2, h3.mono hs⟩
theorem ErrB.nil {ls : List (Nat × List Value)} {F : List (Int × Int)} (h : ErrB ls .nilIface F) : F = [] := by
  cases F with
  | nil => rfl
  | cons a F => obtain ⟨g, e, h1, _⟩ := h; cases h1
theorem ErrB.if {ls : List (Nat × List Value)} {F : List (Int × Int)} {v : Value} (h : ErrB ls v F) : IsIf v := by
  cases F with
  | nil => exact .inl h
  | cons a F => obtain ⟨g, e, h1, _⟩ := h; exact .inr ⟨_, _, h1⟩
theorem ErrB.isNil {ls : List (Nat × List Value)} {F : List (Int × Int)} {v : Value} (h : ErrB ls v F) : isNilI v = decide (F = []) := by
  cases F with
  | nil => obtain rfl : v = .nilIface := h; rfl
  | cons a F => obtain ⟨g, e, rfl, _⟩ := h; rfl
theorem flts_blk {w : World} {L R : List Asn} {ls : List (Nat × List Value)} {g : Nat} {cs : List Value} (hS : St W w L) (pk : Pick L (fltsA ls) R) (hm : (g, cs) ∈ ls) : Blk w g 76 cs := by
  obtain ⟨F, hx, _⟩ := hS.get pk
  exact hx.2 _ hm
theorem flts_cell {w : World} {L R : List Asn} {ls : List (Nat × List Value)} {g j : Nat} {cs : List Value} {v : Value} (hS : St W w L) (pk : Pick L (fltsA ls) R) (hm : (g, cs) ∈ ls) (hv : cs[j]? = some v) : w.cell? ⟨g, j, none⟩ = some v := by
  rw [(flts_blk hS pk hm).cell, hv]
theorem St.flts0 {w : World} {L : List Asn} (hS : St W w L) : St W w (fltsA [] :: L) :=
  hS.add (Fr.refl _ _) (F := []) ⟨rfl, fun _ h => by cases h⟩ (fun _ h => by cases h)
theorem flts_ne {w : World} {R : List Asn} {ls : List (Nat × List Value)} {g gx t : Nat} {cs cx : List Value} (hS : St W w (blkA gx t cx :: fltsA ls :: R)) (hm : (g, cs) ∈ ls) : g ≠ gx := by
  obtain ⟨F, hx, _⟩ := hS.unstar.get (.here _ _)
  obtain ⟨F1, F2, _, h1, h2, hd⟩ := hx
  rintro rfl
  exact hd g (by rw [h1.1]; exact List.mem_singleton.2 rfl) (by rw [h2.1]; exact List.mem_map.2 ⟨_, hm, rfl⟩)
section
variable {ρ : Env} {w : World}
theorem q_pf {x : Operand} {v : Value} {xT ty : TypeId} (hx : ev ρ x = .iface 35 v) : qv Tryd.prog (.typeAssert x xT 35 true) ty ρ w (.tuple #[v, .bool true]) := by
  refine q_of _ (fun _ _ _ _ => rfl) ?_
  rw [hx]
  simp [Instr.typeAssert, run_underlying Tryd.underlying35, go_sem]
end
theorem is_typeOf (v : Value) (w : World) : (callFunc 77 #[.iface 35 v]).run Tryd.prog w = .ok (.value (.iface 143 (.agg #[.pointer (some ⟨1, 35, none⟩)]))) w := by
  rw [@run_callFunc_extern Tryd.prog 77 _ ReflectliteType.typeOf Tryd.func77 (by kernel_rfl) (by kernel_rfl) (by kernel_rfl) (by kernel_rfl), Tryd.typeOf25]
  rfl
theorem is_method (v : Value) (w : World) : (Go.method (Tryd.prog.types.size + Made.depth) 143 v "Comparable").run Tryd.prog w = .ok (141, v) w := by kernel_rfl
theorem is_comparable (w : World) : ((ReflectliteType.method fun t => do Rtype.noPackHeld "Comparable" t; pure (.bool (← typeInfo t).comparable)) #[.agg #[.pointer (some ⟨1, 35, none⟩)]]).run Tryd.prog w = .ok (.bool true) w := by kernel_rfl
theorem is_comp (w : World) : (callFunc 141 #[.agg #[.pointer (some ⟨1, 35, none⟩)]]).run Tryd.prog w = .ok (.value (.bool true)) w := by
  have h := @run_callFunc_extern Tryd.prog 141 _ (ReflectliteType.method fun t => do Rtype.noPackHeld "Comparable" t; pure (.bool (← typeInfo t).comparable)) Tryd.func141 (by kernel_rfl) (by kernel_rfl) (by kernel_rfl) (by kernel_rfl) #[.agg #[.pointer (some ⟨1, 35, none⟩)]] w
  have h2 : ((ReflectliteType.method fun t => do Rtype.noPackHeld "Comparable" t; pure (.bool (← typeInfo t).comparable)) #[.agg #[.pointer (some ⟨1, 35, none⟩)]]).run Tryd.prog w = .ok (.bool true) w := is_comparable w
  rw [h, h2]
  rfl
theorem m_is (v : Value) (w : World) : (Go.method (Tryd.prog.types.size + Made.depth) 35 v "Is").run Tryd.prog w = .ok (134, v) w := by kernel_rfl
theorem m_unwrap (v : Value) (w : World) : (Go.method (Tryd.prog.types.size + Made.depth) 35 v "Unwrap").run Tryd.prog w = .ok (20, v) w := by kernel_rfl
theorem pf_info : ∃ i, Tryd.prog.info? 35 = some i ∧ i.comparable = true := Option.map_eq_some_iff.1 (show (Tryd.prog.info? 35).map (·.comparable) = some true by kernel_rfl)
theorem f_info : ∃ i, Tryd.prog.info? 76 = some i ∧ i.size = 3 := Option.map_eq_some_iff.1 (show (Tryd.prog.info? 76).map (·.size) = some 3 by kernel_rfl)
attribute [local irreducible] blkA rowA rdsA fltsA
set_option maxRecDepth 100000 in
theorem bnew_calls {w : World} {L : List Asn} (hS : St W w L) {l c : Int} (hc0 : c ≠ 0) : Calls Tryd.prog 11 #[.int .i64 l, .int .i64 c] w fun e w' => ∃ g, e = .returned (.iface 35 (.pointer (some ⟨g, 0, none⟩))) ∧ St W w' (blkA g 76 (fcs l c .nilIface) :: L) := by
  refine calls_of_wpE (args := [_, _]) Tryd.func11 rfl rfl rfl ?_
  refine c_seq ?_
  refine c_region ?_
  refine t_q (q_assign) ?_
  refine t_nil ?_
  refine c_seq ?_
  refine c_seq ?_
  refine c_region ?_
  refine t_q (q_mv (.int _ _) rfl) ?_
  refine t_q (q_eql rfl rfl) ?_
  refine t_nil ?_
  refine c_cond rfl ?_ ?_
  · intro hc2
    have hc2d := of_decide_eq_true hc2
    exfalso; omega
  · intro hc2
    have hc2d := of_decide_eq_false hc2
    refine c_skip ?_
    refine c_seq ?_
    refine c_region ?_
    refine t_q (q_mv (.int _ _) rfl) ?_
    refine t_q (q_mv (.int _ _) rfl) ?_
    refine t_q (q_build (qs := [(0, 1), (1, 1), (2, 1)]) [(.int _ _), (.int _ _), .nilIface] Tryd.zeroValue76 Tryd.runUnderlying76 ⟨rfl, Tryd.sizeOf3, rfl, Tryd.sizeOf26, rfl, Tryd.sizeOf24, trivial⟩ rfl rfl) ?_
    refine t_box (v := (.agg _)) rfl rfl hS (fun g10 w hS => ?_)
    replace hS := hS.recast (show _ = blkA g10 76 (fcs l c .nilIface) from rfl)
    refine t_q (q_iface Tryd.runUnderlying35 (fun _ h => by cases h) rfl) ?_
    refine t_q (q_as (.iface _ _) rfl) ?_
    refine t_nil ?_
    refine c_ret ?_
    refine r_one rfl rfl ?_
    exact ⟨g10, rfl, hS⟩
set_option maxRecDepth 100000 in
theorem bnew_0 {w : World} {L : List Asn} (hS : St W w L) {l : Int} : Calls Tryd.prog 11 #[.int .i64 l, .int .i64 0] w fun e w' => e = .returned .nilIface ∧ St W w' L := by
  refine calls_of_wpE (args := [_, _]) Tryd.func11 rfl rfl rfl ?_
  refine c_seq ?_
  refine c_region ?_
  refine t_q (q_assign) ?_
  refine t_nil ?_
  refine c_seq ?_
  refine c_seq ?_
  refine c_region ?_
  refine t_q (q_mv (.int _ _) rfl) ?_
  refine t_q (q_eql rfl rfl) ?_
  refine t_nil ?_
  refine c_cond rfl ?_ ?_
  · intro hc2
    have hc2d := of_decide_eq_true hc2
    refine c_seq ?_
    refine c_region ?_
    refine t_q (q_assign) ?_
    refine t_nil ?_
    refine c_ret ?_
    refine r_one rfl rfl ?_
    exact ⟨rfl, hS⟩
  · intro hc2
    have hc2d := of_decide_eq_false hc2
    exfalso; omega
set_option maxRecDepth 100000 in
theorem bwrap_nil {w : World} {L : List Asn} (hS : St W w L) {l : Int} : Calls Tryd.prog 13 #[.int .i64 l, .nilIface] w fun e w' => e = .returned .nilIface ∧ St W w' L := by
  refine calls_of_wpE (args := [_, _]) Tryd.func13 rfl rfl rfl ?_
  refine c_seq ?_
  refine c_region ?_
  refine t_q (q_assign) ?_
  refine t_nil ?_
  refine c_seq ?_
  refine c_seq ?_
  refine c_region ?_
  refine t_q (q_mv .nilIface rfl) ?_
  refine t_q (q_eql_iface_nil Tryd.runUnderlying24 rfl (.inl rfl)) ?_
  refine t_nil ?_
  refine c_cond_t rfl rfl ?_
  refine c_seq ?_
  refine c_region ?_
  refine t_q (q_assign) ?_
  refine t_nil ?_
  refine c_ret ?_
  refine r_one rfl rfl ?_
  exact ⟨rfl, hS⟩
set_option maxHeartbeats 1000000 in
set_option maxRecDepth 100000 in
theorem fis_calls {w : World} {R : List Asn} {ls : List (Nat × List Value)} {g gx : Nat} {l c cx : Int} {u : Value} (hS : St W w (blkA gx 76 (fcs 0 cx .nilIface) :: fltsA ls :: R)) (hm : (g, fcs l c u) ∈ ls) (hu : IsIf u) : Calls Tryd.prog 134 #[.pointer (some ⟨g, 0, none⟩), .iface 35 (.pointer (some ⟨gx, 0, none⟩))] w fun e w' => e = .returned (.bool (isNilI u && decide (cx = c))) ∧ St W w' (blkA gx 76 (fcs 0 cx .nilIface) :: fltsA ls :: R) := by
  refine calls_of_wpE (args := [_, _]) Tryd.func134 rfl rfl rfl ?_
  refine c_seq ?_
  refine c_region ?_
  refine t_q (q_assign) ?_
  refine t_nil ?_
  refine c_seq ?_
  refine c_region ?_
  refine t_q (q_mv (.iface _ _) rfl) ?_
  refine t_q (q_pf rfl) ?_
  refine t_q (q_mv (.tuple _) rfl) ?_
  refine t_q (q_extract rfl rfl) ?_
  refine t_q (q_extract rfl rfl) ?_
  refine t_q (q_as (.pointer _) rfl) ?_
  refine t_q (q_as (.bool _) rfl) ?_
  refine t_nil ?_
  refine c_seq ?_
  refine c_draw ?_
  refine d_keep2 (blkA gx 76 (fcs 0 cx .nilIface)) (fltsA ls) 35 [0, 1, 2, 3, 4, 5, 6, 7, 8, 9, 10, 11, 12, 13, 14, 15, 16, 17, 18, 19, 20, 21, 22, 23, 24, 25, 26, 27, 28, 29, 30, 31, 32, 33, 34] [0, 1, 2, 3, 4, 5, 6, 7, 8, 9, 10, 11, 12, 13, 14, 15, 16, 17, 18, 19, 20, 21, 22, 23, 24, 25, 26, 27, 28, 29, 30, 31, 32, 33, 34] hS rfl (by kernel_rfl) (by kernel_rfl) (by kernel_rfl) (by kernel_rfl) (fun hap hsel w hS => ?_)
  refine p_q hap hsel 0 rfl rfl ⟨_, ((hS.pick (A := fltsA ls) (by repeat first | exact .here _ _ | assumption | apply Pick.there)).pick (A := blkA gx 76 (fcs 0 cx .nilIface)) (by repeat first | exact .here _ _ | assumption | apply Pick.there))⟩ (fun w hI => q_mv (.bool _) rfl) ?_
  refine p_q hap hsel 1 rfl rfl ⟨_, ((hS.pick (A := fltsA ls) (by repeat first | exact .here _ _ | assumption | apply Pick.there)).pick (A := blkA gx 76 (fcs 0 cx .nilIface)) (by repeat first | exact .here _ _ | assumption | apply Pick.there))⟩ (fun w hI => q_mv (.bool _) rfl) ?_
  refine p_yes hap hsel 2 rfl rfl ⟨_, ((hS.pick (A := fltsA ls) (by repeat first | exact .here _ _ | assumption | apply Pick.there)).pick (A := blkA gx 76 (fcs 0 cx .nilIface)) (by repeat first | exact .here _ _ | assumption | apply Pick.there))⟩ rfl rfl rfl (fun w hI => q_mv (.pointer _) rfl) ?_
  refine p_yes hap hsel 3 rfl rfl ⟨_, ((hS.pick (A := fltsA ls) (by repeat first | exact .here _ _ | assumption | apply Pick.there)).pick (A := blkA gx 76 (fcs 0 cx .nilIface)) (by repeat first | exact .here _ _ | assumption | apply Pick.there))⟩ rfl rfl rfl (fun w hI => q_neq_ptr_nil Tryd.runUnderlying35 rfl rfl) ?_
  refine p_q hap hsel 4 rfl rfl ⟨_, ((hS.pick (A := fltsA ls) (by repeat first | exact .here _ _ | assumption | apply Pick.there)).pick (A := blkA gx 76 (fcs 0 cx .nilIface)) (by repeat first | exact .here _ _ | assumption | apply Pick.there))⟩ (fun w hI => q_pick_t rfl rfl) ?_
  refine p_q hap hsel 5 rfl rfl ⟨_, ((hS.pick (A := fltsA ls) (by repeat first | exact .here _ _ | assumption | apply Pick.there)).pick (A := blkA gx 76 (fcs 0 cx .nilIface)) (by repeat first | exact .here _ _ | assumption | apply Pick.there))⟩ (fun w hI => q_mv (.bool _) rfl) ?_
  refine p_yes hap hsel 6 rfl rfl ⟨_, ((hS.pick (A := fltsA ls) (by repeat first | exact .here _ _ | assumption | apply Pick.there)).pick (A := blkA gx 76 (fcs 0 cx .nilIface)) (by repeat first | exact .here _ _ | assumption | apply Pick.there))⟩ rfl rfl rfl (fun w hI => q_mv (.pointer _) rfl) ?_
  refine p_yes hap hsel 7 rfl rfl ⟨_, ((hS.pick (A := fltsA ls) (by repeat first | exact .here _ _ | assumption | apply Pick.there)).pick (A := blkA gx 76 (fcs 0 cx .nilIface)) (by repeat first | exact .here _ _ | assumption | apply Pick.there))⟩ rfl rfl rfl (fun w hI => q_neq_ptr_nil Tryd.runUnderlying35 rfl rfl) ?_
  refine p_q hap hsel 8 rfl rfl ⟨_, ((hS.pick (A := fltsA ls) (by repeat first | exact .here _ _ | assumption | apply Pick.there)).pick (A := blkA gx 76 (fcs 0 cx .nilIface)) (by repeat first | exact .here _ _ | assumption | apply Pick.there))⟩ (fun w hI => q_pick_t rfl rfl) ?_
  refine p_q hap hsel 9 rfl rfl ⟨_, ((hS.pick (A := fltsA ls) (by repeat first | exact .here _ _ | assumption | apply Pick.there)).pick (A := blkA gx 76 (fcs 0 cx .nilIface)) (by repeat first | exact .here _ _ | assumption | apply Pick.there))⟩ (fun w hI => q_mv (.bool _) rfl) ?_
  refine p_yes hap hsel 10 rfl rfl ⟨_, ((hS.pick (A := fltsA ls) (by repeat first | exact .here _ _ | assumption | apply Pick.there)).pick (A := blkA gx 76 (fcs 0 cx .nilIface)) (by repeat first | exact .here _ _ | assumption | apply Pick.there))⟩ rfl rfl rfl (fun w hI => q_mv (.pointer _) rfl) ?_
  refine p_yes hap hsel 11 rfl rfl ⟨_, ((hS.pick (A := fltsA ls) (by repeat first | exact .here _ _ | assumption | apply Pick.there)).pick (A := blkA gx 76 (fcs 0 cx .nilIface)) (by repeat first | exact .here _ _ | assumption | apply Pick.there))⟩ rfl rfl rfl (fun w hI => q_nilCheck rfl) ?_
  refine p_yes hap hsel 12 rfl rfl ⟨_, ((hS.pick (A := fltsA ls) (by repeat first | exact .here _ _ | assumption | apply Pick.there)).pick (A := blkA gx 76 (fcs 0 cx .nilIface)) (by repeat first | exact .here _ _ | assumption | apply Pick.there))⟩ rfl rfl rfl (fun w hI => q_fieldAddr 2 Tryd.runUnderlying76 rfl Tryd.sizeOf24 (by decide) rfl rfl) ?_
  refine p_yes hap hsel 13 rfl rfl ⟨_, ((hS.pick (A := fltsA ls) (by repeat first | exact .here _ _ | assumption | apply Pick.there)).pick (A := blkA gx 76 (fcs 0 cx .nilIface)) (by repeat first | exact .here _ _ | assumption | apply Pick.there))⟩ rfl rfl rfl (fun w hI => q_load1 Tryd.isAgg24 rfl (hI.choose_spec.cell (by repeat first | exact .here _ _ | assumption | apply Pick.there) rfl)) ?_
  refine p_yes hap hsel 14 rfl rfl ⟨_, ((hS.pick (A := fltsA ls) (by repeat first | exact .here _ _ | assumption | apply Pick.there)).pick (A := blkA gx 76 (fcs 0 cx .nilIface)) (by repeat first | exact .here _ _ | assumption | apply Pick.there))⟩ rfl rfl rfl (fun w hI => (q_cast (v' := .bool true) (q_eql_iface_nil Tryd.runUnderlying24 rfl (.inl rfl)) (by rfl))) ?_
  refine p_q hap hsel 15 rfl rfl ⟨_, ((hS.pick (A := fltsA ls) (by repeat first | exact .here _ _ | assumption | apply Pick.there)).pick (A := blkA gx 76 (fcs 0 cx .nilIface)) (by repeat first | exact .here _ _ | assumption | apply Pick.there))⟩ (fun w hI => q_pick_t rfl rfl) ?_
  refine p_q hap hsel 16 rfl rfl ⟨_, ((hS.pick (A := fltsA ls) (by repeat first | exact .here _ _ | assumption | apply Pick.there)).pick (A := blkA gx 76 (fcs 0 cx .nilIface)) (by repeat first | exact .here _ _ | assumption | apply Pick.there))⟩ (fun w hI => q_mv (.bool _) rfl) ?_
  refine p_yes hap hsel 17 rfl rfl ⟨_, ((hS.pick (A := fltsA ls) (by repeat first | exact .here _ _ | assumption | apply Pick.there)).pick (A := blkA gx 76 (fcs 0 cx .nilIface)) (by repeat first | exact .here _ _ | assumption | apply Pick.there))⟩ rfl rfl rfl (fun w hI => q_mv (.pointer _) rfl) ?_
  refine p_yes hap hsel 18 rfl rfl ⟨_, ((hS.pick (A := fltsA ls) (by repeat first | exact .here _ _ | assumption | apply Pick.there)).pick (A := blkA gx 76 (fcs 0 cx .nilIface)) (by repeat first | exact .here _ _ | assumption | apply Pick.there))⟩ rfl rfl rfl (fun w hI => q_nilCheck rfl) ?_
  refine p_yes hap hsel 19 rfl rfl ⟨_, ((hS.pick (A := fltsA ls) (by repeat first | exact .here _ _ | assumption | apply Pick.there)).pick (A := blkA gx 76 (fcs 0 cx .nilIface)) (by repeat first | exact .here _ _ | assumption | apply Pick.there))⟩ rfl rfl rfl (fun w hI => q_fieldAddr 2 Tryd.runUnderlying76 rfl Tryd.sizeOf24 (by decide) rfl rfl) ?_
  refine p_yes hap hsel 20 rfl rfl ⟨_, ((hS.pick (A := fltsA ls) (by repeat first | exact .here _ _ | assumption | apply Pick.there)).pick (A := blkA gx 76 (fcs 0 cx .nilIface)) (by repeat first | exact .here _ _ | assumption | apply Pick.there))⟩ rfl rfl rfl (fun w hI => q_load1 Tryd.isAgg24 rfl (flts_cell hI.choose_spec (by repeat first | exact .here _ _ | assumption | apply Pick.there) hm rfl)) ?_
  refine p_yes hap hsel 21 rfl rfl ⟨_, ((hS.pick (A := fltsA ls) (by repeat first | exact .here _ _ | assumption | apply Pick.there)).pick (A := blkA gx 76 (fcs 0 cx .nilIface)) (by repeat first | exact .here _ _ | assumption | apply Pick.there))⟩ rfl rfl rfl (fun w hI => q_eql_iface_nil Tryd.runUnderlying24 rfl (hu)) ?_
  refine p_q hap hsel 22 rfl rfl ⟨_, ((hS.pick (A := fltsA ls) (by repeat first | exact .here _ _ | assumption | apply Pick.there)).pick (A := blkA gx 76 (fcs 0 cx .nilIface)) (by repeat first | exact .here _ _ | assumption | apply Pick.there))⟩ (fun w hI => q_pick_t rfl rfl) ?_
  refine p_q hap hsel 23 rfl rfl ⟨_, ((hS.pick (A := fltsA ls) (by repeat first | exact .here _ _ | assumption | apply Pick.there)).pick (A := blkA gx 76 (fcs 0 cx .nilIface)) (by repeat first | exact .here _ _ | assumption | apply Pick.there))⟩ (fun w hI => q_mv (.bool _) rfl) ?_
  refine p_case 35 rfl ?_ ?_
  · intro hg4
    have hnu : isNilI u = true := hg4
    refine p_yes hap hsel 24 rfl rfl ⟨_, ((hS.pick (A := fltsA ls) (by repeat first | exact .here _ _ | assumption | apply Pick.there)).pick (A := blkA gx 76 (fcs 0 cx .nilIface)) (by repeat first | exact .here _ _ | assumption | apply Pick.there))⟩ rfl rfl hg4 (fun w hI => q_mv (.pointer _) rfl) ?_
    refine p_yes hap hsel 25 rfl rfl ⟨_, ((hS.pick (A := fltsA ls) (by repeat first | exact .here _ _ | assumption | apply Pick.there)).pick (A := blkA gx 76 (fcs 0 cx .nilIface)) (by repeat first | exact .here _ _ | assumption | apply Pick.there))⟩ rfl rfl hg4 (fun w hI => q_nilCheck rfl) ?_
    refine p_yes hap hsel 26 rfl rfl ⟨_, ((hS.pick (A := fltsA ls) (by repeat first | exact .here _ _ | assumption | apply Pick.there)).pick (A := blkA gx 76 (fcs 0 cx .nilIface)) (by repeat first | exact .here _ _ | assumption | apply Pick.there))⟩ rfl rfl hg4 (fun w hI => q_fieldAddr 1 Tryd.runUnderlying76 rfl Tryd.sizeOf26 (by decide) rfl rfl) ?_
    refine p_yes hap hsel 27 rfl rfl ⟨_, ((hS.pick (A := fltsA ls) (by repeat first | exact .here _ _ | assumption | apply Pick.there)).pick (A := blkA gx 76 (fcs 0 cx .nilIface)) (by repeat first | exact .here _ _ | assumption | apply Pick.there))⟩ rfl rfl hg4 (fun w hI => q_load1 Tryd.isAgg26 rfl (hI.choose_spec.cell (by repeat first | exact .here _ _ | assumption | apply Pick.there) rfl)) ?_
    refine p_yes hap hsel 28 rfl rfl ⟨_, ((hS.pick (A := fltsA ls) (by repeat first | exact .here _ _ | assumption | apply Pick.there)).pick (A := blkA gx 76 (fcs 0 cx .nilIface)) (by repeat first | exact .here _ _ | assumption | apply Pick.there))⟩ rfl rfl hg4 (fun w hI => q_mv (.pointer _) rfl) ?_
    refine p_yes hap hsel 29 rfl rfl ⟨_, ((hS.pick (A := fltsA ls) (by repeat first | exact .here _ _ | assumption | apply Pick.there)).pick (A := blkA gx 76 (fcs 0 cx .nilIface)) (by repeat first | exact .here _ _ | assumption | apply Pick.there))⟩ rfl rfl hg4 (fun w hI => q_nilCheck rfl) ?_
    refine p_yes hap hsel 30 rfl rfl ⟨_, ((hS.pick (A := fltsA ls) (by repeat first | exact .here _ _ | assumption | apply Pick.there)).pick (A := blkA gx 76 (fcs 0 cx .nilIface)) (by repeat first | exact .here _ _ | assumption | apply Pick.there))⟩ rfl rfl hg4 (fun w hI => q_fieldAddr 1 Tryd.runUnderlying76 rfl Tryd.sizeOf26 (by decide) rfl rfl) ?_
    refine p_yes hap hsel 31 rfl rfl ⟨_, ((hS.pick (A := fltsA ls) (by repeat first | exact .here _ _ | assumption | apply Pick.there)).pick (A := blkA gx 76 (fcs 0 cx .nilIface)) (by repeat first | exact .here _ _ | assumption | apply Pick.there))⟩ rfl rfl hg4 (fun w hI => q_load1 Tryd.isAgg26 rfl (flts_cell hI.choose_spec (by repeat first | exact .here _ _ | assumption | apply Pick.there) hm rfl)) ?_
    refine p_yes hap hsel 32 rfl rfl ⟨_, ((hS.pick (A := fltsA ls) (by repeat first | exact .here _ _ | assumption | apply Pick.there)).pick (A := blkA gx 76 (fcs 0 cx .nilIface)) (by repeat first | exact .here _ _ | assumption | apply Pick.there))⟩ rfl rfl hg4 (fun w hI => q_eql rfl rfl) ?_
    refine p_q hap hsel 33 rfl rfl ⟨_, ((hS.pick (A := fltsA ls) (by repeat first | exact .here _ _ | assumption | apply Pick.there)).pick (A := blkA gx 76 (fcs 0 cx .nilIface)) (by repeat first | exact .here _ _ | assumption | apply Pick.there))⟩ (fun w hI => q_pick_t rfl hg4) ?_
    refine p_q hap hsel 34 rfl rfl ⟨_, ((hS.pick (A := fltsA ls) (by repeat first | exact .here _ _ | assumption | apply Pick.there)).pick (A := blkA gx 76 (fcs 0 cx .nilIface)) (by repeat first | exact .here _ _ | assumption | apply Pick.there))⟩ (fun w hI => q_as (.bool _) rfl) ?_
    refine p_end (by kernel_rfl) ?_
    refine c_ret ?_
    refine r_one rfl rfl ?_
    rw [hnu]
    exact ⟨rfl, ((hS.pick (A := fltsA ls) (by repeat first | exact .here _ _ | assumption | apply Pick.there)).pick (A := blkA gx 76 (fcs 0 cx .nilIface)) (by repeat first | exact .here _ _ | assumption | apply Pick.there))⟩
  · intro hg4
    have hnu : isNilI u = false := hg4
    refine p_no hap hsel 24 rfl rfl ⟨_, ((hS.pick (A := fltsA ls) (by repeat first | exact .here _ _ | assumption | apply Pick.there)).pick (A := blkA gx 76 (fcs 0 cx .nilIface)) (by repeat first | exact .here _ _ | assumption | apply Pick.there))⟩ rfl rfl (by rw [hg4]; decide) ?_
    refine p_no hap hsel 25 rfl rfl ⟨_, ((hS.pick (A := fltsA ls) (by repeat first | exact .here _ _ | assumption | apply Pick.there)).pick (A := blkA gx 76 (fcs 0 cx .nilIface)) (by repeat first | exact .here _ _ | assumption | apply Pick.there))⟩ rfl rfl (by rw [hg4]; decide) ?_
    refine p_no hap hsel 26 rfl rfl ⟨_, ((hS.pick (A := fltsA ls) (by repeat first | exact .here _ _ | assumption | apply Pick.there)).pick (A := blkA gx 76 (fcs 0 cx .nilIface)) (by repeat first | exact .here _ _ | assumption | apply Pick.there))⟩ rfl rfl (by rw [hg4]; decide) ?_
    refine p_no hap hsel 27 rfl rfl ⟨_, ((hS.pick (A := fltsA ls) (by repeat first | exact .here _ _ | assumption | apply Pick.there)).pick (A := blkA gx 76 (fcs 0 cx .nilIface)) (by repeat first | exact .here _ _ | assumption | apply Pick.there))⟩ rfl rfl (by rw [hg4]; decide) ?_
    refine p_no hap hsel 28 rfl rfl ⟨_, ((hS.pick (A := fltsA ls) (by repeat first | exact .here _ _ | assumption | apply Pick.there)).pick (A := blkA gx 76 (fcs 0 cx .nilIface)) (by repeat first | exact .here _ _ | assumption | apply Pick.there))⟩ rfl rfl (by rw [hg4]; decide) ?_
    refine p_no hap hsel 29 rfl rfl ⟨_, ((hS.pick (A := fltsA ls) (by repeat first | exact .here _ _ | assumption | apply Pick.there)).pick (A := blkA gx 76 (fcs 0 cx .nilIface)) (by repeat first | exact .here _ _ | assumption | apply Pick.there))⟩ rfl rfl (by rw [hg4]; decide) ?_
    refine p_no hap hsel 30 rfl rfl ⟨_, ((hS.pick (A := fltsA ls) (by repeat first | exact .here _ _ | assumption | apply Pick.there)).pick (A := blkA gx 76 (fcs 0 cx .nilIface)) (by repeat first | exact .here _ _ | assumption | apply Pick.there))⟩ rfl rfl (by rw [hg4]; decide) ?_
    refine p_no hap hsel 31 rfl rfl ⟨_, ((hS.pick (A := fltsA ls) (by repeat first | exact .here _ _ | assumption | apply Pick.there)).pick (A := blkA gx 76 (fcs 0 cx .nilIface)) (by repeat first | exact .here _ _ | assumption | apply Pick.there))⟩ rfl rfl (by rw [hg4]; decide) ?_
    refine p_no hap hsel 32 rfl rfl ⟨_, ((hS.pick (A := fltsA ls) (by repeat first | exact .here _ _ | assumption | apply Pick.there)).pick (A := blkA gx 76 (fcs 0 cx .nilIface)) (by repeat first | exact .here _ _ | assumption | apply Pick.there))⟩ rfl rfl (by rw [hg4]; decide) ?_
    refine p_q hap hsel 33 rfl rfl ⟨_, ((hS.pick (A := fltsA ls) (by repeat first | exact .here _ _ | assumption | apply Pick.there)).pick (A := blkA gx 76 (fcs 0 cx .nilIface)) (by repeat first | exact .here _ _ | assumption | apply Pick.there))⟩ (fun w hI => q_pick_f rfl hg4) ?_
    refine p_q hap hsel 34 rfl rfl ⟨_, ((hS.pick (A := fltsA ls) (by repeat first | exact .here _ _ | assumption | apply Pick.there)).pick (A := blkA gx 76 (fcs 0 cx .nilIface)) (by repeat first | exact .here _ _ | assumption | apply Pick.there))⟩ (fun w hI => q_as (.bool _) rfl) ?_
    refine p_end (by kernel_rfl) ?_
    refine c_ret ?_
    refine r_one rfl rfl ?_
    rw [hnu]
    exact ⟨rfl, ((hS.pick (A := fltsA ls) (by repeat first | exact .here _ _ | assumption | apply Pick.there)).pick (A := blkA gx 76 (fcs 0 cx .nilIface)) (by repeat first | exact .here _ _ | assumption | apply Pick.there))⟩
set_option maxRecDepth 100000 in
theorem funwrap_calls {w : World} {R : List Asn} {ls : List (Nat × List Value)} {g gx : Nat} {l c cx : Int} {u : Value} (hS : St W w (blkA gx 76 (fcs 0 cx .nilIface) :: fltsA ls :: R)) (hm : (g, fcs l c u) ∈ ls) (hu : IsIf u) : Calls Tryd.prog 20 #[.pointer (some ⟨g, 0, none⟩)] w fun e w' => e = .returned u ∧ St W w' (blkA gx 76 (fcs 0 cx .nilIface) :: fltsA ls :: R) := by
  refine calls_of_wpE (args := [_]) Tryd.func20 rfl rfl rfl ?_
  refine c_seq ?_
  refine c_region ?_
  refine t_q (q_assign) ?_
  refine t_nil ?_
  refine c_seq ?_
  refine c_seq ?_
  refine c_region ?_
  refine t_q (q_mv (.pointer _) rfl) ?_
  refine t_q (q_eql_ptr_nil Tryd.runUnderlying35 rfl rfl) ?_
  refine t_nil ?_
  refine c_cond_f rfl rfl ?_
  refine c_skip ?_
  refine c_seq ?_
  refine c_region ?_
  refine t_q (q_mv (.pointer _) rfl) ?_
  refine t_q (q_nilCheck rfl) ?_
  refine t_q (q_fieldAddr 2 Tryd.runUnderlying76 rfl Tryd.sizeOf24 (by decide) rfl rfl) ?_
  refine t_q (q_load1 Tryd.isAgg24 rfl (flts_cell hS (by repeat first | exact .here _ _ | assumption | apply Pick.there) hm rfl)) ?_
  refine t_q (q_as u rfl) ?_
  refine t_nil ?_
  refine c_ret ?_
  refine r_one rfl rfl ?_
  exact ⟨rfl, hS⟩
theorem codeF_one {l c : Int} : codeF [(l, c)] = c := rfl
theorem codeF_cons {l c : Int} {a : Int × Int} {F : List (Int × Int)} : codeF ((l, c) :: a :: F) = codeF (a :: F) := by
  unfold codeF
  rw [List.length_cons, List.length_cons, show F.length + 1 + 1 - 1 = (F.length + 1 - 1) + 1 by omega, List.getD_cons_succ]
set_option maxHeartbeats 2000000 in
set_option maxRecDepth 100000 in
theorem is_calls {w : World} {R : List Asn} {ls : List (Nat × List Value)} {gx : Nat} {cx : Int} {F : List (Int × Int)} {v : Value} (hS : St W w (blkA gx 76 (fcs 0 cx .nilIface) :: fltsA ls :: R)) (hv : ErrB ls v F) (hF : F ≠ []) : Calls Tryd.prog 78 #[v, .iface 35 (.pointer (some ⟨gx, 0, none⟩)), .bool true] w fun e w' => e = .returned (.bool (decide (codeF F = cx))) ∧ St W w' (blkA gx 76 (fcs 0 cx .nilIface) :: fltsA ls :: R) := by
  obtain ⟨fi, hpi, hpc⟩ := pf_info
  obtain ⟨fj, hfi, hfs⟩ := f_info
  refine calls_of_wpE (args := [_, _, _]) Tryd.func78 rfl rfl rfl ?_
  refine c_seq ?_
  refine c_region ?_
  refine t_q (q_assign) ?_
  refine t_nil ?_
  refine c_block ?_
  refine c_loop [0, 6, 7, 8, 9, 10, 12, 13, 14, 15, 16, 17, 18, 19, 20, 21, 22, 23, 24, 25, 26, 27, 28, 29, 30, 31, 32, 33, 34, 35, 36, 37, 38, 39, 40, 41, 42, 43, 44, 45, 46, 47, 48, 49, 50, 51, 52, 53] (fun k σ w => ∃ (v : Value) (F' : List (Int × Int)), σ 0 = v ∧ F' ≠ [] ∧ codeF F' = codeF F ∧ ErrB ls v F' ∧ F'.length ≤ k ∧ St W w (blkA gx 76 (fcs 0 cx .nilIface) :: fltsA ls :: R)) (F.length) rfl (⟨v, F, rfl, hF, rfl, hv, Nat.le_refl _, hS⟩) ?_
  skip
  rintro k σ w ⟨v, F', h0, hF', hcF, hv, hk, hS⟩
  refine c_know 0 h0 ?_
  clear h0
  obtain ⟨⟨l, c⟩, F2, rfl⟩ : ∃ a F2, F' = a :: F2 := by
    cases F' with
    | nil => exact absurd rfl hF'
    | cons a F2 => exact ⟨a, F2, rfl⟩
  obtain ⟨g, u, rfl, hm, hu⟩ := hv
  have hnu := hu.isNil
  refine c_block ?_
  refine c_seq ?_
  refine c_seq ?_
  refine c_region ?_
  refine t_q (q_mv (.bool _) rfl) ?_
  refine t_q (q_mv (.bool _) rfl) ?_
  refine t_yes rfl rfl rfl ?_
  refine t_q (q_mv (.iface _ _) rfl) ?_
  refine t_yes rfl rfl rfl ?_
  refine t_q (q_mv (.iface _ _) rfl) ?_
  refine t_yes rfl rfl rfl ?_
  refine t_q (q_cast (v' := .bool false) (q_eql_if_ptr_other Tryd.underlying24 Tryd.underlying35 hpi hpc hfi (by rw [hfs]; decide) (fun h => flts_ne hS hm (congrArg Addr.block h)) (flts_blk hS (by repeat first | exact .here _ _ | assumption | apply Pick.there) hm) (hS.blk (.here _ _)) rfl rfl) (by rfl)) ?_
  refine t_q (q_pick_t rfl rfl) ?_
  refine t_nil ?_
  refine c_cond_f rfl rfl ?_
  refine c_skip ?_
  refine c_seq ?_
  refine c_seq ?_
  refine c_region ?_
  refine t_q (q_mv (.iface _ _) rfl) ?_
  refine t_q (q_has Tryd.underlying145 (by kernel_rfl) rfl) ?_
  refine t_q (q_mv (.tuple _) rfl) ?_
  refine t_q (q_extract rfl rfl) ?_
  refine t_q (q_extract rfl rfl) ?_
  refine t_q (q_as (.iface _ _) rfl) ?_
  refine t_q (q_as (.bool _) rfl) ?_
  refine t_nil ?_
  refine c_seq ?_
  refine c_region ?_
  refine t_q (q_mv (.bool _) rfl) ?_
  refine t_q (q_mv (.bool _) rfl) ?_
  refine t_yes rfl rfl rfl ?_
  refine t_q (q_mv (.iface _ _) rfl) ?_
  refine t_yes rfl rfl rfl ?_
  refine t_q (q_mv (.iface _ _) rfl) ?_
  refine t_yes rfl rfl rfl ?_
  refine t_invoke (f := 134) (v' := .pointer (some ⟨g, 0, none⟩)) rfl (m_is _ _) Tryd.call134 (fis_calls hS hm hu.if) rfl ?_
  rintro e w ⟨rfl, hS⟩
  refine ⟨_, rfl, ?_⟩
  refine t_q (q_pick_t rfl rfl) ?_
  refine t_nil ?_
  refine c_cond rfl ?_ ?_
  · intro hc5
    have hy := hc5
    rw [hnu, Bool.and_eq_true] at hy
    obtain rfl := of_decide_eq_true hy.1
    have hcc := of_decide_eq_true hy.2
    have hR : codeF F = cx := hcF.symm.trans (codeF_one.trans hcc.symm)
    refine c_seq ?_
    refine c_region ?_
    refine t_q (q_assign) ?_
    refine t_nil ?_
    refine c_ret ?_
    refine r_one rfl rfl ?_
    first
      | exact ⟨congrArg (fun b => Ending.returned (.bool b)) (decide_eq_true hR).symm, hS⟩
      | exact ⟨congrArg (fun b => Ending.returned (.bool b)) (decide_eq_false hR).symm, hS⟩
  · intro hc5
    have hn := hc5
    refine c_skip ?_
    refine c_seq ?_
    refine c_region ?_
    refine t_q (q_mv (.iface _ _) rfl) ?_
    refine t_nil ?_
    refine c_block ?_
    refine c_seq ?_
    refine c_region ?_
    refine t_q (q_has Tryd.underlying148 (by kernel_rfl) rfl) ?_
    refine t_q (q_extract rfl rfl) ?_
    refine t_q (q_extract rfl rfl) ?_
    refine t_nil ?_
    refine c_cond_t rfl rfl ?_
    refine c_seq ?_
    refine c_region ?_
    refine t_q (q_as (.iface _ _) rfl) ?_
    refine t_nil ?_
    refine c_seq ?_
    refine c_region ?_
    refine t_q (q_mv (.iface _ _) rfl) ?_
    refine t_invoke (f := 20) (v' := .pointer (some ⟨g, 0, none⟩)) rfl (m_unwrap _ _) Tryd.call20 (funwrap_calls hS hm hu.if) rfl ?_
    rintro e w ⟨rfl, hS⟩
    refine ⟨_, rfl, ?_⟩
    refine t_q (q_as u rfl) ?_
    refine t_nil ?_
    refine c_seq ?_
    refine c_region ?_
    refine t_q (q_mv u rfl) ?_
    refine t_q (q_eql_iface_nil Tryd.runUnderlying24 rfl (hu.if)) ?_
    refine t_nil ?_
    refine c_cond rfl ?_ ?_
    · intro hc10
      have hnn : isNilI u = true := hc10
      rw [hnn, Bool.true_and] at hn
      rw [hnn] at hnu
      obtain rfl := of_decide_eq_true hnu.symm
      have hR : codeF F ≠ cx := fun h => of_decide_eq_false hn (h.symm.trans (hcF.symm.trans codeF_one))
      refine c_seq ?_
      refine c_region ?_
      refine t_q (q_assign) ?_
      refine t_nil ?_
      refine c_ret ?_
      refine r_one rfl rfl ?_
      first
        | exact ⟨congrArg (fun b => Ending.returned (.bool b)) (decide_eq_true hR).symm, hS⟩
        | exact ⟨congrArg (fun b => Ending.returned (.bool b)) (decide_eq_false hR).symm, hS⟩
    · intro hc10
      have hnn : isNilI u = false := hc10
      rw [hnn] at hnu
      have hF2 : F2 ≠ [] := of_decide_eq_false hnu.symm
      refine c_skip ?_
      obtain ⟨a, F3, rfl⟩ : ∃ a F3, F2 = a :: F3 := by
        cases F2 with
        | nil => exact absurd rfl hF2
        | cons a F3 => exact ⟨a, F3, rfl⟩
      exact ⟨k - 1, by rw [List.length_cons] at hk; omega, u, a :: F3, rfl, by simp, (codeF_cons (l := l) (c := c)).symm.trans hcF, hu, by rw [List.length_cons] at hk; omega, hS⟩
end Go.Proofs.YtcgagmojgjbfpaaDoor
