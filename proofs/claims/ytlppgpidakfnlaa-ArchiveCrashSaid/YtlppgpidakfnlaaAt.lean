/- Archives: what is told. -/
import Derived.Test.YtlppgpidakfnlaaAh
import Derived.Test.YtlppgpidakfnlaaPd
namespace Go.Proofs.Ytlppgpidakfnlaa
open Go Go.RowKit Go.Lib
variable {W : World}
def nwS (a : Ar) : Sn := if a.cn < 0 then sn0 else a.s
attribute [local irreducible] blkA rowA rdrA rdO dskA
set_option maxRecDepth 100000 in
theorem newest_nil : Calls Try.prog 36 #[.pointer none] W fun e w' => e = .returned (.tuple #[.agg #[.int .u64 0, .int .u64 0, .slice none 0 0], .bool false]) ∧ St W w' [] := by
  have hS := St.init W
  refine calls_of_wpE (args := [_]) Try.func36 rfl rfl rfl ?_
  refine c_seq ?_
  refine c_region ?_
  refine t_alloc Try.zeroValue45 rfl hS (fun g2 w hS => ?_)
  refine t_q (q_assign) ?_
  refine t_nil ?_
  refine c_seq ?_
  refine c_seq ?_
  refine c_region ?_
  refine t_q (q_mv (.pointer _) rfl) ?_
  refine t_call Try.call86 (none_nil) rfl ?_
  rintro e w ⟨rfl, hT⟩
  refine ⟨_, rfl, ?_⟩
  replace hS := hS.after hT
  refine t_q (q_mv (.bool _) rfl) ?_
  refine t_no rfl rfl (by decide) ?_
  refine t_no rfl rfl (by decide) ?_
  refine t_no rfl rfl (by decide) ?_
  refine t_no rfl rfl (by decide) ?_
  refine t_no rfl rfl (by decide) ?_
  refine t_q (q_pick_t rfl rfl) ?_
  refine t_nil ?_
  refine c_cond_t rfl rfl ?_
  refine c_seq ?_
  refine c_region ?_
  refine t_q (q_build (qs := [(0, 1), (1, 1), (2, 1)]) [(.int _ _), (.int _ _), (.slice _ _ _)] Try.zeroValue45 Try.runUnderlying45 ⟨rfl, Try.sizeOf43, rfl, Try.sizeOf43, rfl, Try.sizeOf25, trivial⟩ rfl rfl) ?_
  refine t_store (v := (.agg _)) Try.sizeOf45 hS (by repeat first | exact .here _ _ | assumption | apply Pick.there) rfl rfl rfl rfl rfl rfl (fun w hS => ?_)
  refine t_q (q_assign) ?_
  refine t_nil ?_
  refine c_ret ?_
  refine r_two rfl (res1_cellN Try.isAgg45 Try.sizeOf45 rfl (hS.blk (by repeat first | exact .here _ _ | assumption | apply Pick.there)) rfl) rfl ?_
  exact ⟨rfl, hS.nil⟩
set_option maxRecDepth 100000 in
theorem newest_zero {w : World} {L R : List Asn} {g : Nat} {vs : List Value} (hS : St W w L) (pk : Pick L (blkA g 75 (.pointer none :: vs)) R) : Calls Try.prog 36 #[.pointer (some ⟨g, 0, none⟩)] w fun e w' => e = .returned (.tuple #[.agg #[.int .u64 0, .int .u64 0, .slice none 0 0], .bool false]) ∧ St W w' (blkA g 75 (.pointer none :: vs) :: R) := by
  replace hS := hS.pick pk
  clear pk
  refine calls_of_wpE (args := [_]) Try.func36 rfl rfl rfl ?_
  refine c_seq ?_
  refine c_region ?_
  refine t_alloc Try.zeroValue45 rfl hS (fun g2 w hS => ?_)
  refine t_q (q_assign) ?_
  refine t_nil ?_
  refine c_seq ?_
  refine c_seq ?_
  refine c_region ?_
  refine t_q (q_mv (.pointer _) rfl) ?_
  refine t_call Try.call86 (none_zero hS (by repeat first | exact .here _ _ | assumption | apply Pick.there)) rfl ?_
  rintro e w ⟨rfl, hS⟩
  refine ⟨_, rfl, ?_⟩
  refine t_q (q_mv (.bool _) rfl) ?_
  refine t_no rfl rfl (by decide) ?_
  refine t_no rfl rfl (by decide) ?_
  refine t_no rfl rfl (by decide) ?_
  refine t_no rfl rfl (by decide) ?_
  refine t_no rfl rfl (by decide) ?_
  refine t_q (q_pick_t rfl rfl) ?_
  refine t_nil ?_
  refine c_cond_t rfl rfl ?_
  refine c_seq ?_
  refine c_region ?_
  refine t_q (q_build (qs := [(0, 1), (1, 1), (2, 1)]) [(.int _ _), (.int _ _), (.slice _ _ _)] Try.zeroValue45 Try.runUnderlying45 ⟨rfl, Try.sizeOf43, rfl, Try.sizeOf43, rfl, Try.sizeOf25, trivial⟩ rfl rfl) ?_
  refine t_store (v := (.agg _)) Try.sizeOf45 hS (by repeat first | exact .here _ _ | assumption | apply Pick.there) rfl rfl rfl rfl rfl rfl (fun w hS => ?_)
  refine t_q (q_assign) ?_
  refine t_nil ?_
  refine c_ret ?_
  refine r_two rfl (res1_cellN Try.isAgg45 Try.sizeOf45 rfl (hS.blk (by repeat first | exact .here _ _ | assumption | apply Pick.there)) rfl) rfl ?_
  exact ⟨rfl, (hS.pick (A := blkA g2 45 _) (by repeat first | exact .here _ _ | assumption | apply Pick.there)).drop⟩
set_option maxRecDepth 100000 in
theorem newest_calls {w : World} {L R : List Asn} {g gd : Nat} {a : Ar} (hS : St W w L) (pk : Pick L (arA g gd a) R) (hb : a.s.b.length ≤ 1000000000) : Calls Try.prog 36 #[.pointer (some ⟨g, 0, none⟩)] w fun e w' => ∃ A' c', e = .returned (.tuple #[.agg #[.int .u64 ((nwS a).i : Int), .int .u64 ((nwS a).t : Int), .slice A' (nwS a).b.length c'], .bool (decide (0 ≤ a.cn))]) ∧ St W w' (rowA 5 1 A' (nwS a).b.length c' (((nwS a).b).map bv) :: arA g gd a :: R) := by
  replace hS := hS.pick pk
  clear pk
  obtain ⟨As, cs, hS⟩ := hS.ar
  refine calls_of_wpE (args := [_]) Try.func36 rfl rfl rfl ?_
  refine c_seq ?_
  refine c_region ?_
  refine t_alloc Try.zeroValue45 rfl hS (fun g2 w hS => ?_)
  refine t_q (q_assign) ?_
  refine t_nil ?_
  refine c_seq ?_
  refine c_seq ?_
  refine c_region ?_
  refine t_q (q_mv (.pointer _) rfl) ?_
  refine t_call Try.call86 (none_calls hS (by repeat first | exact .here _ _ | assumption | apply Pick.there)) rfl ?_
  rintro e w ⟨rfl, hS⟩
  refine ⟨_, rfl, ?_⟩
  refine t_q (q_mv (.bool _) rfl) ?_
  refine t_yes rfl rfl rfl ?_
  refine t_q (q_mv (.pointer _) rfl) ?_
  refine t_yes rfl rfl rfl ?_
  refine t_q (q_nilCheck rfl) ?_
  refine t_yes rfl rfl rfl ?_
  refine t_q (q_fieldAddr 3 Try.runUnderlying75 rfl Try.sizeOf3 (by decide) rfl rfl) ?_
  refine t_yes rfl rfl rfl ?_
  refine t_q (q_load1 Try.isAgg3 rfl (hS.cell (by repeat first | exact .here _ _ | assumption | apply Pick.there) rfl)) ?_
  refine t_yes rfl rfl rfl ?_
  refine t_q (q_lss rfl rfl) ?_
  refine t_q (q_pick_f rfl rfl) ?_
  refine t_nil ?_
  refine c_cond rfl ?_ ?_
  · intro hc3
    have hc3d := of_decide_eq_true hc3
    refine c_seq ?_
    refine c_region ?_
    refine t_q (q_build (qs := [(0, 1), (1, 1), (2, 1)]) [(.int _ _), (.int _ _), (.slice _ _ _)] Try.zeroValue45 Try.runUnderlying45 ⟨rfl, Try.sizeOf43, rfl, Try.sizeOf43, rfl, Try.sizeOf25, trivial⟩ rfl rfl) ?_
    refine t_store (v := (.agg _)) Try.sizeOf45 hS (by repeat first | exact .here _ _ | assumption | apply Pick.there) rfl rfl rfl rfl rfl rfl (fun w hS => ?_)
    skip
    refine t_q (q_assign) ?_
    refine t_nil ?_
    refine c_ret ?_
    refine r_two rfl (res1_cellN Try.isAgg45 Try.sizeOf45 rfl (hS.blk (by repeat first | exact .here _ _ | assumption | apply Pick.there)) rfl) rfl ?_
    first
      | (have e1 : nwS a = sn0 := by unfold nwS; rw [if_pos (by omega)]
         have e2 : decide (0 ≤ a.cn) = false := decide_eq_false (by omega)
         rw [e1, e2]
         exact ⟨none, 0, rfl, (St.unar a (((((hS.pick (A := blkA g2 45 _) (by repeat first | exact .here _ _ | assumption | apply Pick.there)).drop).pick (A := rowA 5 1 As _ cs _) (by repeat first | exact .here _ _ | assumption | apply Pick.there)).pick (A := blkA g 75 _) (by repeat first | exact .here _ _ | assumption | apply Pick.there)))).nilrow 5 1⟩)
      | (have e1 : nwS a = a.s := by unfold nwS; rw [if_neg (by omega)]
         have e2 : decide (0 ≤ a.cn) = true := decide_eq_true (by omega)
         rw [e1, e2]
         exact ⟨A21, c21, rfl, (St.unar a ((((((hS.pick (A := blkA g4 45 _) (by repeat first | exact .here _ _ | assumption | apply Pick.there)).pick (A := blkA g2 45 _) (by repeat first | exact .here _ _ | assumption | apply Pick.there)).drop.drop).pick (A := rowA 5 1 As _ cs _) (by repeat first | exact .here _ _ | assumption | apply Pick.there)).pick (A := blkA g 75 _) (by repeat first | exact .here _ _ | assumption | apply Pick.there)))).pick (A := rowA 5 1 A21 _ c21 _) (by repeat first | exact .here _ _ | assumption | apply Pick.there)⟩)
  · intro hc3
    have hc3d := of_decide_eq_false hc3
    refine c_skip ?_
    refine c_seq ?_
    refine c_region ?_
    refine t_q (q_mv (.pointer _) rfl) ?_
    refine t_q (q_nilCheck rfl) ?_
    refine t_q (q_fieldAddr 4 Try.runUnderlying75 rfl Try.sizeOf45 (by decide) rfl rfl) ?_
    refine t_q (q_cast (v' := .agg #[.int .u64 (a.s.i : Int), .int .u64 (a.s.t : Int), .slice As a.s.b.length cs]) (q_load_sub Try.isAgg45 Try.sizeOf45 rfl (hS.blk (by repeat first | exact .here _ _ | assumption | apply Pick.there)) (by show 0 + 4 + 3 ≤ 8; decide)) (rfl)) ?_
    refine t_alloc Try.zeroValue45 rfl hS (fun g4 w hS => ?_)
    refine t_store (v := (.agg _)) Try.sizeOf45 hS (by repeat first | exact .here _ _ | assumption | apply Pick.there) rfl rfl rfl rfl rfl rfl (fun w hS => ?_)
    refine t_nil ?_
    refine c_seq ?_
    refine c_region ?_
    refine t_q (q_fieldAddr 2 Try.runUnderlying45 rfl Try.sizeOf25 (by decide) rfl rfl) ?_
    refine t_q (q_load1 Try.isAgg25 rfl (hS.cell (by repeat first | exact .here _ _ | assumption | apply Pick.there) rfl)) ?_
    refine t_call Try.call88 (clone_calls (hS.rowRd (A := As) (c := cs) (bs := a.s.b) (by repeat first | exact .here _ _ | assumption | apply Pick.there) rfl) hb) rfl ?_
    rintro e w ⟨A21, c21, rfl, hT⟩
    refine ⟨_, rfl, ?_⟩
    have hS : St W w (_ :: _) := hS.lift hT
    refine t_q (q_fieldAddr 2 Try.runUnderlying45 rfl Try.sizeOf25 (by decide) rfl rfl) ?_
    refine t_store (v := (.slice _ _ _)) Try.sizeOf25 hS (by repeat first | exact .here _ _ | assumption | apply Pick.there) rfl rfl rfl rfl rfl rfl (fun w hS => ?_)
    refine t_nil ?_
    refine c_seq ?_
    refine c_region ?_
    refine t_q (q_load_blk Try.isAgg45 Try.sizeOf45 rfl (hS.blk (by repeat first | exact .here _ _ | assumption | apply Pick.there)) rfl) ?_
    refine t_store (v := (.agg _)) Try.sizeOf45 hS (by repeat first | exact .here _ _ | assumption | apply Pick.there) rfl rfl rfl rfl rfl rfl (fun w hS => ?_)
    refine t_q (q_assign) ?_
    refine t_nil ?_
    refine c_ret ?_
    refine r_two rfl (res1_cellN Try.isAgg45 Try.sizeOf45 rfl (hS.blk (by repeat first | exact .here _ _ | assumption | apply Pick.there)) rfl) rfl ?_
    first
      | (have e1 : nwS a = sn0 := by unfold nwS; rw [if_pos (by omega)]
         have e2 : decide (0 ≤ a.cn) = false := decide_eq_false (by omega)
         rw [e1, e2]
         exact ⟨none, 0, rfl, (St.unar a (((((hS.pick (A := blkA g2 45 _) (by repeat first | exact .here _ _ | assumption | apply Pick.there)).drop).pick (A := rowA 5 1 As _ cs _) (by repeat first | exact .here _ _ | assumption | apply Pick.there)).pick (A := blkA g 75 _) (by repeat first | exact .here _ _ | assumption | apply Pick.there)))).nilrow 5 1⟩)
      | (have e1 : nwS a = a.s := by unfold nwS; rw [if_neg (by omega)]
         have e2 : decide (0 ≤ a.cn) = true := decide_eq_true (by omega)
         rw [e1, e2]
         exact ⟨A21, c21, rfl, (St.unar a ((((((hS.pick (A := blkA g4 45 _) (by repeat first | exact .here _ _ | assumption | apply Pick.there)).pick (A := blkA g2 45 _) (by repeat first | exact .here _ _ | assumption | apply Pick.there)).drop.drop).pick (A := rowA 5 1 As _ cs _) (by repeat first | exact .here _ _ | assumption | apply Pick.there)).pick (A := blkA g 75 _) (by repeat first | exact .here _ _ | assumption | apply Pick.there)))).pick (A := rowA 5 1 A21 _ c21 _) (by repeat first | exact .here _ _ | assumption | apply Pick.there)⟩)
set_option maxRecDepth 100000 in
theorem broken_nil : Calls Try.prog 37 #[.pointer none] W fun e w' => e = .returned (.bool false) ∧ St W w' [] := by
  have hS := St.init W
  refine calls_of_wpE (args := [_]) Try.func37 rfl rfl rfl ?_
  refine c_seq ?_
  refine c_region ?_
  refine t_q (q_assign) ?_
  refine t_nil ?_
  refine c_seq ?_
  refine c_region ?_
  refine t_q (q_mv (.pointer _) rfl) ?_
  refine t_call Try.call86 (none_nil) rfl ?_
  rintro e w ⟨rfl, hT⟩
  refine ⟨_, rfl, ?_⟩
  replace hS := hS.after hT
  refine t_q (q_not rfl) ?_
  refine t_q (q_mv (.bool _) rfl) ?_
  refine t_no rfl rfl (by decide) ?_
  refine t_no rfl rfl (by decide) ?_
  refine t_no rfl rfl (by decide) ?_
  refine t_no rfl rfl (by decide) ?_
  refine t_q (q_pick_f rfl rfl) ?_
  refine t_q (q_as (.bool _) rfl) ?_
  refine t_nil ?_
  refine c_ret ?_
  refine r_one rfl rfl ?_
  exact ⟨rfl, hS.nil⟩
set_option maxRecDepth 100000 in
theorem broken_zero {w : World} {L R : List Asn} {g : Nat} {vs : List Value} (hS : St W w L) (pk : Pick L (blkA g 75 (.pointer none :: vs)) R) : Calls Try.prog 37 #[.pointer (some ⟨g, 0, none⟩)] w fun e w' => e = .returned (.bool false) ∧ St W w' (blkA g 75 (.pointer none :: vs) :: R) := by
  replace hS := hS.pick pk
  clear pk
  refine calls_of_wpE (args := [_]) Try.func37 rfl rfl rfl ?_
  refine c_seq ?_
  refine c_region ?_
  refine t_q (q_assign) ?_
  refine t_nil ?_
  refine c_seq ?_
  refine c_region ?_
  refine t_q (q_mv (.pointer _) rfl) ?_
  refine t_call Try.call86 (none_zero hS (by repeat first | exact .here _ _ | assumption | apply Pick.there)) rfl ?_
  rintro e w ⟨rfl, hS⟩
  refine ⟨_, rfl, ?_⟩
  refine t_q (q_not rfl) ?_
  refine t_q (q_mv (.bool _) rfl) ?_
  refine t_no rfl rfl (by decide) ?_
  refine t_no rfl rfl (by decide) ?_
  refine t_no rfl rfl (by decide) ?_
  refine t_no rfl rfl (by decide) ?_
  refine t_q (q_pick_f rfl rfl) ?_
  refine t_q (q_as (.bool _) rfl) ?_
  refine t_nil ?_
  refine c_ret ?_
  refine r_one rfl rfl ?_
  exact ⟨rfl, hS⟩
set_option maxRecDepth 100000 in
theorem broken_calls {w : World} {L R : List Asn} {g gd : Nat} {a : Ar} (hS : St W w L) (pk : Pick L (arA g gd a) R) : Calls Try.prog 37 #[.pointer (some ⟨g, 0, none⟩)] w fun e w' => e = .returned (.bool a.br) ∧ St W w' (arA g gd a :: R) := by
  replace hS := hS.pick pk
  clear pk
  obtain ⟨As, cs, hS⟩ := hS.ar
  refine calls_of_wpE (args := [_]) Try.func37 rfl rfl rfl ?_
  refine c_seq ?_
  refine c_region ?_
  refine t_q (q_assign) ?_
  refine t_nil ?_
  refine c_seq ?_
  refine c_region ?_
  refine t_q (q_mv (.pointer _) rfl) ?_
  refine t_call Try.call86 (none_calls hS (by repeat first | exact .here _ _ | assumption | apply Pick.there)) rfl ?_
  rintro e w ⟨rfl, hS⟩
  refine ⟨_, rfl, ?_⟩
  refine t_q (q_not rfl) ?_
  refine t_q (q_mv (.bool _) rfl) ?_
  refine t_yes rfl rfl rfl ?_
  refine t_q (q_mv (.pointer _) rfl) ?_
  refine t_yes rfl rfl rfl ?_
  refine t_q (q_nilCheck rfl) ?_
  refine t_yes rfl rfl rfl ?_
  refine t_q (q_fieldAddr 7 Try.runUnderlying75 rfl Try.sizeOf4 (by decide) rfl rfl) ?_
  refine t_yes rfl rfl rfl ?_
  refine t_q (q_load1 Try.isAgg4 rfl (hS.cell (by repeat first | exact .here _ _ | assumption | apply Pick.there) rfl)) ?_
  refine t_q (q_pick_t rfl rfl) ?_
  refine t_q (q_as (.bool _) rfl) ?_
  refine t_nil ?_
  refine c_ret ?_
  refine r_one rfl rfl ?_
  exact ⟨rfl, St.unar a hS⟩
end Go.Proofs.Ytlppgpidakfnlaa
