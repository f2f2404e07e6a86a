/- Disks: what each call of the program does. -/
import Derived.Test.YtlppgpidakfnlaaDa
import Derived.Test.YtlppgpidakfnlaaPd
namespace Go.Proofs.Ytlppgpidakfnlaa
open Go Go.RowKit Go.Lib
variable {W : World}
theorem blow_1 {d : Dk} (h : d.fuse < 0) (hg : d.gone = false) : dtl d.blow = [.bool (decide (0 ≤ d.fuse)), .int .i64 (d.fuse.toNat : Int), .bool d.gone, .int .i64 (d.calls + 1)] ∧ decide (d.fuse = 0) = false := by
  have e1 : d.blow.fuse = d.fuse := by show (if 0 < d.fuse then d.fuse - 1 else d.fuse) = d.fuse; rw [if_neg (by omega)]
  have e2 : d.blow.gone = false := decide_eq_false (by omega)
  unfold dtl
  rw [e1, e2, hg]
  exact ⟨rfl, decide_eq_false (by omega)⟩
theorem blow_2 {d : Dk} (h : 0 ≤ d.fuse) : dtl d.blow = [.bool (decide (0 ≤ d.fuse)), .int .i64 (max ((d.fuse.toNat : Int) - 1) 0), .bool (decide ((d.fuse.toNat : Int) = 0)), .int .i64 (d.calls + 1)] ∧ decide ((d.fuse.toNat : Int) = 0) = decide (d.fuse = 0) := by
  have e3 : decide ((d.fuse.toNat : Int) = 0) = decide (d.fuse = 0) := by by_cases h0 : d.fuse = 0 <;> simp [h0] <;> omega
  have e1 : (d.blow.fuse.toNat : Int) = max ((d.fuse.toNat : Int) - 1) 0 ∧ 0 ≤ d.blow.fuse := by
    have : d.blow.fuse = if 0 < d.fuse then d.fuse - 1 else d.fuse := rfl
    rw [this]
    split <;> omega
  have e2 : d.blow.gone = decide (d.fuse = 0) := rfl
  unfold dtl
  rw [e1.1, e2, e3, decide_eq_true e1.2, decide_eq_true h]
  exact ⟨rfl, rfl⟩
attribute [local irreducible] blkA rowA rdrA rowC packA fcells
set_option maxRecDepth 100000 in
theorem at_nil {i : Int} : Calls Try.prog 93 #[.pointer none, .int .i64 i] W fun e w' => e = .returned (.pointer none) ∧ St W w' [] := by
  have hS := St.init W
  refine calls_of_wpE (args := [_, _]) Try.func93 rfl rfl rfl ?_
  refine c_seq ?_
  refine c_region ?_
  refine t_q (q_assign) ?_
  refine t_nil ?_
  refine c_seq ?_
  refine c_seq ?_
  refine c_region ?_
  refine t_q (q_mv (.pointer _) rfl) ?_
  refine t_q (q_eql_ptr_nil Try.runUnderlying58 rfl rfl) ?_
  refine t_q (q_mv (.bool _) rfl) ?_
  refine t_no rfl rfl (by decide) ?_
  refine t_no rfl rfl (by decide) ?_
  refine t_q (q_pick_t rfl rfl) ?_
  refine t_q (q_mv (.bool _) rfl) ?_
  refine t_no rfl rfl (by decide) ?_
  refine t_no rfl rfl (by decide) ?_
  refine t_q (q_pick_t rfl rfl) ?_
  refine t_nil ?_
  refine c_cond_t rfl rfl ?_
  refine c_seq ?_
  refine c_region ?_
  refine t_q (q_assign) ?_
  refine t_nil ?_
  refine c_ret ?_
  refine r_one rfl rfl ?_
  exact ⟨rfl, hS⟩
set_option maxRecDepth 100000 in
theorem at_out {g : Nat} {i : Int} (h : i < 0 ∨ 32 ≤ i) : Calls Try.prog 93 #[.pointer (some ⟨g, 0, none⟩), .int .i64 i] W fun e w' => e = .returned (.pointer none) ∧ St W w' [] := by
  have hS := St.init W
  refine calls_of_wpE (args := [_, _]) Try.func93 rfl rfl rfl ?_
  refine c_seq ?_
  refine c_region ?_
  refine t_q (q_assign) ?_
  refine t_nil ?_
  refine c_seq ?_
  refine c_seq ?_
  refine c_region ?_
  refine t_q (q_mv (.pointer _) rfl) ?_
  refine t_q (q_eql_ptr_nil Try.runUnderlying58 rfl rfl) ?_
  refine t_q (q_mv (.bool _) rfl) ?_
  refine t_yes rfl rfl rfl ?_
  refine t_q (q_mv (.int _ _) rfl) ?_
  refine t_yes rfl rfl rfl ?_
  refine t_q (q_lss rfl rfl) ?_
  refine t_q (q_pick_f rfl rfl) ?_
  refine t_q (q_mv (.bool _) rfl) ?_
  refine t_case 11 rfl ?_ ?_
  · intro hg2
    have hg2d := of_decide_eq_true hg2
    refine t_no rfl rfl (by rw [hg2]; decide) ?_
    refine t_no rfl rfl (by rw [hg2]; decide) ?_
    refine t_q (q_pick_t rfl hg2) ?_
    refine t_nil ?_
    refine c_cond_t rfl rfl ?_
    refine c_seq ?_
    refine c_region ?_
    refine t_q (q_assign) ?_
    refine t_nil ?_
    refine c_ret ?_
    refine r_one rfl rfl ?_
    exact ⟨rfl, hS⟩
  · intro hg2
    have hg2d := of_decide_eq_false hg2
    refine t_yes rfl rfl hg2 ?_
    refine t_q (q_mv (.int _ _) rfl) ?_
    refine t_yes rfl rfl hg2 ?_
    refine t_q (q_geq rfl rfl) ?_
    refine t_q (q_pick_f rfl hg2) ?_
    refine t_nil ?_
    refine c_cond rfl ?_ ?_
    · intro hc4
      have hc4d := of_decide_eq_true hc4
      refine c_seq ?_
      refine c_region ?_
      refine t_q (q_assign) ?_
      refine t_nil ?_
      refine c_ret ?_
      refine r_one rfl rfl ?_
      exact ⟨rfl, hS⟩
    · intro hc4
      have hc4d := of_decide_eq_false hc4
      exfalso; omega
set_option maxRecDepth 100000 in
theorem at_in {g : Nat} {i : Int} (h : 0 ≤ i ∧ i < 32) : Calls Try.prog 93 #[.pointer (some ⟨g, 0, none⟩), .int .i64 i] W fun e w' => e = .returned (.pointer (some ⟨g, 0 + i.toNat * 2, none⟩)) ∧ St W w' [] := by
  have hS := St.init W
  refine calls_of_wpE (args := [_, _]) Try.func93 rfl rfl rfl ?_
  refine c_seq ?_
  refine c_region ?_
  refine t_q (q_assign) ?_
  refine t_nil ?_
  refine c_seq ?_
  refine c_seq ?_
  refine c_region ?_
  refine t_q (q_mv (.pointer _) rfl) ?_
  refine t_q (q_eql_ptr_nil Try.runUnderlying58 rfl rfl) ?_
  refine t_q (q_mv (.bool _) rfl) ?_
  refine t_yes rfl rfl rfl ?_
  refine t_q (q_mv (.int _ _) rfl) ?_
  refine t_yes rfl rfl rfl ?_
  refine t_q (q_lss rfl rfl) ?_
  refine t_q (q_pick_f rfl rfl) ?_
  refine t_q (q_mv (.bool _) rfl) ?_
  refine t_case 11 rfl ?_ ?_
  · intro hg2
    have hg2d := of_decide_eq_true hg2
    refine t_no rfl rfl (by rw [hg2]; decide) ?_
    refine t_no rfl rfl (by rw [hg2]; decide) ?_
    refine t_q (q_pick_t rfl hg2) ?_
    refine t_nil ?_
    refine c_cond_t rfl rfl ?_
    exfalso; omega
  · intro hg2
    have hg2d := of_decide_eq_false hg2
    refine t_yes rfl rfl hg2 ?_
    refine t_q (q_mv (.int _ _) rfl) ?_
    refine t_yes rfl rfl hg2 ?_
    refine t_q (q_geq rfl rfl) ?_
    refine t_q (q_pick_f rfl hg2) ?_
    refine t_nil ?_
    refine c_cond rfl ?_ ?_
    · intro hc4
      have hc4d := of_decide_eq_true hc4
      exfalso; omega
    · intro hc4
      have hc4d := of_decide_eq_false hc4
      refine c_skip ?_
      refine c_seq ?_
      refine c_region ?_
      refine t_q (q_mv (.pointer _) rfl) ?_
      refine t_q (q_mv (.int _ _) rfl) ?_
      refine t_q (q_nilCheck rfl) ?_
      refine t_q (q_fieldAddr 0 Try.runUnderlying157 rfl Try.sizeOf155 (by decide) rfl rfl) ?_
      first | refine t_q (q_arr_nat Try.runUnderlying155 Try.sizeOf154 rfl rfl (by omega)) ?_ | refine t_q (q_arr Try.runUnderlying155 Try.sizeOf154 rfl rfl (by omega)) ?_
      refine t_q (q_as (.pointer _) rfl) ?_
      refine t_nil ?_
      refine c_ret ?_
      refine r_one rfl rfl ?_
      exact ⟨rfl, hS⟩
set_option maxRecDepth 100000 in
theorem blow_calls {w : World} {L R : List Asn} {g : Nat} {F : Nat → List UInt8 × Nat} {rw : Rws} {d : Dk} (hS : St W w L) (pk : Pick L (blkA g 157 (fcells F rw ++ dtl d)) R) (hg : d.gone = false) (hf : -9223372036854775808 ≤ d.fuse ∧ d.fuse ≤ 9223372036854775807) (hc : 0 ≤ d.calls ∧ d.calls ≤ 1000000000) :
  Calls Try.prog 134 #[.pointer (some ⟨g, 0, none⟩)] w fun e w' => e = .returned (.bool (decide (d.fuse = 0))) ∧ St W w' (blkA g 157 (fcells F rw ++ dtl d.blow) :: R) := by
  replace hS := hS.pick pk
  clear pk
  refine calls_of_wpE (args := [_]) Try.func134 rfl rfl rfl ?_
  refine c_seq ?_
  refine c_region ?_
  refine t_q (q_assign) ?_
  refine t_nil ?_
  refine c_seq ?_
  refine c_region ?_
  refine t_q (q_mv (.pointer _) rfl) ?_
  refine t_q (q_nilCheck rfl) ?_
  refine t_q (q_fieldAddr 67 Try.runUnderlying157 rfl Try.sizeOf3 (by decide) rfl rfl) ?_
  refine t_q (q_load1 Try.isAgg3 rfl (hS.cell (by repeat first | exact .here _ _ | assumption | apply Pick.there) ((fc_tl 3).trans rfl))) ?_
  refine t_q (q_add_i64 rfl rfl (by omega)) ?_
  refine t_q (q_nilCheck rfl) ?_
  refine t_q (q_fieldAddr 67 Try.runUnderlying157 rfl Try.sizeOf3 (by decide) rfl rfl) ?_
  refine t_store (v := (.int _ _)) Try.sizeOf3 hS (by repeat first | exact .here _ _ | assumption | apply Pick.there) rfl rfl rfl rfl rfl (Nat.ble_eq_true_of_le (by rw [List.length_append, fcells_len]; show 0 + 67 + 1 ≤ 64 + 4; omega)) (fun w hS => ?_)
  replace hS := hS.recast (show _ = blkA g 157 (fcells F rw ++ [.bool (decide (0 ≤ d.fuse)), .int .i64 (d.fuse.toNat : Int), .bool d.gone, .int .i64 (d.calls + 1)]) from congrArg (blkA g 157 ·) (st_tl 3 _))
  refine t_nil ?_
  refine c_seq ?_
  refine c_seq ?_
  refine c_region ?_
  refine t_q (q_mv (.pointer _) rfl) ?_
  refine t_q (q_nilCheck rfl) ?_
  refine t_q (q_fieldAddr 64 Try.runUnderlying157 rfl Try.sizeOf4 (by decide) rfl rfl) ?_
  refine t_q (q_load1 Try.isAgg4 rfl (hS.cell (by repeat first | exact .here _ _ | assumption | apply Pick.there) ((fc_tl 0).trans rfl))) ?_
  refine t_q (q_not rfl) ?_
  refine t_nil ?_
  refine c_cond rfl ?_ ?_
  · intro hc2
    have hneg : d.fuse < 0 := by have h := not_back hc2; have := of_decide_eq_false h; omega
    refine c_seq ?_
    refine c_region ?_
    refine t_q (q_assign) ?_
    refine t_nil ?_
    refine c_ret ?_
    refine r_one rfl rfl ?_
    first
      | (obtain ⟨e1, e2⟩ := blow_1 hneg hg
         rw [e1, e2]
         exact ⟨rfl, hS⟩)
      | (obtain ⟨e1, e2⟩ := blow_2 hpos
         rw [e1, ← e2]
         exact ⟨rfl, hS⟩)
  · intro hc2
    have hpos : 0 ≤ d.fuse := by have h := not_back hc2; exact of_decide_eq_true h
    refine c_skip ?_
    refine c_seq ?_
    refine c_region ?_
    refine t_q (q_mv (.pointer _) rfl) ?_
    refine t_q (q_mv (.pointer _) rfl) ?_
    refine t_q (q_nilCheck rfl) ?_
    refine t_q (q_fieldAddr 65 Try.runUnderlying157 rfl Try.sizeOf3 (by decide) rfl rfl) ?_
    refine t_q (q_load1 Try.isAgg3 rfl (hS.cell (by repeat first | exact .here _ _ | assumption | apply Pick.there) ((fc_tl 1).trans rfl))) ?_
    refine t_q (q_eql rfl rfl) ?_
    refine t_q (q_nilCheck rfl) ?_
    refine t_q (q_fieldAddr 66 Try.runUnderlying157 rfl Try.sizeOf4 (by decide) rfl rfl) ?_
    refine t_store (v := (.bool _)) Try.sizeOf4 hS (by repeat first | exact .here _ _ | assumption | apply Pick.there) rfl rfl rfl rfl rfl (Nat.ble_eq_true_of_le (by rw [List.length_append, fcells_len]; show 0 + 66 + 1 ≤ 64 + 4; omega)) (fun w hS => ?_)
    replace hS := hS.recast (show _ = blkA g 157 (fcells F rw ++ [.bool (decide (0 ≤ d.fuse)), .int .i64 (d.fuse.toNat : Int), .bool (decide ((d.fuse.toNat : Int) = 0)), .int .i64 (d.calls + 1)]) from congrArg (blkA g 157 ·) (st_tl 2 _))
    refine t_nil ?_
    refine c_seq ?_
    refine c_region ?_
    refine t_q (q_mv (.pointer _) rfl) ?_
    refine t_q (q_mv (.pointer _) rfl) ?_
    refine t_q (q_nilCheck rfl) ?_
    refine t_q (q_fieldAddr 65 Try.runUnderlying157 rfl Try.sizeOf3 (by decide) rfl rfl) ?_
    refine t_q (q_load1 Try.isAgg3 rfl (hS.cell (by repeat first | exact .here _ _ | assumption | apply Pick.there) ((fc_tl 1).trans rfl))) ?_
    refine t_q (q_sub_i64 rfl rfl (by omega)) ?_
    refine t_q (q_max rfl rfl) ?_
    refine t_q (q_nilCheck rfl) ?_
    refine t_q (q_fieldAddr 65 Try.runUnderlying157 rfl Try.sizeOf3 (by decide) rfl rfl) ?_
    refine t_store (v := (.int _ _)) Try.sizeOf3 hS (by repeat first | exact .here _ _ | assumption | apply Pick.there) rfl rfl rfl rfl rfl (Nat.ble_eq_true_of_le (by rw [List.length_append, fcells_len]; show 0 + 65 + 1 ≤ 64 + 4; omega)) (fun w hS => ?_)
    replace hS := hS.recast (show _ = blkA g 157 (fcells F rw ++ [.bool (decide (0 ≤ d.fuse)), .int .i64 (max ((d.fuse.toNat : Int) - 1) 0), .bool (decide ((d.fuse.toNat : Int) = 0)), .int .i64 (d.calls + 1)]) from congrArg (blkA g 157 ·) (st_tl 1 _))
    refine t_nil ?_
    refine c_seq ?_
    refine c_region ?_
    refine t_q (q_mv (.pointer _) rfl) ?_
    refine t_q (q_nilCheck rfl) ?_
    refine t_q (q_fieldAddr 66 Try.runUnderlying157 rfl Try.sizeOf4 (by decide) rfl rfl) ?_
    refine t_q (q_load1 Try.isAgg4 rfl (hS.cell (by repeat first | exact .here _ _ | assumption | apply Pick.there) ((fc_tl 2).trans rfl))) ?_
    refine t_q (q_as (.bool _) rfl) ?_
    refine t_nil ?_
    refine c_ret ?_
    refine r_one rfl rfl ?_
    first
      | (obtain ⟨e1, e2⟩ := blow_1 hneg hg
         rw [e1, e2]
         exact ⟨rfl, hS⟩)
      | (obtain ⟨e1, e2⟩ := blow_2 hpos
         rw [e1, ← e2]
         exact ⟨rfl, hS⟩)
end Go.Proofs.Ytlppgpidakfnlaa
