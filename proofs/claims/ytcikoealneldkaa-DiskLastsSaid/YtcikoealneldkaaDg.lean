/- Disks: the document's own. -/
import Derived.Test.YtcikoealneldkaaDf
namespace Go.Proofs.Ytcikoealneldkaa
open Go Go.RowKit Go.Lib
variable {W : World}
def otE (d : Dk) (i k n : Int) : Int := if k = 2 then cuE d.F i.toNat n else 0
def otF (d : Dk) (i k n : Int) : Nat → List UInt8 × Nat := if k = 1 then syF d.F i.toNat else if k = 2 then cuF d.F i.toNat n else drF d.F i.toNat
theorem qtl_eq (d : Dk) : qtl d = ([.int .i64 d.fuse, .bool d.gone, .int .i64 d.calls] : List Value) := rfl
theorem St.unqdkF {w : World} {R : List Asn} {g : Nat} {d : Dk} {F : Nat → List UInt8 × Nat} {rw : Rws} (h : St W w (blkA g 210 (fcells F rw ++ qtl d) :: packA (filesL F rw) :: R)) : St W w (qdkA g (d.setF F) :: R) := St.unqdk (d := d.setF F) h
set_option maxRecDepth 100000 in
theorem qdnew_calls {w : World} {L : List Asn} (hS : St W w L) : Calls Try.prog 76 #[] w fun e w' => ∃ g, e = .returned (.pointer (some ⟨g, 0, none⟩)) ∧ St W w' (qdkA g D0 :: L) := by
  refine calls_of_wpE (args := []) Try.func76 rfl rfl rfl ?_
  refine c_seq ?_
  refine c_region ?_
  refine t_q (q_assign) ?_
  refine t_nil ?_
  refine c_seq ?_
  refine c_region ?_
  refine t_q (q_build (qs := [(0, 64), (64, 1), (65, 1), (66, 1)]) (fcells F0 rw0 ++ qtl D0) Try.zeroValue210 Try.runUnderlying210 ⟨rfl, Try.sizeOf208, rfl, Try.sizeOf3, rfl, Try.sizeOf4, rfl, Try.sizeOf3, trivial⟩ rfl rfl) ?_
  refine t_box (v := (.agg _)) rfl rfl hS (fun g2 w hS => ?_)
  refine t_q (q_as (.pointer _) rfl) ?_
  refine t_nil ?_
  refine c_ret ?_
  refine r_one rfl rfl ?_
  exact ⟨g2, rfl, St.unqdk (d := D0) (rw := rw0) ((files_zero hS).pick (A := blkA g2 210 _) (.there (.here _ _)))⟩
theorem qtl_1 (d : Dk) : (qtl d)[1]? = some (.bool d.gone) := rfl
attribute [local irreducible] blkA rowA rdrA rowC packA fcells qtl dtl dskA qdkA
set_option maxRecDepth 100000 in
theorem qis_calls {i : Int} : Calls Try.prog 195 #[.int .i64 i] W fun e w' => e = .returned (.bool (decide (0 ≤ i ∧ i < 32))) ∧ St W w' [] := by
  have hS := St.init W
  refine calls_of_wpE (args := [_]) Try.func195 rfl rfl rfl ?_
  refine c_seq ?_
  refine c_region ?_
  refine t_q (q_assign) ?_
  refine t_nil ?_
  refine c_seq ?_
  refine c_region ?_
  refine t_q (q_mv (.int _ _) rfl) ?_
  refine t_q (q_geq rfl rfl) ?_
  refine t_q (q_mv (.bool _) rfl) ?_
  refine t_case 5 rfl ?_ ?_
  · intro hg2
    have hg2d := of_decide_eq_true hg2
    refine t_yes rfl rfl hg2 ?_
    refine t_q (q_mv (.int _ _) rfl) ?_
    refine t_yes rfl rfl hg2 ?_
    refine t_q (q_lss rfl rfl) ?_
    refine t_q (q_pick_t rfl hg2) ?_
    refine t_q (q_as (.bool _) rfl) ?_
    refine t_nil ?_
    refine c_ret ?_
    refine r_one rfl rfl ?_
    refine ⟨congrArg (fun b => Ending.returned (.bool b)) ?_, hS⟩
    first | (by_cases h : i < 32 <;> simp [h] <;> omega) | (rw [decide_eq_false (by omega)])
  · intro hg2
    have hg2d := of_decide_eq_false hg2
    refine t_no rfl rfl (by rw [hg2]; decide) ?_
    refine t_no rfl rfl (by rw [hg2]; decide) ?_
    refine t_q (q_pick_f rfl hg2) ?_
    refine t_q (q_as (.bool _) rfl) ?_
    refine t_nil ?_
    refine c_ret ?_
    refine r_one rfl rfl ?_
    refine ⟨congrArg (fun b => Ending.returned (.bool b)) ?_, hS⟩
    first | (by_cases h : i < 32 <;> simp [h] <;> omega) | (rw [decide_eq_false (by omega)])
set_option maxRecDepth 100000 in
theorem qgoes_calls {w : World} {L R : List Asn} {g : Nat} {F : Nat → List UInt8 × Nat} {rw : Rws} {d : Dk} (hS : St W w L) (pk : Pick L (blkA g 210 (fcells F rw ++ qtl d)) R) (hg : d.gone = false) (hf : -9223372036854775808 ≤ d.fuse ∧ d.fuse ≤ 9223372036854775807) (hc : 0 ≤ d.calls ∧ d.calls ≤ 1000000000) :
  Calls Try.prog 196 #[.pointer (some ⟨g, 0, none⟩)] w fun e w' => e = .returned (.bool (decide (d.fuse = 0))) ∧ St W w' (blkA g 210 (fcells F rw ++ qtl d.blow) :: R) := by
  replace hS := hS.pick pk
  clear pk
  rw [qtl_eq] at hS
  refine calls_of_wpE (args := [_]) Try.func196 rfl rfl rfl ?_
  refine c_seq ?_
  refine c_region ?_
  refine t_q (q_assign) ?_
  refine t_nil ?_
  refine c_seq ?_
  refine c_region ?_
  refine t_q (q_mv (.pointer _) rfl) ?_
  refine t_q (q_nilCheck rfl) ?_
  refine t_q (q_fieldAddr 66 Try.runUnderlying210 rfl Try.sizeOf3 (by decide) rfl rfl) ?_
  refine t_q (q_load1 Try.isAgg3 rfl (hS.cell (by repeat first | exact .here _ _ | assumption | apply Pick.there) ((fc_tl 2).trans rfl))) ?_
  refine t_q (q_add_i64 rfl rfl (by omega)) ?_
  refine t_q (q_nilCheck rfl) ?_
  refine t_q (q_fieldAddr 66 Try.runUnderlying210 rfl Try.sizeOf3 (by decide) rfl rfl) ?_
  refine t_store (v := (.int _ _)) Try.sizeOf3 hS (by repeat first | exact .here _ _ | assumption | apply Pick.there) rfl rfl rfl rfl rfl (Nat.ble_eq_true_of_le (by show 0 + 66 + 1 ≤ (fcells F rw ++ _).length; rw [List.length_append, fcells_len]; show _ ≤ 64 + 3; omega)) (fun w hS => ?_)
  replace hS := hS.recast (show _ = blkA g 210 (fcells F rw ++ ([.int .i64 d.fuse, .bool d.gone, .int .i64 (d.calls + 1)] : List Value)) from congrArg (blkA g 210 ·) (st_tl 2 _))
  refine t_nil ?_
  refine c_seq ?_
  refine c_seq ?_
  refine c_region ?_
  refine t_q (q_mv (.pointer _) rfl) ?_
  refine t_q (q_nilCheck rfl) ?_
  refine t_q (q_fieldAddr 64 Try.runUnderlying210 rfl Try.sizeOf3 (by decide) rfl rfl) ?_
  refine t_q (q_load1 Try.isAgg3 rfl (hS.cell (by repeat first | exact .here _ _ | assumption | apply Pick.there) ((fc_tl 0).trans rfl))) ?_
  refine t_q (q_eql rfl rfl) ?_
  refine t_nil ?_
  refine c_cond rfl ?_ ?_
  · intro hc2
    have hc2d := of_decide_eq_true hc2
    have h0 : d.fuse = 0 := of_decide_eq_true hc2
    refine c_seq ?_
    refine c_region ?_
    refine t_q (q_mv (.pointer _) rfl) ?_
    refine t_q (q_nilCheck rfl) ?_
    refine t_q (q_fieldAddr 65 Try.runUnderlying210 rfl Try.sizeOf4 (by decide) rfl rfl) ?_
    refine t_store (v := (.bool _)) Try.sizeOf4 hS (by repeat first | exact .here _ _ | assumption | apply Pick.there) rfl rfl rfl rfl rfl (Nat.ble_eq_true_of_le (by show 0 + 65 + 1 ≤ (fcells F rw ++ _).length; rw [List.length_append, fcells_len]; show _ ≤ 64 + 3; omega)) (fun w hS => ?_)
    replace hS := hS.recast (show _ = blkA g 210 (fcells F rw ++ ([.int .i64 d.fuse, .bool true, .int .i64 (d.calls + 1)] : List Value)) from congrArg (blkA g 210 ·) (st_tl 1 _))
    refine t_nil ?_
    refine c_seq ?_
    refine c_region ?_
    refine t_q (q_assign) ?_
    refine t_nil ?_
    refine c_ret ?_
    refine r_one rfl rfl ?_
    first
      | (rw [hq, decide_eq_false h0]; exact ⟨rfl, hS⟩)
      | (have hq : qtl d.blow = ([.int .i64 d.fuse, .bool true, .int .i64 (d.calls + 1)] : List Value) := by rw [qtl_eq]; show ([.int .i64 (if 0 < d.fuse then d.fuse - 1 else d.fuse), .bool (decide (d.fuse = 0)), .int .i64 (d.calls + 1)] : List Value) = _; rw [if_neg (by omega), decide_eq_true h0]
         rw [hq, decide_eq_true h0]; exact ⟨rfl, hS⟩)
  · intro hc2
    have hc2d := of_decide_eq_false hc2
    have h0 : d.fuse ≠ 0 := of_decide_eq_false hc2
    refine c_skip ?_
    refine c_seq ?_
    refine c_seq ?_
    refine c_region ?_
    refine t_q (q_mv (.pointer _) rfl) ?_
    refine t_q (q_nilCheck rfl) ?_
    refine t_q (q_fieldAddr 64 Try.runUnderlying210 rfl Try.sizeOf3 (by decide) rfl rfl) ?_
    refine t_q (q_load1 Try.isAgg3 rfl (hS.cell (by repeat first | exact .here _ _ | assumption | apply Pick.there) ((fc_tl 0).trans rfl))) ?_
    refine t_q (q_gtr rfl rfl) ?_
    refine t_nil ?_
    refine c_cond rfl ?_ ?_
    · intro hc4
      have hc4d := of_decide_eq_true hc4
      have h1 : 0 < d.fuse := of_decide_eq_true hc4
      have hq : qtl d.blow = ([.int .i64 (d.fuse - 1), .bool d.gone, .int .i64 (d.calls + 1)] : List Value) := by rw [qtl_eq]; show ([.int .i64 (if 0 < d.fuse then d.fuse - 1 else d.fuse), .bool (decide (d.fuse = 0)), .int .i64 (d.calls + 1)] : List Value) = _; rw [if_pos h1, decide_eq_false h0, hg]
      refine c_region ?_
      refine t_q (q_mv (.pointer _) rfl) ?_
      refine t_q (q_nilCheck rfl) ?_
      refine t_q (q_fieldAddr 64 Try.runUnderlying210 rfl Try.sizeOf3 (by decide) rfl rfl) ?_
      refine t_q (q_load1 Try.isAgg3 rfl (hS.cell (by repeat first | exact .here _ _ | assumption | apply Pick.there) ((fc_tl 0).trans rfl))) ?_
      refine t_q (q_sub_i64 rfl rfl (by omega)) ?_
      refine t_q (q_nilCheck rfl) ?_
      refine t_q (q_fieldAddr 64 Try.runUnderlying210 rfl Try.sizeOf3 (by decide) rfl rfl) ?_
      refine t_store (v := (.int _ _)) Try.sizeOf3 hS (by repeat first | exact .here _ _ | assumption | apply Pick.there) rfl rfl rfl rfl rfl (Nat.ble_eq_true_of_le (by show 0 + 64 + 1 ≤ (fcells F rw ++ _).length; rw [List.length_append, fcells_len]; show _ ≤ 64 + 3; omega)) (fun w hS => ?_)
      replace hS := hS.recast (show _ = blkA g 210 (fcells F rw ++ ([.int .i64 (d.fuse - 1), .bool d.gone, .int .i64 (d.calls + 1)] : List Value)) from congrArg (blkA g 210 ·) (st_tl 0 _))
      refine t_nil ?_
      refine c_seq ?_
      refine c_region ?_
      refine t_q (q_assign) ?_
      refine t_nil ?_
      refine c_ret ?_
      refine r_one rfl rfl ?_
      first
        | (rw [hq, decide_eq_false h0]; exact ⟨rfl, hS⟩)
        | (have hq : qtl d.blow = ([.int .i64 d.fuse, .bool true, .int .i64 (d.calls + 1)] : List Value) := by rw [qtl_eq]; show ([.int .i64 (if 0 < d.fuse then d.fuse - 1 else d.fuse), .bool (decide (d.fuse = 0)), .int .i64 (d.calls + 1)] : List Value) = _; rw [if_neg (by omega), decide_eq_true h0]
           rw [hq, decide_eq_true h0]; exact ⟨rfl, hS⟩)
    · intro hc4
      have hc4d := of_decide_eq_false hc4
      have h1 : ¬ 0 < d.fuse := of_decide_eq_false hc4
      have hq : qtl d.blow = ([.int .i64 d.fuse, .bool d.gone, .int .i64 (d.calls + 1)] : List Value) := by rw [qtl_eq]; show ([.int .i64 (if 0 < d.fuse then d.fuse - 1 else d.fuse), .bool (decide (d.fuse = 0)), .int .i64 (d.calls + 1)] : List Value) = _; rw [if_neg h1, decide_eq_false h0, hg]
      refine c_skip ?_
      refine c_seq ?_
      refine c_region ?_
      refine t_q (q_assign) ?_
      refine t_nil ?_
      refine c_ret ?_
      refine r_one rfl rfl ?_
      first
        | (rw [hq, decide_eq_false h0]; exact ⟨rfl, hS⟩)
        | (have hq : qtl d.blow = ([.int .i64 d.fuse, .bool true, .int .i64 (d.calls + 1)] : List Value) := by rw [qtl_eq]; show ([.int .i64 (if 0 < d.fuse then d.fuse - 1 else d.fuse), .bool (decide (d.fuse = 0)), .int .i64 (d.calls + 1)] : List Value) = _; rw [if_neg (by omega), decide_eq_true h0]
           rw [hq, decide_eq_true h0]; exact ⟨rfl, hS⟩)
set_option maxRecDepth 100000 in
theorem qapp_calls {w : World} {L R : List Asn} {g : Nat} {d : Dk} (hS : St W w L) (pk : Pick L (qdkA g d) R) {i : Int} {B : Option Addr} {m cm : Nat} {ys : List UInt8} (hG : DGood d) (hc : d.calls ≤ 1000000000) (hrd : ∀ w', St W w' R → RdB w' B ys) (hm : m = ys.length) (hml : ys.length ≤ 1000000000) : Calls Try.prog 157 #[.pointer (some ⟨g, 0, none⟩), .int .i64 i, .slice B m cm] w fun e w' => e = .returned (.int .i64 (tnE d i (apE d.F i.toNat ys.length))) ∧ St W w' (qdkA g (apD d i (apE d.F i.toNat ys.length) (apF d.F i.toNat ys)) :: R) := by
  replace hS := hS.pick pk
  clear pk
  obtain ⟨rw, hS⟩ := hS.qdk
  refine calls_of_wpE (args := [_, _, _]) Try.func157 rfl rfl rfl ?_
  refine c_seq ?_
  refine c_region ?_
  refine t_q (q_assign) ?_
  refine t_nil ?_
  refine c_seq ?_
  refine c_seq ?_
  refine c_region ?_
  refine t_q (q_mv (.pointer _) rfl) ?_
  refine t_q (q_nilCheck rfl) ?_
  refine t_q (q_fieldAddr 65 Try.runUnderlying210 rfl Try.sizeOf4 (by decide) rfl rfl) ?_
  refine t_q (q_load1 Try.isAgg4 rfl (hS.cell (by repeat first | exact .here _ _ | assumption | apply Pick.there) ((fc_tl 1).trans (qtl_1 d)))) ?_
  refine t_nil ?_
  refine c_cond rfl ?_ ?_
  · intro hc2
    have hgn := hc2
    refine c_seq ?_
    refine c_region ?_
    refine t_q (q_assign) ?_
    refine t_nil ?_
    refine c_ret ?_
    refine r_one rfl rfl ?_
    first
      | (obtain ⟨e1, _, e3⟩ := tn_gone (i := i) (c := apE d.F i.toNat ys.length) (F := apF d.F i.toNat ys) hgn; rw [e1, e3]; exact ⟨rfl, hS.unqdk⟩)
      | (obtain ⟨e1, _, e3⟩ := tn_out (c := apE d.F i.toNat ys.length) (F := apF d.F i.toNat ys) hgn hro; rw [e1, e3]; exact ⟨rfl, hS.unqdk⟩)
      | (obtain ⟨e1, _, e3⟩ := tn_bad (F := apF d.F i.toNat ys) hgn hri hcd; rw [e1, e3]; first | exact ⟨congrArg (fun n => Ending.returned (.int .i64 n)) hE.symm, hS.unqdk⟩ | exact ⟨hE ▸ rfl, hS.unqdk⟩)
      | (obtain ⟨e1, _, e3⟩ := tn_fuse (F := apF d.F i.toNat ys) hgn hri hcd hfu; rw [e1, e3]; exact ⟨rfl, hS⟩)
      | (obtain ⟨e1, _, e3⟩ := tn_ok (F := apF d.F i.toNat ys) hgn hri hcd hfu; rw [e1, e3]; exact ⟨rfl, hS⟩)
  · intro hc2
    have hgn := hc2
    refine c_skip ?_
    refine c_seq ?_
    refine c_seq ?_
    refine c_region ?_
    refine t_q (q_mv (.int _ _) rfl) ?_
    refine t_call Try.call195 (qis_calls) rfl ?_
    rintro e w ⟨rfl, hT⟩
    refine ⟨_, rfl, ?_⟩
    replace hS := hS.after hT
    refine t_q (q_not rfl) ?_
    refine t_nil ?_
    refine c_cond rfl ?_ ?_
    · intro hc4
      have hro : i < 0 ∨ 32 ≤ i := by have h := of_decide_eq_false (not_back hc4); omega
      refine c_seq ?_
      refine c_region ?_
      refine t_q (q_assign) ?_
      refine t_nil ?_
      refine c_ret ?_
      refine r_one rfl rfl ?_
      first
        | (obtain ⟨e1, _, e3⟩ := tn_gone (i := i) (c := apE d.F i.toNat ys.length) (F := apF d.F i.toNat ys) hgn; rw [e1, e3]; exact ⟨rfl, hS.unqdk⟩)
        | (obtain ⟨e1, _, e3⟩ := tn_out (c := apE d.F i.toNat ys.length) (F := apF d.F i.toNat ys) hgn hro; rw [e1, e3]; exact ⟨rfl, hS.unqdk⟩)
        | (obtain ⟨e1, _, e3⟩ := tn_bad (F := apF d.F i.toNat ys) hgn hri hcd; rw [e1, e3]; first | exact ⟨congrArg (fun n => Ending.returned (.int .i64 n)) hE.symm, hS.unqdk⟩ | exact ⟨hE ▸ rfl, hS.unqdk⟩)
        | (obtain ⟨e1, _, e3⟩ := tn_fuse (F := apF d.F i.toNat ys) hgn hri hcd hfu; rw [e1, e3]; exact ⟨rfl, hS⟩)
        | (obtain ⟨e1, _, e3⟩ := tn_ok (F := apF d.F i.toNat ys) hgn hri hcd hfu; rw [e1, e3]; exact ⟨rfl, hS⟩)
    · intro hc4
      have hri : 0 ≤ i ∧ i < 32 := of_decide_eq_true (not_back hc4)
      have hi : i.toNat < 32 := by omega
      refine c_skip ?_
      refine c_seq ?_
      refine c_seq ?_
      have hlen := hG.len i.toNat
      refine c_region ?_
      refine t_q (q_mv (.pointer _) rfl) ?_
      refine t_q (q_mv (.int _ _) rfl) ?_
      refine t_q (q_nilCheck rfl) ?_
      refine t_q (q_fieldAddr 0 Try.runUnderlying210 rfl Try.sizeOf208 (by decide) rfl rfl) ?_
      first | refine t_q (q_arr_nat Try.runUnderlying208 Try.sizeOf207 rfl rfl (by omega)) ?_ | refine t_q (q_arr Try.runUnderlying208 Try.sizeOf207 rfl rfl (by omega)) ?_
      refine t_q (q_fieldAddr 0 Try.runUnderlying207 rfl Try.sizeOf48 (by decide) rfl rfl) ?_
      refine t_q (q_load1 Try.isAgg48 rfl (hS.cell (by repeat first | exact .here _ _ | assumption | apply Pick.there) (fc_b hi))) ?_
      refine t_q (q_len_slice Try.runUnderlying48 rfl) ?_
      refine t_q (q_mv (.slice _ _ _) rfl) ?_
      refine t_q (q_len_slice Try.runUnderlying48 rfl) ?_
      refine t_q (q_add_i64 rfl rfl (by omega)) ?_
      refine t_q (q_gtr rfl rfl) ?_
      refine t_nil ?_
      refine c_cond rfl ?_ ?_
      · intro hc7
        have hc7d := of_decide_eq_true hc7
        have hE : apE d.F i.toNat ys.length = 21 := by unfold apE; rw [if_pos (by omega)]
        have hcd : apE d.F i.toNat ys.length ≠ 0 := by rw [hE]; decide
        refine c_seq ?_
        refine c_region ?_
        refine t_q (q_assign) ?_
        refine t_nil ?_
        refine c_ret ?_
        refine r_one rfl rfl ?_
        first
          | (obtain ⟨e1, _, e3⟩ := tn_gone (i := i) (c := apE d.F i.toNat ys.length) (F := apF d.F i.toNat ys) hgn; rw [e1, e3]; exact ⟨rfl, hS.unqdk⟩)
          | (obtain ⟨e1, _, e3⟩ := tn_out (c := apE d.F i.toNat ys.length) (F := apF d.F i.toNat ys) hgn hro; rw [e1, e3]; exact ⟨rfl, hS.unqdk⟩)
          | (obtain ⟨e1, _, e3⟩ := tn_bad (F := apF d.F i.toNat ys) hgn hri hcd; rw [e1, e3]; first | exact ⟨congrArg (fun n => Ending.returned (.int .i64 n)) hE.symm, hS.unqdk⟩ | exact ⟨hE ▸ rfl, hS.unqdk⟩)
          | (obtain ⟨e1, _, e3⟩ := tn_fuse (F := apF d.F i.toNat ys) hgn hri hcd hfu; rw [e1, e3]; exact ⟨rfl, hS⟩)
          | (obtain ⟨e1, _, e3⟩ := tn_ok (F := apF d.F i.toNat ys) hgn hri hcd hfu; rw [e1, e3]; exact ⟨rfl, hS⟩)
      · intro hc7
        have hc7d := of_decide_eq_false hc7
        have hcd : apE d.F i.toNat ys.length = 0 := by unfold apE; rw [if_neg (by omega)]
        refine c_skip ?_
        refine c_seq ?_
        refine c_region ?_
        refine t_q (q_mv (.pointer _) rfl) ?_
        refine t_call Try.call196 (qgoes_calls hS (by repeat first | exact .here _ _ | assumption | apply Pick.there) hgn hG.fuse ⟨hG.calls, hc⟩) rfl ?_
        rintro e w ⟨rfl, hS⟩
        refine ⟨_, rfl, ?_⟩
        refine t_q (q_as (.bool _) rfl) ?_
        refine t_nil ?_
        refine c_seq ?_
        replace hS := (hS.pick (A := packA (filesL d.F rw)) (by repeat first | exact .here _ _ | assumption | apply Pick.there)).file hi
        refine c_draw ?_
        refine d_keep (blkA g 210 (fcells d.F rw ++ qtl d.blow)) 18 [0, 1, 2, 3, 4, 5, 6, 7, 8, 9, 10, 11, 12, 13, 14, 15, 16, 17] [0, 1, 2, 3, 4, 5, 6, 7, 8, 9, 10, 11, 12, 13, 14, 15, 16, 17] hS rfl (by kernel_rfl) (by kernel_rfl) (by kernel_rfl) (by kernel_rfl) (fun hap hsel w hS => ?_)
        refine p_q hap hsel 0 rfl rfl ⟨_, hS.pick (by repeat first | exact .here _ _ | assumption | apply Pick.there)⟩ (fun w hI => q_mv (.pointer _) rfl) ?_
        refine p_q hap hsel 1 rfl rfl ⟨_, hS.pick (by repeat first | exact .here _ _ | assumption | apply Pick.there)⟩ (fun w hI => q_mv (.int _ _) rfl) ?_
        refine p_q hap hsel 3 rfl rfl ⟨_, hS.pick (by repeat first | exact .here _ _ | assumption | apply Pick.there)⟩ (fun w hI => q_mv (.pointer _) rfl) ?_
        refine p_q hap hsel 4 rfl rfl ⟨_, hS.pick (by repeat first | exact .here _ _ | assumption | apply Pick.there)⟩ (fun w hI => q_mv (.int _ _) rfl) ?_
        refine p_q hap hsel 5 rfl rfl ⟨_, hS.pick (by repeat first | exact .here _ _ | assumption | apply Pick.there)⟩ (fun w hI => q_nilCheck rfl) ?_
        refine p_q hap hsel 6 rfl rfl ⟨_, hS.pick (by repeat first | exact .here _ _ | assumption | apply Pick.there)⟩ (fun w hI => q_fieldAddr 0 Try.runUnderlying210 rfl Try.sizeOf208 (by decide) rfl rfl) ?_
        first | refine p_q hap hsel 7 rfl rfl ⟨_, hS.pick (by repeat first | exact .here _ _ | assumption | apply Pick.there)⟩ (fun w hI => q_arr_nat Try.runUnderlying208 Try.sizeOf207 rfl rfl (by omega)) ?_ | refine p_q hap hsel 7 rfl rfl ⟨_, hS.pick (by repeat first | exact .here _ _ | assumption | apply Pick.there)⟩ (fun w hI => q_arr Try.runUnderlying208 Try.sizeOf207 rfl rfl (by omega)) ?_
        refine p_q hap hsel 8 rfl rfl ⟨_, hS.pick (by repeat first | exact .here _ _ | assumption | apply Pick.there)⟩ (fun w hI => q_fieldAddr 0 Try.runUnderlying207 rfl Try.sizeOf48 (by decide) rfl rfl) ?_
        refine p_q hap hsel 9 rfl rfl ⟨_, hS.pick (by repeat first | exact .here _ _ | assumption | apply Pick.there)⟩ (fun w hI => q_load1 Try.isAgg48 rfl (hI.choose_spec.cell (by repeat first | exact .here _ _ | assumption | apply Pick.there) (fc_b hi))) ?_
        refine p_q hap hsel 11 rfl rfl ⟨_, hS.pick (by repeat first | exact .here _ _ | assumption | apply Pick.there)⟩ (fun w hI => q_mv (.slice _ _ _) rfl) ?_
        refine p_q hap hsel 13 rfl rfl ⟨_, hS.pick (by repeat first | exact .here _ _ | assumption | apply Pick.there)⟩ (fun w hI => q_nilCheck rfl) ?_
        refine p_q hap hsel 14 rfl rfl ⟨_, hS.pick (by repeat first | exact .here _ _ | assumption | apply Pick.there)⟩ (fun w hI => q_fieldAddr 0 Try.runUnderlying210 rfl Try.sizeOf208 (by decide) rfl rfl) ?_
        refine p_one 2 rfl (by kernel_rfl) ?_
        refine t_build_bytes [] Try.runUnderlying48 Try.sizeOf5 Try.zeroValue5 rfl rfl (by simp) (by decide) hS (fun g31 w hS => ?_)
        replace hS := hS.toC (bs := []) rfl
        refine t_nil ?_
        refine ⟨.inr ⟨_, hS.pick (by repeat first | exact .here _ _ | assumption | apply Pick.there)⟩, ?_⟩
        refine p_one 10 rfl (by kernel_rfl) ?_
        refine t_append_C Try.underlying48 (info_of Try.type5) rfl rfl rfl hS (.here _ _) (hS.drop.rowC_rd (by repeat first | exact .here _ _ | assumption | apply Pick.there)) rfl rfl rfl rfl (by simp; omega) (fun A39 c39 w hS => ?_)
        replace hS := hS.recast (congrArg (rowC 5 A39 c39) (List.nil_append (d.F i.toNat).1))
        obtain ⟨wx, hwx⟩ : ∃ x, x = w := ⟨_, rfl⟩
        refine t_nil ?_
        refine ⟨.inr ⟨_, hS.pick (by repeat first | exact .here _ _ | assumption | apply Pick.there)⟩, ?_⟩
        refine p_one 12 rfl (by kernel_rfl) ?_
        refine t_append_C Try.underlying48 (info_of Try.type5) rfl rfl rfl hS (.here _ _) (hrd _ ((((((hS.pick (A := blkA g 210 _) (by repeat first | exact .here _ _ | assumption | apply Pick.there)).pick (A := packA _) (by repeat first | exact .here _ _ | assumption | apply Pick.there)).pick (A := rowC 5 (rw i.toNat).1 _ _) (by repeat first | exact .here _ _ | assumption | apply Pick.there)).pick (A := rowC 5 A39 c39 _) (by repeat first | exact .here _ _ | assumption | apply Pick.there))).drop.drop.drop.drop)) rfl rfl (by rw [List.nil_append]) hm (by omega) (fun A41 c41 w hS => ?_)
        refine t_nil ?_
        refine ⟨.inr ⟨_, hS.pick (by repeat first | exact .here _ _ | assumption | apply Pick.there)⟩, ?_⟩
        first | refine p_q hap hsel 15 rfl rfl ⟨_, hS.pick (by repeat first | exact .here _ _ | assumption | apply Pick.there)⟩ (fun w hI => q_arr_nat Try.runUnderlying208 Try.sizeOf207 rfl rfl (by omega)) ?_ | refine p_q hap hsel 15 rfl rfl ⟨_, hS.pick (by repeat first | exact .here _ _ | assumption | apply Pick.there)⟩ (fun w hI => q_arr Try.runUnderlying208 Try.sizeOf207 rfl rfl (by omega)) ?_
        refine p_q hap hsel 16 rfl rfl ⟨_, hS.pick (by repeat first | exact .here _ _ | assumption | apply Pick.there)⟩ (fun w hI => q_fieldAddr 0 Try.runUnderlying207 rfl Try.sizeOf48 (by decide) rfl rfl) ?_
        refine p_one 17 rfl (by kernel_rfl) ?_
        refine t_store (v := (.slice _ _ _)) Try.sizeOf48 hS (by repeat first | exact .here _ _ | assumption | apply Pick.there) rfl rfl rfl rfl rfl (Nat.ble_eq_true_of_le (by show 0 + i.toNat * 2 + 0 + 1 ≤ (fcells _ _ ++ _).length; rw [List.length_append, fcells_len]; omega)) (fun w hS => ?_)
        refine t_nil ?_
        refine ⟨.inl (by kernel_rfl), ?_⟩
        refine p_end (by kernel_rfl) ?_
        refine c_seq ?_
        refine c_seq ?_
        replace hS := (hS.pick (A := rowC 5 (rw i.toNat).1 (rw i.toNat).2 _) (by repeat first | exact .here _ _ | assumption | apply Pick.there)).drop
        replace hS := (hS.pick (A := blkA g 210 _) (by repeat first | exact .here _ _ | assumption | apply Pick.there)).recast (congrArg (blkA g 210 ·) (st_b (b := (d.F i.toNat).1 ++ ys) hi rfl))
        replace hS := ((((hS.pick (A := packA _) (by repeat first | exact .here _ _ | assumption | apply Pick.there)).pick (A := rowC 5 A41 c41 _) (by repeat first | exact .here _ _ | assumption | apply Pick.there))).unfile hi (d.F i.toNat).2).pick (A := blkA g 210 _) (by repeat first | exact .here _ _ | assumption | apply Pick.there)
        replace hS := hS.unqdkF
        refine c_region ?_
        refine t_q (q_mv (.bool _) rfl) ?_
        refine t_nil ?_
        refine c_cond rfl ?_ ?_
        · intro hc11
          have hfu : d.fuse = 0 := of_decide_eq_true hc11
          refine c_seq ?_
          refine c_region ?_
          refine t_q (q_assign) ?_
          refine t_nil ?_
          refine c_ret ?_
          refine r_one rfl rfl ?_
          first
            | (obtain ⟨e1, _, e3⟩ := tn_gone (i := i) (c := apE d.F i.toNat ys.length) (F := apF d.F i.toNat ys) hgn; rw [e1, e3]; exact ⟨rfl, hS.unqdk⟩)
            | (obtain ⟨e1, _, e3⟩ := tn_out (c := apE d.F i.toNat ys.length) (F := apF d.F i.toNat ys) hgn hro; rw [e1, e3]; exact ⟨rfl, hS.unqdk⟩)
            | (obtain ⟨e1, _, e3⟩ := tn_bad (F := apF d.F i.toNat ys) hgn hri hcd; rw [e1, e3]; first | exact ⟨congrArg (fun n => Ending.returned (.int .i64 n)) hE.symm, hS.unqdk⟩ | exact ⟨hE ▸ rfl, hS.unqdk⟩)
            | (obtain ⟨e1, _, e3⟩ := tn_fuse (F := apF d.F i.toNat ys) hgn hri hcd hfu; rw [e1, e3]; exact ⟨rfl, hS⟩)
            | (obtain ⟨e1, _, e3⟩ := tn_ok (F := apF d.F i.toNat ys) hgn hri hcd hfu; rw [e1, e3]; exact ⟨rfl, hS⟩)
        · intro hc11
          have hfu : d.fuse ≠ 0 := of_decide_eq_false hc11
          refine c_skip ?_
          refine c_seq ?_
          refine c_region ?_
          refine t_q (q_assign) ?_
          refine t_nil ?_
          refine c_ret ?_
          refine r_one rfl rfl ?_
          first
            | (obtain ⟨e1, _, e3⟩ := tn_gone (i := i) (c := apE d.F i.toNat ys.length) (F := apF d.F i.toNat ys) hgn; rw [e1, e3]; exact ⟨rfl, hS.unqdk⟩)
            | (obtain ⟨e1, _, e3⟩ := tn_out (c := apE d.F i.toNat ys.length) (F := apF d.F i.toNat ys) hgn hro; rw [e1, e3]; exact ⟨rfl, hS.unqdk⟩)
            | (obtain ⟨e1, _, e3⟩ := tn_bad (F := apF d.F i.toNat ys) hgn hri hcd; rw [e1, e3]; first | exact ⟨congrArg (fun n => Ending.returned (.int .i64 n)) hE.symm, hS.unqdk⟩ | exact ⟨hE ▸ rfl, hS.unqdk⟩)
            | (obtain ⟨e1, _, e3⟩ := tn_fuse (F := apF d.F i.toNat ys) hgn hri hcd hfu; rw [e1, e3]; exact ⟨rfl, hS⟩)
            | (obtain ⟨e1, _, e3⟩ := tn_ok (F := apF d.F i.toNat ys) hgn hri hcd hfu; rw [e1, e3]; exact ⟨rfl, hS⟩)
end Go.Proofs.Ytcikoealneldkaa
