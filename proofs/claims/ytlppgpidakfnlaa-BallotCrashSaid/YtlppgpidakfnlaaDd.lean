/- Disks: one call's turn. -/
import Derived.Test.YtlppgpidakfnlaaDc
namespace Go.Proofs.Ytlppgpidakfnlaa
open Go Go.RowKit Go.Lib
variable {W : World}
def Dk.setF (d : Dk) (F : Nat → List UInt8 × Nat) : Dk := { d with F := F }
def tnE (d : Dk) (i c : Int) : Int := if d.gone = true then 70 else if i < 0 ∨ 32 ≤ i then 2 else if c ≠ 0 then c else if d.fuse = 0 then 70 else 0
def tnD (d : Dk) (i c : Int) (F : Nat → List UInt8 × Nat) : Dk := if d.gone = true ∨ (i < 0 ∨ 32 ≤ i) ∨ c ≠ 0 then d else if d.fuse = 0 then d.blow else d.blow.setF F
def apD (d : Dk) (i c : Int) (F : Nat → List UInt8 × Nat) : Dk := if d.gone = true ∨ (i < 0 ∨ 32 ≤ i) ∨ c ≠ 0 then d else d.blow.setF F
section
variable {d : Dk} {i c : Int} {F : Nat → List UInt8 × Nat}
theorem tn_gone (h : d.gone = true) : tnE d i c = 70 ∧ tnD d i c F = d ∧ apD d i c F = d := by
  unfold tnE tnD apD
  rw [if_pos h, if_pos (.inl h), if_pos (.inl h)]
  exact ⟨rfl, rfl, rfl⟩
theorem tn_out (h : d.gone = false) (ho : i < 0 ∨ 32 ≤ i) : tnE d i c = 2 ∧ tnD d i c F = d ∧ apD d i c F = d := by
  unfold tnE tnD apD
  rw [if_neg (by rw [h]; decide), if_pos ho, if_pos (.inr (.inl ho)), if_pos (.inr (.inl ho))]
  exact ⟨rfl, rfl, rfl⟩
theorem tn_bad (h : d.gone = false) (ho : 0 ≤ i ∧ i < 32) (hc : c ≠ 0) : tnE d i c = c ∧ tnD d i c F = d ∧ apD d i c F = d := by
  unfold tnE tnD apD
  rw [if_neg (by rw [h]; decide), if_neg (by omega), if_pos hc, if_pos (.inr (.inr hc)), if_pos (.inr (.inr hc))]
  exact ⟨rfl, rfl, rfl⟩
theorem tn_fuse (h : d.gone = false) (ho : 0 ≤ i ∧ i < 32) (hc : c = 0) (hf : d.fuse = 0) : tnE d i c = 70 ∧ tnD d i c F = d.blow ∧ apD d i c F = d.blow.setF F := by
  have hn : ¬ (d.gone = true ∨ (i < 0 ∨ 32 ≤ i) ∨ c ≠ 0) := by rw [h]; simp; omega
  unfold tnE tnD apD
  rw [if_neg (by rw [h]; decide), if_neg (by omega), if_neg (by omega), if_pos hf, if_neg hn, if_neg hn, if_pos hf]
  exact ⟨rfl, rfl, rfl⟩
theorem tn_ok (h : d.gone = false) (ho : 0 ≤ i ∧ i < 32) (hc : c = 0) (hf : d.fuse ≠ 0) : tnE d i c = 0 ∧ tnD d i c F = d.blow.setF F ∧ apD d i c F = d.blow.setF F := by
  have hn : ¬ (d.gone = true ∨ (i < 0 ∨ 32 ≤ i) ∨ c ≠ 0) := by rw [h]; simp; omega
  unfold tnE tnD apD
  rw [if_neg (by rw [h]; decide), if_neg (by omega), if_neg (by omega), if_neg hf, if_neg hn, if_neg hn, if_neg hf]
  exact ⟨rfl, rfl, rfl⟩
end
theorem St.undskF {w : World} {R : List Asn} {g : Nat} {d : Dk} {F : Nat → List UInt8 × Nat} {rw : Rws} (h : St W w (blkA g 157 (fcells F rw ++ dtl d) :: packA (filesL F rw) :: R)) : St W w (dskA g (d.setF F) :: R) := St.undsk (d := d.setF F) h
theorem dtl_0 (d : Dk) : (dtl d)[0]? = some (.bool (decide (0 ≤ d.fuse))) := rfl
theorem dtl_1 (d : Dk) : (dtl d)[1]? = some (.int .i64 (d.fuse.toNat : Int)) := rfl
theorem dtl_2 (d : Dk) : (dtl d)[2]? = some (.bool d.gone) := rfl
theorem dtl_3 (d : Dk) : (dtl d)[3]? = some (.int .i64 d.calls) := rfl
attribute [local irreducible] blkA rowA rdrA rowC packA fcells dtl
set_option maxRecDepth 100000 in
theorem turn_nil {i : Int} {f1 f2 : Value} : Calls Try.prog 91 #[.pointer none, .int .i64 i, f1, f2] W fun e w' => e = .returned (.int .i64 1) ∧ St W w' [] := by
  have hS := St.init W
  refine calls_of_wpE (args := [_, _, _, _]) Try.func91 rfl rfl rfl ?_
  refine c_seq ?_
  refine c_region ?_
  refine t_q (q_assign) ?_
  refine t_nil ?_
  refine c_seq ?_
  refine c_region ?_
  refine t_q (q_mv (.pointer _) rfl) ?_
  refine t_q (q_mv (.int _ _) rfl) ?_
  refine t_call Try.call93 (at_nil) rfl ?_
  rintro e w ⟨rfl, hT⟩
  refine ⟨_, rfl, ?_⟩
  replace hS := hS.after hT
  refine t_q (q_as (.pointer _) rfl) ?_
  refine t_nil ?_
  refine c_seq ?_
  refine c_block ?_
  refine c_seq ?_
  refine c_region ?_
  refine t_q (q_mv (.pointer _) rfl) ?_
  refine t_q (q_eql_ptr_nil Try.runUnderlying58 rfl rfl) ?_
  refine t_q (q_as (.bool _) rfl) ?_
  refine t_nil ?_
  refine c_cond_t rfl rfl ?_
  refine c_seq ?_
  refine c_region ?_
  refine t_q (q_assign) ?_
  refine t_nil ?_
  refine c_ret ?_
  refine r_one rfl rfl ?_
  exact ⟨rfl, hS⟩
set_option maxRecDepth 100000 in
theorem turn_out {w : World} {L R : List Asn} {g : Nat} {d : Dk} {i : Int} {f1 f2 : Value} (hS : St W w L) (pk : Pick L (dskA g d) R) (ho : i < 0 ∨ 32 ≤ i) : Calls Try.prog 91 #[.pointer (some ⟨g, 0, none⟩), .int .i64 i, f1, f2] w fun e w' => e = .returned (.int .i64 (if d.gone = true then 70 else 2)) ∧ St W w' (dskA g d :: R) := by
  replace hS := hS.pick pk
  clear pk
  obtain ⟨rw, hS⟩ := hS.dsk
  refine calls_of_wpE (args := [_, _, _, _]) Try.func91 rfl rfl rfl ?_
  refine c_seq ?_
  refine c_region ?_
  refine t_q (q_assign) ?_
  refine t_nil ?_
  refine c_seq ?_
  refine c_region ?_
  refine t_q (q_mv (.pointer _) rfl) ?_
  refine t_q (q_mv (.int _ _) rfl) ?_
  refine t_call Try.call93 (at_out ho) rfl ?_
  rintro e w ⟨rfl, hT⟩
  refine ⟨_, rfl, ?_⟩
  replace hS := hS.after hT
  refine t_q (q_as (.pointer _) rfl) ?_
  refine t_nil ?_
  refine c_seq ?_
  refine c_block ?_
  refine c_seq ?_
  refine c_region ?_
  refine t_q (q_mv (.pointer _) rfl) ?_
  refine t_q (q_eql_ptr_nil Try.runUnderlying58 rfl rfl) ?_
  refine t_q (q_as (.bool _) rfl) ?_
  refine t_nil ?_
  refine c_cond_f rfl rfl ?_
  refine c_seq ?_
  refine c_region ?_
  refine t_q (q_mv (.pointer _) rfl) ?_
  refine t_q (q_nilCheck rfl) ?_
  refine t_q (q_fieldAddr 66 Try.runUnderlying157 rfl Try.sizeOf4 (by decide) rfl rfl) ?_
  refine t_q (q_load1 Try.isAgg4 rfl (hS.cell (by repeat first | exact .here _ _ | assumption | apply Pick.there) ((fc_tl 2).trans (dtl_2 d)))) ?_
  refine t_q (q_as (.bool _) rfl) ?_
  refine t_nil ?_
  refine c_cond rfl ?_ ?_
  · intro hc3
    have hgn := hc3
    refine c_seq ?_
    refine c_region ?_
    refine t_q (q_assign) ?_
    refine t_nil ?_
    refine c_ret ?_
    refine r_one rfl rfl ?_
    rw [hgn]
    exact ⟨rfl, hS.undsk⟩
  · intro hc3
    have hgn := hc3
    refine c_seq ?_
    refine c_region ?_
    refine t_q (q_mv (.pointer _) rfl) ?_
    refine t_q (q_eql_ptr_nil Try.runUnderlying159 rfl rfl) ?_
    refine t_q (q_as (.bool _) rfl) ?_
    refine t_nil ?_
    refine c_cond_t rfl rfl ?_
    refine c_seq ?_
    refine c_region ?_
    refine t_q (q_assign) ?_
    refine t_nil ?_
    refine c_ret ?_
    refine r_one rfl rfl ?_
    rw [hgn]
    exact ⟨rfl, hS.undsk⟩
set_option maxRecDepth 100000 in
theorem turnA_in {w : World} {R : List Asn} {g : Nat} {d : Dk} {i : Int} {g5 g3 g7 m cm : Nat} {B : Option Addr} {ys : List UInt8} (hS : St W w (dskA g d :: blkA g5 25 [.slice B m cm] :: blkA g3 58 [.pointer (some ⟨g, 0, none⟩)] :: blkA g7 160 [.func (.func 90) #[] #[.pointer (some ⟨g5, 0, none⟩)]] :: R)) (ho : 0 ≤ i ∧ i < 32) (hG : DGood d) (hc : d.calls ≤ 1000000000) (hrd : ∀ w', St W w' R → RdB w' B ys) (hm : m = ys.length) (hml : ys.length ≤ 1000000000) :
  Calls Try.prog 91 #[.pointer (some ⟨g, 0, none⟩), .int .i64 i, .func (.func 92) #[] #[.pointer (some ⟨g5, 0, none⟩), .pointer (some ⟨g3, 0, none⟩), .pointer (some ⟨g7, 0, none⟩)], .func (.func 90) #[] #[.pointer (some ⟨g5, 0, none⟩)]] w fun e w' => e = .returned (.int .i64 (tnE d i (apE d.F i.toNat ys.length))) ∧ St W w' (dskA g (apD d i (apE d.F i.toNat ys.length) (apF d.F i.toNat ys)) :: blkA g5 25 [.slice B m cm] :: blkA g3 58 [.pointer (some ⟨g, 0, none⟩)] :: blkA g7 160 [.func (.func 90) #[] #[.pointer (some ⟨g5, 0, none⟩)]] :: R) := by
  obtain ⟨rw, hS⟩ := hS.dsk
  have hi : i.toNat < 32 := by omega
  have hgF : FGood d.F := fun j => ⟨hG.sync j, hG.len j⟩
  refine calls_of_wpE (args := [_, _, _, _]) Try.func91 rfl rfl rfl ?_
  refine c_seq ?_
  refine c_region ?_
  refine t_q (q_assign) ?_
  refine t_nil ?_
  refine c_seq ?_
  refine c_region ?_
  refine t_q (q_mv (.pointer _) rfl) ?_
  refine t_q (q_mv (.int _ _) rfl) ?_
  refine t_call Try.call93 (at_in ho) rfl ?_
  rintro e w ⟨rfl, hT⟩
  refine ⟨_, rfl, ?_⟩
  replace hS := hS.after hT
  refine t_q (q_as (.pointer _) rfl) ?_
  refine t_nil ?_
  refine c_seq ?_
  refine c_block ?_
  refine c_seq ?_
  refine c_region ?_
  refine t_q (q_mv (.pointer _) rfl) ?_
  refine t_q (q_eql_ptr_nil Try.runUnderlying58 rfl rfl) ?_
  refine t_q (q_as (.bool _) rfl) ?_
  refine t_nil ?_
  refine c_cond_f rfl rfl ?_
  refine c_seq ?_
  refine c_region ?_
  refine t_q (q_mv (.pointer _) rfl) ?_
  refine t_q (q_nilCheck rfl) ?_
  refine t_q (q_fieldAddr 66 Try.runUnderlying157 rfl Try.sizeOf4 (by decide) rfl rfl) ?_
  refine t_q (q_load1 Try.isAgg4 rfl (hS.cell (by repeat first | exact .here _ _ | assumption | apply Pick.there) ((fc_tl 2).trans (dtl_2 d)))) ?_
  refine t_q (q_as (.bool _) rfl) ?_
  refine t_nil ?_
  refine c_cond rfl ?_ ?_
  · intro hc3
    have hgn := hc3
    refine c_seq ?_
    refine c_region ?_
    refine t_q (q_assign) ?_
    refine t_nil ?_
    refine c_ret ?_
    refine r_one rfl rfl ?_
    first
      | (obtain ⟨e1, e2, e3⟩ := tn_gone (i := i) (c := apE d.F i.toNat ys.length) (F := apF d.F i.toNat ys) hgn
         rw [e1, e3]; exact ⟨rfl, hS.undsk⟩)
      | (obtain ⟨e1, e2, e3⟩ := tn_bad (F := apF d.F i.toNat ys) hgn ho hcd
         obtain rfl := hF2 hcd
         rw [e1, e3]; exact ⟨rfl, ((((((hS.pick (A := blkA g7 160 [.func (.func 90) #[] #[.pointer (some ⟨g5, 0, none⟩)]]) (by repeat first | exact .here _ _ | assumption | apply Pick.there)).pick (A := blkA g3 58 [.pointer (some ⟨g, 0, none⟩)]) (by repeat first | exact .here _ _ | assumption | apply Pick.there)).pick (A := blkA g5 25 [.slice B m cm]) (by repeat first | exact .here _ _ | assumption | apply Pick.there)).pick (A := packA _) (by repeat first | exact .here _ _ | assumption | apply Pick.there)).pick (A := blkA g 157 _) (by repeat first | exact .here _ _ | assumption | apply Pick.there))).undsk⟩)
      | (obtain ⟨e1, e2, e3⟩ := tn_fuse (F := apF d.F i.toNat ys) hgn ho hcd hfu
         obtain rfl := (hF1 hcd).trans (if_pos hfu)
         rw [e1, e3]; exact ⟨rfl, ((((((hS.pick (A := blkA g7 160 [.func (.func 90) #[] #[.pointer (some ⟨g5, 0, none⟩)]]) (by repeat first | exact .here _ _ | assumption | apply Pick.there)).pick (A := blkA g3 58 [.pointer (some ⟨g, 0, none⟩)]) (by repeat first | exact .here _ _ | assumption | apply Pick.there)).pick (A := blkA g5 25 [.slice B m cm]) (by repeat first | exact .here _ _ | assumption | apply Pick.there)).pick (A := packA _) (by repeat first | exact .here _ _ | assumption | apply Pick.there)).pick (A := blkA g 157 _) (by repeat first | exact .here _ _ | assumption | apply Pick.there))).undskF⟩)
      | (obtain ⟨e1, e2, e3⟩ := tn_ok (F := apF d.F i.toNat ys) hgn ho hcd hfu
         rw [e1, e3]; exact ⟨rfl, ((((((hS.pick (A := blkA g7 160 [.func (.func 90) #[] #[.pointer (some ⟨g5, 0, none⟩)]]) (by repeat first | exact .here _ _ | assumption | apply Pick.there)).pick (A := blkA g3 58 [.pointer (some ⟨g, 0, none⟩)]) (by repeat first | exact .here _ _ | assumption | apply Pick.there)).pick (A := blkA g5 25 [.slice B m cm]) (by repeat first | exact .here _ _ | assumption | apply Pick.there)).pick (A := packA _) (by repeat first | exact .here _ _ | assumption | apply Pick.there)).pick (A := blkA g 157 _) (by repeat first | exact .here _ _ | assumption | apply Pick.there))).undskF⟩)
  · intro hc3
    have hgn := hc3
    refine c_seq ?_
    refine c_region ?_
    refine t_q (q_mv (.pointer _) rfl) ?_
    refine t_q (q_eql_ptr_nil Try.runUnderlying159 rfl rfl) ?_
    refine t_q (q_as (.bool _) rfl) ?_
    refine t_nil ?_
    refine c_cond_f rfl rfl ?_
    refine c_skip ?_
    refine c_seq ?_
    refine c_seq ?_
    refine c_region ?_
    refine t_q (q_mv (.func _ _ _) rfl) ?_
    refine t_q (q_mv (.pointer _) rfl) ?_
    refine t_callv Try.call92 rfl (apc_calls hi ((((((hS.pick (A := blkA g7 160 [.func (.func 90) #[] #[.pointer (some ⟨g5, 0, none⟩)]]) (by repeat first | exact .here _ _ | assumption | apply Pick.there)).pick (A := blkA g3 58 [.pointer (some ⟨g, 0, none⟩)]) (by repeat first | exact .here _ _ | assumption | apply Pick.there)).pick (A := blkA g5 25 [.slice B m cm]) (by repeat first | exact .here _ _ | assumption | apply Pick.there)).pick (A := packA (filesL d.F rw)) (by repeat first | exact .here _ _ | assumption | apply Pick.there)).pick (A := blkA g 157 (fcells d.F rw ++ dtl d)) (by repeat first | exact .here _ _ | assumption | apply Pick.there))) hrd hm hgF hml) rfl ?_
    rintro e w ⟨rw', F', rfl, hF1, hF2, hS⟩
    refine ⟨_, rfl, ?_⟩
    refine t_q (q_as (.int _ _) rfl) ?_
    refine t_nil ?_
    refine c_seq ?_
    refine c_region ?_
    refine t_q (q_mv (.int _ _) rfl) ?_
    refine t_q (q_neq rfl rfl) ?_
    refine t_nil ?_
    refine c_cond rfl ?_ ?_
    · intro hc6
      have hc6d := of_decide_eq_true hc6
      have hcd : apE d.F i.toNat ys.length ≠ 0 := by simpa using hc6
      refine c_seq ?_
      refine c_region ?_
      refine t_q (q_mv (.int _ _) rfl) ?_
      refine t_q (q_as (.int _ _) rfl) ?_
      refine t_nil ?_
      refine c_ret ?_
      refine r_one rfl rfl ?_
      first
        | (obtain ⟨e1, e2, e3⟩ := tn_gone (i := i) (c := apE d.F i.toNat ys.length) (F := apF d.F i.toNat ys) hgn
           rw [e1, e3]; exact ⟨rfl, hS.undsk⟩)
        | (obtain ⟨e1, e2, e3⟩ := tn_bad (F := apF d.F i.toNat ys) hgn ho hcd
           obtain rfl := hF2 hcd
           rw [e1, e3]; exact ⟨rfl, ((((((hS.pick (A := blkA g7 160 [.func (.func 90) #[] #[.pointer (some ⟨g5, 0, none⟩)]]) (by repeat first | exact .here _ _ | assumption | apply Pick.there)).pick (A := blkA g3 58 [.pointer (some ⟨g, 0, none⟩)]) (by repeat first | exact .here _ _ | assumption | apply Pick.there)).pick (A := blkA g5 25 [.slice B m cm]) (by repeat first | exact .here _ _ | assumption | apply Pick.there)).pick (A := packA _) (by repeat first | exact .here _ _ | assumption | apply Pick.there)).pick (A := blkA g 157 _) (by repeat first | exact .here _ _ | assumption | apply Pick.there))).undsk⟩)
        | (obtain ⟨e1, e2, e3⟩ := tn_fuse (F := apF d.F i.toNat ys) hgn ho hcd hfu
           obtain rfl := (hF1 hcd).trans (if_pos hfu)
           rw [e1, e3]; exact ⟨rfl, ((((((hS.pick (A := blkA g7 160 [.func (.func 90) #[] #[.pointer (some ⟨g5, 0, none⟩)]]) (by repeat first | exact .here _ _ | assumption | apply Pick.there)).pick (A := blkA g3 58 [.pointer (some ⟨g, 0, none⟩)]) (by repeat first | exact .here _ _ | assumption | apply Pick.there)).pick (A := blkA g5 25 [.slice B m cm]) (by repeat first | exact .here _ _ | assumption | apply Pick.there)).pick (A := packA _) (by repeat first | exact .here _ _ | assumption | apply Pick.there)).pick (A := blkA g 157 _) (by repeat first | exact .here _ _ | assumption | apply Pick.there))).undskF⟩)
        | (obtain ⟨e1, e2, e3⟩ := tn_ok (F := apF d.F i.toNat ys) hgn ho hcd hfu
           rw [e1, e3]; exact ⟨rfl, ((((((hS.pick (A := blkA g7 160 [.func (.func 90) #[] #[.pointer (some ⟨g5, 0, none⟩)]]) (by repeat first | exact .here _ _ | assumption | apply Pick.there)).pick (A := blkA g3 58 [.pointer (some ⟨g, 0, none⟩)]) (by repeat first | exact .here _ _ | assumption | apply Pick.there)).pick (A := blkA g5 25 [.slice B m cm]) (by repeat first | exact .here _ _ | assumption | apply Pick.there)).pick (A := packA _) (by repeat first | exact .here _ _ | assumption | apply Pick.there)).pick (A := blkA g 157 _) (by repeat first | exact .here _ _ | assumption | apply Pick.there))).undskF⟩)
    · intro hc6
      have hc6d := of_decide_eq_false hc6
      have hcd : apE d.F i.toNat ys.length = 0 := by simpa using hc6
      refine c_skip ?_
      refine c_seq ?_
      refine c_region ?_
      refine t_q (q_mv (.pointer _) rfl) ?_
      refine t_q (q_makeFunc_b rfl rfl) ?_
      refine t_q (q_as (.func _ _ _) rfl) ?_
      refine t_nil ?_
      refine c_seq ?_
      refine c_seq ?_
      refine c_region ?_
      refine t_q (q_mv (.func _ _ _) rfl) ?_
      refine t_callv_b Try.call134 rfl (blow_calls hS (by repeat first | exact .here _ _ | assumption | apply Pick.there) hgn hG.fuse ⟨hG.calls, hc⟩) rfl ?_
      rintro e w ⟨rfl, hS⟩
      refine ⟨_, rfl, ?_⟩
      refine t_nil ?_
      refine c_cond rfl ?_ ?_
      · intro hc8
        have hfu : d.fuse = 0 := of_decide_eq_true hc8
        refine c_seq ?_
        refine c_region ?_
        refine t_q (q_assign) ?_
        refine t_nil ?_
        refine c_ret ?_
        refine r_one rfl rfl ?_
        first
          | (obtain ⟨e1, e2, e3⟩ := tn_gone (i := i) (c := apE d.F i.toNat ys.length) (F := apF d.F i.toNat ys) hgn
             rw [e1, e3]; exact ⟨rfl, hS.undsk⟩)
          | (obtain ⟨e1, e2, e3⟩ := tn_bad (F := apF d.F i.toNat ys) hgn ho hcd
             obtain rfl := hF2 hcd
             rw [e1, e3]; exact ⟨rfl, ((((((hS.pick (A := blkA g7 160 [.func (.func 90) #[] #[.pointer (some ⟨g5, 0, none⟩)]]) (by repeat first | exact .here _ _ | assumption | apply Pick.there)).pick (A := blkA g3 58 [.pointer (some ⟨g, 0, none⟩)]) (by repeat first | exact .here _ _ | assumption | apply Pick.there)).pick (A := blkA g5 25 [.slice B m cm]) (by repeat first | exact .here _ _ | assumption | apply Pick.there)).pick (A := packA _) (by repeat first | exact .here _ _ | assumption | apply Pick.there)).pick (A := blkA g 157 _) (by repeat first | exact .here _ _ | assumption | apply Pick.there))).undsk⟩)
          | (obtain ⟨e1, e2, e3⟩ := tn_fuse (F := apF d.F i.toNat ys) hgn ho hcd hfu
             obtain rfl := (hF1 hcd).trans (if_pos hfu)
             rw [e1, e3]; exact ⟨rfl, ((((((hS.pick (A := blkA g7 160 [.func (.func 90) #[] #[.pointer (some ⟨g5, 0, none⟩)]]) (by repeat first | exact .here _ _ | assumption | apply Pick.there)).pick (A := blkA g3 58 [.pointer (some ⟨g, 0, none⟩)]) (by repeat first | exact .here _ _ | assumption | apply Pick.there)).pick (A := blkA g5 25 [.slice B m cm]) (by repeat first | exact .here _ _ | assumption | apply Pick.there)).pick (A := packA _) (by repeat first | exact .here _ _ | assumption | apply Pick.there)).pick (A := blkA g 157 _) (by repeat first | exact .here _ _ | assumption | apply Pick.there))).undskF⟩)
          | (obtain ⟨e1, e2, e3⟩ := tn_ok (F := apF d.F i.toNat ys) hgn ho hcd hfu
             rw [e1, e3]; exact ⟨rfl, ((((((hS.pick (A := blkA g7 160 [.func (.func 90) #[] #[.pointer (some ⟨g5, 0, none⟩)]]) (by repeat first | exact .here _ _ | assumption | apply Pick.there)).pick (A := blkA g3 58 [.pointer (some ⟨g, 0, none⟩)]) (by repeat first | exact .here _ _ | assumption | apply Pick.there)).pick (A := blkA g5 25 [.slice B m cm]) (by repeat first | exact .here _ _ | assumption | apply Pick.there)).pick (A := packA _) (by repeat first | exact .here _ _ | assumption | apply Pick.there)).pick (A := blkA g 157 _) (by repeat first | exact .here _ _ | assumption | apply Pick.there))).undskF⟩)
      · intro hc8
        have hfu : d.fuse ≠ 0 := of_decide_eq_false hc8
        obtain rfl := (hF1 hcd).trans (if_neg hfu)
        refine c_skip ?_
        refine c_seq ?_
        refine c_region ?_
        refine t_q (q_mv (.func _ _ _) rfl) ?_
        refine t_q (q_mv (.pointer _) rfl) ?_
        refine t_callv Try.call90 rfl (apa_calls hi ((((hS.pick (A := blkA g5 25 [.slice B m cm]) (by repeat first | exact .here _ _ | assumption | apply Pick.there)).pick (A := packA _) (by repeat first | exact .here _ _ | assumption | apply Pick.there)).pick (A := blkA g 157 _) (by repeat first | exact .here _ _ | assumption | apply Pick.there))) (fun w h => hrd w h.drop.drop) hm (by unfold apE at hcd; split at hcd; cases hcd; omega)) rfl ?_
        rintro e w ⟨rw2, rfl, hS⟩
        refine ⟨_, rfl, ?_⟩
        refine t_nil ?_
        refine c_seq ?_
        refine c_region ?_
        refine t_q (q_assign) ?_
        refine t_nil ?_
        refine c_ret ?_
        refine r_one rfl rfl ?_
        first
          | (obtain ⟨e1, e2, e3⟩ := tn_gone (i := i) (c := apE d.F i.toNat ys.length) (F := apF d.F i.toNat ys) hgn
             rw [e1, e3]; exact ⟨rfl, hS.undsk⟩)
          | (obtain ⟨e1, e2, e3⟩ := tn_bad (F := apF d.F i.toNat ys) hgn ho hcd
             obtain rfl := hF2 hcd
             rw [e1, e3]; exact ⟨rfl, ((((((hS.pick (A := blkA g7 160 [.func (.func 90) #[] #[.pointer (some ⟨g5, 0, none⟩)]]) (by repeat first | exact .here _ _ | assumption | apply Pick.there)).pick (A := blkA g3 58 [.pointer (some ⟨g, 0, none⟩)]) (by repeat first | exact .here _ _ | assumption | apply Pick.there)).pick (A := blkA g5 25 [.slice B m cm]) (by repeat first | exact .here _ _ | assumption | apply Pick.there)).pick (A := packA _) (by repeat first | exact .here _ _ | assumption | apply Pick.there)).pick (A := blkA g 157 _) (by repeat first | exact .here _ _ | assumption | apply Pick.there))).undsk⟩)
          | (obtain ⟨e1, e2, e3⟩ := tn_fuse (F := apF d.F i.toNat ys) hgn ho hcd hfu
             obtain rfl := (hF1 hcd).trans (if_pos hfu)
             rw [e1, e3]; exact ⟨rfl, ((((((hS.pick (A := blkA g7 160 [.func (.func 90) #[] #[.pointer (some ⟨g5, 0, none⟩)]]) (by repeat first | exact .here _ _ | assumption | apply Pick.there)).pick (A := blkA g3 58 [.pointer (some ⟨g, 0, none⟩)]) (by repeat first | exact .here _ _ | assumption | apply Pick.there)).pick (A := blkA g5 25 [.slice B m cm]) (by repeat first | exact .here _ _ | assumption | apply Pick.there)).pick (A := packA _) (by repeat first | exact .here _ _ | assumption | apply Pick.there)).pick (A := blkA g 157 _) (by repeat first | exact .here _ _ | assumption | apply Pick.there))).undskF⟩)
          | (obtain ⟨e1, e2, e3⟩ := tn_ok (F := apF d.F i.toNat ys) hgn ho hcd hfu
             rw [e1, e3]; exact ⟨rfl, ((((((hS.pick (A := blkA g7 160 [.func (.func 90) #[] #[.pointer (some ⟨g5, 0, none⟩)]]) (by repeat first | exact .here _ _ | assumption | apply Pick.there)).pick (A := blkA g3 58 [.pointer (some ⟨g, 0, none⟩)]) (by repeat first | exact .here _ _ | assumption | apply Pick.there)).pick (A := blkA g5 25 [.slice B m cm]) (by repeat first | exact .here _ _ | assumption | apply Pick.there)).pick (A := packA _) (by repeat first | exact .here _ _ | assumption | apply Pick.there)).pick (A := blkA g 157 _) (by repeat first | exact .here _ _ | assumption | apply Pick.there))).undskF⟩)
set_option maxRecDepth 100000 in
theorem turnS_in {w : World} {R : List Asn} {g : Nat} {d : Dk} {i : Int}  (hS : St W w (dskA g d :: R)) (ho : 0 ≤ i ∧ i < 32) (hG : DGood d) (hc : d.calls ≤ 1000000000)  :
  Calls Try.prog 91 #[.pointer (some ⟨g, 0, none⟩), .int .i64 i, .func (.func 94) #[] #[], .func (.func 95) #[] #[]] w fun e w' => e = .returned (.int .i64 (tnE d i (0))) ∧ St W w' (dskA g (tnD d i (0) (syF d.F i.toNat)) :: R) := by
  obtain ⟨rw, hS⟩ := hS.dsk
  have hi : i.toNat < 32 := by omega
  have hgF : FGood d.F := fun j => ⟨hG.sync j, hG.len j⟩
  refine calls_of_wpE (args := [_, _, _, _]) Try.func91 rfl rfl rfl ?_
  refine c_seq ?_
  refine c_region ?_
  refine t_q (q_assign) ?_
  refine t_nil ?_
  refine c_seq ?_
  refine c_region ?_
  refine t_q (q_mv (.pointer _) rfl) ?_
  refine t_q (q_mv (.int _ _) rfl) ?_
  refine t_call Try.call93 (at_in ho) rfl ?_
  rintro e w ⟨rfl, hT⟩
  refine ⟨_, rfl, ?_⟩
  replace hS := hS.after hT
  refine t_q (q_as (.pointer _) rfl) ?_
  refine t_nil ?_
  refine c_seq ?_
  refine c_block ?_
  refine c_seq ?_
  refine c_region ?_
  refine t_q (q_mv (.pointer _) rfl) ?_
  refine t_q (q_eql_ptr_nil Try.runUnderlying58 rfl rfl) ?_
  refine t_q (q_as (.bool _) rfl) ?_
  refine t_nil ?_
  refine c_cond_f rfl rfl ?_
  refine c_seq ?_
  refine c_region ?_
  refine t_q (q_mv (.pointer _) rfl) ?_
  refine t_q (q_nilCheck rfl) ?_
  refine t_q (q_fieldAddr 66 Try.runUnderlying157 rfl Try.sizeOf4 (by decide) rfl rfl) ?_
  refine t_q (q_load1 Try.isAgg4 rfl (hS.cell (by repeat first | exact .here _ _ | assumption | apply Pick.there) ((fc_tl 2).trans (dtl_2 d)))) ?_
  refine t_q (q_as (.bool _) rfl) ?_
  refine t_nil ?_
  refine c_cond rfl ?_ ?_
  · intro hc3
    have hgn := hc3
    refine c_seq ?_
    refine c_region ?_
    refine t_q (q_assign) ?_
    refine t_nil ?_
    refine c_ret ?_
    refine r_one rfl rfl ?_
    first
      | (obtain ⟨e1, e2, e3⟩ := tn_gone (i := i) (c := 0) (F := syF d.F i.toNat) hgn
         rw [e1, e2]; exact ⟨rfl, hS.undsk⟩)
      | (obtain ⟨e1, e2, e3⟩ := tn_bad (F := syF d.F i.toNat) hgn ho hcd
         skip
         rw [e1, e2]; exact ⟨rfl, (((hS.pick (A := packA _) (by repeat first | exact .here _ _ | assumption | apply Pick.there)).pick (A := blkA g 157 _) (by repeat first | exact .here _ _ | assumption | apply Pick.there))).undsk⟩)
      | (obtain ⟨e1, e2, e3⟩ := tn_fuse (F := syF d.F i.toNat) hgn ho hcd hfu
         skip
         rw [e1, e2]; exact ⟨rfl, (((hS.pick (A := packA _) (by repeat first | exact .here _ _ | assumption | apply Pick.there)).pick (A := blkA g 157 _) (by repeat first | exact .here _ _ | assumption | apply Pick.there))).undsk⟩)
      | (obtain ⟨e1, e2, e3⟩ := tn_ok (F := syF d.F i.toNat) hgn ho hcd hfu
         rw [e1, e2]; exact ⟨rfl, (((hS.pick (A := packA _) (by repeat first | exact .here _ _ | assumption | apply Pick.there)).pick (A := blkA g 157 _) (by repeat first | exact .here _ _ | assumption | apply Pick.there))).undskF⟩)
  · intro hc3
    have hgn := hc3
    refine c_seq ?_
    refine c_region ?_
    refine t_q (q_mv (.pointer _) rfl) ?_
    refine t_q (q_eql_ptr_nil Try.runUnderlying159 rfl rfl) ?_
    refine t_q (q_as (.bool _) rfl) ?_
    refine t_nil ?_
    refine c_cond_f rfl rfl ?_
    refine c_skip ?_
    refine c_seq ?_
    refine c_seq ?_
    refine c_region ?_
    refine t_q (q_mv (.func _ _ _) rfl) ?_
    refine t_q (q_mv (.pointer _) rfl) ?_
    refine t_callv Try.call94 rfl (always_calls) rfl ?_
    rintro e w ⟨rfl, hT⟩
    refine ⟨_, rfl, ?_⟩
    replace hS := hS.after hT
    refine t_q (q_as (.int _ _) rfl) ?_
    refine t_nil ?_
    refine c_seq ?_
    refine c_region ?_
    refine t_q (q_mv (.int _ _) rfl) ?_
    refine t_q (q_neq rfl rfl) ?_
    refine t_nil ?_
    refine c_cond rfl ?_ ?_
    · intro hc6
      have hc6d := of_decide_eq_true hc6
      exfalso; omega
    · intro hc6
      have hc6d := of_decide_eq_false hc6
      have hcd : (0 : Int) = 0 := rfl
      refine c_skip ?_
      refine c_seq ?_
      refine c_region ?_
      refine t_q (q_mv (.pointer _) rfl) ?_
      refine t_q (q_makeFunc_b rfl rfl) ?_
      refine t_q (q_as (.func _ _ _) rfl) ?_
      refine t_nil ?_
      refine c_seq ?_
      refine c_seq ?_
      refine c_region ?_
      refine t_q (q_mv (.func _ _ _) rfl) ?_
      refine t_callv_b Try.call134 rfl (blow_calls hS (by repeat first | exact .here _ _ | assumption | apply Pick.there) hgn hG.fuse ⟨hG.calls, hc⟩) rfl ?_
      rintro e w ⟨rfl, hS⟩
      refine ⟨_, rfl, ?_⟩
      refine t_nil ?_
      refine c_cond rfl ?_ ?_
      · intro hc8
        have hfu : d.fuse = 0 := of_decide_eq_true hc8
        refine c_seq ?_
        refine c_region ?_
        refine t_q (q_assign) ?_
        refine t_nil ?_
        refine c_ret ?_
        refine r_one rfl rfl ?_
        first
          | (obtain ⟨e1, e2, e3⟩ := tn_gone (i := i) (c := 0) (F := syF d.F i.toNat) hgn
             rw [e1, e2]; exact ⟨rfl, hS.undsk⟩)
          | (obtain ⟨e1, e2, e3⟩ := tn_bad (F := syF d.F i.toNat) hgn ho hcd
             skip
             rw [e1, e2]; exact ⟨rfl, (((hS.pick (A := packA _) (by repeat first | exact .here _ _ | assumption | apply Pick.there)).pick (A := blkA g 157 _) (by repeat first | exact .here _ _ | assumption | apply Pick.there))).undsk⟩)
          | (obtain ⟨e1, e2, e3⟩ := tn_fuse (F := syF d.F i.toNat) hgn ho hcd hfu
             skip
             rw [e1, e2]; exact ⟨rfl, (((hS.pick (A := packA _) (by repeat first | exact .here _ _ | assumption | apply Pick.there)).pick (A := blkA g 157 _) (by repeat first | exact .here _ _ | assumption | apply Pick.there))).undsk⟩)
          | (obtain ⟨e1, e2, e3⟩ := tn_ok (F := syF d.F i.toNat) hgn ho hcd hfu
             rw [e1, e2]; exact ⟨rfl, (((hS.pick (A := packA _) (by repeat first | exact .here _ _ | assumption | apply Pick.there)).pick (A := blkA g 157 _) (by repeat first | exact .here _ _ | assumption | apply Pick.there))).undskF⟩)
      · intro hc8
        have hfu : d.fuse ≠ 0 := of_decide_eq_false hc8
        refine c_skip ?_
        refine c_seq ?_
        refine c_region ?_
        refine t_q (q_mv (.func _ _ _) rfl) ?_
        refine t_q (q_mv (.pointer _) rfl) ?_
        refine t_callv Try.call95 rfl (sya_calls hi hS (hG.len _)) rfl ?_
        rintro e w ⟨rw2, rfl, hS⟩
        refine ⟨_, rfl, ?_⟩
        refine t_nil ?_
        refine c_seq ?_
        refine c_region ?_
        refine t_q (q_assign) ?_
        refine t_nil ?_
        refine c_ret ?_
        refine r_one rfl rfl ?_
        first
          | (obtain ⟨e1, e2, e3⟩ := tn_gone (i := i) (c := 0) (F := syF d.F i.toNat) hgn
             rw [e1, e2]; exact ⟨rfl, hS.undsk⟩)
          | (obtain ⟨e1, e2, e3⟩ := tn_bad (F := syF d.F i.toNat) hgn ho hcd
             skip
             rw [e1, e2]; exact ⟨rfl, (((hS.pick (A := packA _) (by repeat first | exact .here _ _ | assumption | apply Pick.there)).pick (A := blkA g 157 _) (by repeat first | exact .here _ _ | assumption | apply Pick.there))).undsk⟩)
          | (obtain ⟨e1, e2, e3⟩ := tn_fuse (F := syF d.F i.toNat) hgn ho hcd hfu
             skip
             rw [e1, e2]; exact ⟨rfl, (((hS.pick (A := packA _) (by repeat first | exact .here _ _ | assumption | apply Pick.there)).pick (A := blkA g 157 _) (by repeat first | exact .here _ _ | assumption | apply Pick.there))).undsk⟩)
          | (obtain ⟨e1, e2, e3⟩ := tn_ok (F := syF d.F i.toNat) hgn ho hcd hfu
             rw [e1, e2]; exact ⟨rfl, (((hS.pick (A := packA _) (by repeat first | exact .here _ _ | assumption | apply Pick.there)).pick (A := blkA g 157 _) (by repeat first | exact .here _ _ | assumption | apply Pick.there))).undskF⟩)
set_option maxRecDepth 100000 in
theorem turnD_in {w : World} {R : List Asn} {g : Nat} {d : Dk} {i : Int}  (hS : St W w (dskA g d :: R)) (ho : 0 ≤ i ∧ i < 32) (hG : DGood d) (hc : d.calls ≤ 1000000000)  :
  Calls Try.prog 91 #[.pointer (some ⟨g, 0, none⟩), .int .i64 i, .func (.func 94) #[] #[], .func (.func 133) #[] #[]] w fun e w' => e = .returned (.int .i64 (tnE d i (0))) ∧ St W w' (dskA g (tnD d i (0) (drF d.F i.toNat)) :: R) := by
  obtain ⟨rw, hS⟩ := hS.dsk
  have hi : i.toNat < 32 := by omega
  have hgF : FGood d.F := fun j => ⟨hG.sync j, hG.len j⟩
  refine calls_of_wpE (args := [_, _, _, _]) Try.func91 rfl rfl rfl ?_
  refine c_seq ?_
  refine c_region ?_
  refine t_q (q_assign) ?_
  refine t_nil ?_
  refine c_seq ?_
  refine c_region ?_
  refine t_q (q_mv (.pointer _) rfl) ?_
  refine t_q (q_mv (.int _ _) rfl) ?_
  refine t_call Try.call93 (at_in ho) rfl ?_
  rintro e w ⟨rfl, hT⟩
  refine ⟨_, rfl, ?_⟩
  replace hS := hS.after hT
  refine t_q (q_as (.pointer _) rfl) ?_
  refine t_nil ?_
  refine c_seq ?_
  refine c_block ?_
  refine c_seq ?_
  refine c_region ?_
  refine t_q (q_mv (.pointer _) rfl) ?_
  refine t_q (q_eql_ptr_nil Try.runUnderlying58 rfl rfl) ?_
  refine t_q (q_as (.bool _) rfl) ?_
  refine t_nil ?_
  refine c_cond_f rfl rfl ?_
  refine c_seq ?_
  refine c_region ?_
  refine t_q (q_mv (.pointer _) rfl) ?_
  refine t_q (q_nilCheck rfl) ?_
  refine t_q (q_fieldAddr 66 Try.runUnderlying157 rfl Try.sizeOf4 (by decide) rfl rfl) ?_
  refine t_q (q_load1 Try.isAgg4 rfl (hS.cell (by repeat first | exact .here _ _ | assumption | apply Pick.there) ((fc_tl 2).trans (dtl_2 d)))) ?_
  refine t_q (q_as (.bool _) rfl) ?_
  refine t_nil ?_
  refine c_cond rfl ?_ ?_
  · intro hc3
    have hgn := hc3
    refine c_seq ?_
    refine c_region ?_
    refine t_q (q_assign) ?_
    refine t_nil ?_
    refine c_ret ?_
    refine r_one rfl rfl ?_
    first
      | (obtain ⟨e1, e2, e3⟩ := tn_gone (i := i) (c := 0) (F := drF d.F i.toNat) hgn
         rw [e1, e2]; exact ⟨rfl, hS.undsk⟩)
      | (obtain ⟨e1, e2, e3⟩ := tn_bad (F := drF d.F i.toNat) hgn ho hcd
         skip
         rw [e1, e2]; exact ⟨rfl, (((hS.pick (A := packA _) (by repeat first | exact .here _ _ | assumption | apply Pick.there)).pick (A := blkA g 157 _) (by repeat first | exact .here _ _ | assumption | apply Pick.there))).undsk⟩)
      | (obtain ⟨e1, e2, e3⟩ := tn_fuse (F := drF d.F i.toNat) hgn ho hcd hfu
         skip
         rw [e1, e2]; exact ⟨rfl, (((hS.pick (A := packA _) (by repeat first | exact .here _ _ | assumption | apply Pick.there)).pick (A := blkA g 157 _) (by repeat first | exact .here _ _ | assumption | apply Pick.there))).undsk⟩)
      | (obtain ⟨e1, e2, e3⟩ := tn_ok (F := drF d.F i.toNat) hgn ho hcd hfu
         rw [e1, e2]; exact ⟨rfl, (((hS.pick (A := packA _) (by repeat first | exact .here _ _ | assumption | apply Pick.there)).pick (A := blkA g 157 _) (by repeat first | exact .here _ _ | assumption | apply Pick.there))).undskF⟩)
  · intro hc3
    have hgn := hc3
    refine c_seq ?_
    refine c_region ?_
    refine t_q (q_mv (.pointer _) rfl) ?_
    refine t_q (q_eql_ptr_nil Try.runUnderlying159 rfl rfl) ?_
    refine t_q (q_as (.bool _) rfl) ?_
    refine t_nil ?_
    refine c_cond_f rfl rfl ?_
    refine c_skip ?_
    refine c_seq ?_
    refine c_seq ?_
    refine c_region ?_
    refine t_q (q_mv (.func _ _ _) rfl) ?_
    refine t_q (q_mv (.pointer _) rfl) ?_
    refine t_callv Try.call94 rfl (always_calls) rfl ?_
    rintro e w ⟨rfl, hT⟩
    refine ⟨_, rfl, ?_⟩
    replace hS := hS.after hT
    refine t_q (q_as (.int _ _) rfl) ?_
    refine t_nil ?_
    refine c_seq ?_
    refine c_region ?_
    refine t_q (q_mv (.int _ _) rfl) ?_
    refine t_q (q_neq rfl rfl) ?_
    refine t_nil ?_
    refine c_cond rfl ?_ ?_
    · intro hc6
      have hc6d := of_decide_eq_true hc6
      exfalso; omega
    · intro hc6
      have hc6d := of_decide_eq_false hc6
      have hcd : (0 : Int) = 0 := rfl
      refine c_skip ?_
      refine c_seq ?_
      refine c_region ?_
      refine t_q (q_mv (.pointer _) rfl) ?_
      refine t_q (q_makeFunc_b rfl rfl) ?_
      refine t_q (q_as (.func _ _ _) rfl) ?_
      refine t_nil ?_
      refine c_seq ?_
      refine c_seq ?_
      refine c_region ?_
      refine t_q (q_mv (.func _ _ _) rfl) ?_
      refine t_callv_b Try.call134 rfl (blow_calls hS (by repeat first | exact .here _ _ | assumption | apply Pick.there) hgn hG.fuse ⟨hG.calls, hc⟩) rfl ?_
      rintro e w ⟨rfl, hS⟩
      refine ⟨_, rfl, ?_⟩
      refine t_nil ?_
      refine c_cond rfl ?_ ?_
      · intro hc8
        have hfu : d.fuse = 0 := of_decide_eq_true hc8
        refine c_seq ?_
        refine c_region ?_
        refine t_q (q_assign) ?_
        refine t_nil ?_
        refine c_ret ?_
        refine r_one rfl rfl ?_
        first
          | (obtain ⟨e1, e2, e3⟩ := tn_gone (i := i) (c := 0) (F := drF d.F i.toNat) hgn
             rw [e1, e2]; exact ⟨rfl, hS.undsk⟩)
          | (obtain ⟨e1, e2, e3⟩ := tn_bad (F := drF d.F i.toNat) hgn ho hcd
             skip
             rw [e1, e2]; exact ⟨rfl, (((hS.pick (A := packA _) (by repeat first | exact .here _ _ | assumption | apply Pick.there)).pick (A := blkA g 157 _) (by repeat first | exact .here _ _ | assumption | apply Pick.there))).undsk⟩)
          | (obtain ⟨e1, e2, e3⟩ := tn_fuse (F := drF d.F i.toNat) hgn ho hcd hfu
             skip
             rw [e1, e2]; exact ⟨rfl, (((hS.pick (A := packA _) (by repeat first | exact .here _ _ | assumption | apply Pick.there)).pick (A := blkA g 157 _) (by repeat first | exact .here _ _ | assumption | apply Pick.there))).undsk⟩)
          | (obtain ⟨e1, e2, e3⟩ := tn_ok (F := drF d.F i.toNat) hgn ho hcd hfu
             rw [e1, e2]; exact ⟨rfl, (((hS.pick (A := packA _) (by repeat first | exact .here _ _ | assumption | apply Pick.there)).pick (A := blkA g 157 _) (by repeat first | exact .here _ _ | assumption | apply Pick.there))).undskF⟩)
      · intro hc8
        have hfu : d.fuse ≠ 0 := of_decide_eq_false hc8
        refine c_skip ?_
        refine c_seq ?_
        refine c_region ?_
        refine t_q (q_mv (.func _ _ _) rfl) ?_
        refine t_q (q_mv (.pointer _) rfl) ?_
        refine t_callv Try.call133 rfl (dra_calls hi hS) rfl ?_
        rintro e w ⟨rw2, rfl, hS⟩
        refine ⟨_, rfl, ?_⟩
        refine t_nil ?_
        refine c_seq ?_
        refine c_region ?_
        refine t_q (q_assign) ?_
        refine t_nil ?_
        refine c_ret ?_
        refine r_one rfl rfl ?_
        first
          | (obtain ⟨e1, e2, e3⟩ := tn_gone (i := i) (c := 0) (F := drF d.F i.toNat) hgn
             rw [e1, e2]; exact ⟨rfl, hS.undsk⟩)
          | (obtain ⟨e1, e2, e3⟩ := tn_bad (F := drF d.F i.toNat) hgn ho hcd
             skip
             rw [e1, e2]; exact ⟨rfl, (((hS.pick (A := packA _) (by repeat first | exact .here _ _ | assumption | apply Pick.there)).pick (A := blkA g 157 _) (by repeat first | exact .here _ _ | assumption | apply Pick.there))).undsk⟩)
          | (obtain ⟨e1, e2, e3⟩ := tn_fuse (F := drF d.F i.toNat) hgn ho hcd hfu
             skip
             rw [e1, e2]; exact ⟨rfl, (((hS.pick (A := packA _) (by repeat first | exact .here _ _ | assumption | apply Pick.there)).pick (A := blkA g 157 _) (by repeat first | exact .here _ _ | assumption | apply Pick.there))).undsk⟩)
          | (obtain ⟨e1, e2, e3⟩ := tn_ok (F := drF d.F i.toNat) hgn ho hcd hfu
             rw [e1, e2]; exact ⟨rfl, (((hS.pick (A := packA _) (by repeat first | exact .here _ _ | assumption | apply Pick.there)).pick (A := blkA g 157 _) (by repeat first | exact .here _ _ | assumption | apply Pick.there))).undskF⟩)
set_option maxRecDepth 100000 in
theorem turnC_in {w : World} {R : List Asn} {g : Nat} {d : Dk} {i : Int} {g5 : Nat} {n : Int} (hS : St W w (dskA g d :: blkA g5 3 [.int .i64 n] :: R)) (ho : 0 ≤ i ∧ i < 32) (hG : DGood d) (hc : d.calls ≤ 1000000000)  :
  Calls Try.prog 91 #[.pointer (some ⟨g, 0, none⟩), .int .i64 i, .func (.func 154) #[] #[.pointer (some ⟨g5, 0, none⟩)], .func (.func 155) #[] #[.pointer (some ⟨g5, 0, none⟩)]] w fun e w' => e = .returned (.int .i64 (tnE d i (cuE d.F i.toNat n))) ∧ St W w' (dskA g (tnD d i (cuE d.F i.toNat n) (cuF d.F i.toNat n)) :: blkA g5 3 [.int .i64 n] :: R) := by
  obtain ⟨rw, hS⟩ := hS.dsk
  have hi : i.toNat < 32 := by omega
  have hgF : FGood d.F := fun j => ⟨hG.sync j, hG.len j⟩
  refine calls_of_wpE (args := [_, _, _, _]) Try.func91 rfl rfl rfl ?_
  refine c_seq ?_
  refine c_region ?_
  refine t_q (q_assign) ?_
  refine t_nil ?_
  refine c_seq ?_
  refine c_region ?_
  refine t_q (q_mv (.pointer _) rfl) ?_
  refine t_q (q_mv (.int _ _) rfl) ?_
  refine t_call Try.call93 (at_in ho) rfl ?_
  rintro e w ⟨rfl, hT⟩
  refine ⟨_, rfl, ?_⟩
  replace hS := hS.after hT
  refine t_q (q_as (.pointer _) rfl) ?_
  refine t_nil ?_
  refine c_seq ?_
  refine c_block ?_
  refine c_seq ?_
  refine c_region ?_
  refine t_q (q_mv (.pointer _) rfl) ?_
  refine t_q (q_eql_ptr_nil Try.runUnderlying58 rfl rfl) ?_
  refine t_q (q_as (.bool _) rfl) ?_
  refine t_nil ?_
  refine c_cond_f rfl rfl ?_
  refine c_seq ?_
  refine c_region ?_
  refine t_q (q_mv (.pointer _) rfl) ?_
  refine t_q (q_nilCheck rfl) ?_
  refine t_q (q_fieldAddr 66 Try.runUnderlying157 rfl Try.sizeOf4 (by decide) rfl rfl) ?_
  refine t_q (q_load1 Try.isAgg4 rfl (hS.cell (by repeat first | exact .here _ _ | assumption | apply Pick.there) ((fc_tl 2).trans (dtl_2 d)))) ?_
  refine t_q (q_as (.bool _) rfl) ?_
  refine t_nil ?_
  refine c_cond rfl ?_ ?_
  · intro hc3
    have hgn := hc3
    refine c_seq ?_
    refine c_region ?_
    refine t_q (q_assign) ?_
    refine t_nil ?_
    refine c_ret ?_
    refine r_one rfl rfl ?_
    first
      | (obtain ⟨e1, e2, e3⟩ := tn_gone (i := i) (c := cuE d.F i.toNat n) (F := cuF d.F i.toNat n) hgn
         rw [e1, e2]; exact ⟨rfl, hS.undsk⟩)
      | (obtain ⟨e1, e2, e3⟩ := tn_bad (F := cuF d.F i.toNat n) hgn ho hcd
         skip
         rw [e1, e2]; exact ⟨rfl, ((((hS.pick (A := blkA g5 3 [.int .i64 n]) (by repeat first | exact .here _ _ | assumption | apply Pick.there)).pick (A := packA _) (by repeat first | exact .here _ _ | assumption | apply Pick.there)).pick (A := blkA g 157 _) (by repeat first | exact .here _ _ | assumption | apply Pick.there))).undsk⟩)
      | (obtain ⟨e1, e2, e3⟩ := tn_fuse (F := cuF d.F i.toNat n) hgn ho hcd hfu
         skip
         rw [e1, e2]; exact ⟨rfl, ((((hS.pick (A := blkA g5 3 [.int .i64 n]) (by repeat first | exact .here _ _ | assumption | apply Pick.there)).pick (A := packA _) (by repeat first | exact .here _ _ | assumption | apply Pick.there)).pick (A := blkA g 157 _) (by repeat first | exact .here _ _ | assumption | apply Pick.there))).undsk⟩)
      | (obtain ⟨e1, e2, e3⟩ := tn_ok (F := cuF d.F i.toNat n) hgn ho hcd hfu
         rw [e1, e2]; exact ⟨rfl, ((((hS.pick (A := blkA g5 3 [.int .i64 n]) (by repeat first | exact .here _ _ | assumption | apply Pick.there)).pick (A := packA _) (by repeat first | exact .here _ _ | assumption | apply Pick.there)).pick (A := blkA g 157 _) (by repeat first | exact .here _ _ | assumption | apply Pick.there))).undskF⟩)
  · intro hc3
    have hgn := hc3
    refine c_seq ?_
    refine c_region ?_
    refine t_q (q_mv (.pointer _) rfl) ?_
    refine t_q (q_eql_ptr_nil Try.runUnderlying159 rfl rfl) ?_
    refine t_q (q_as (.bool _) rfl) ?_
    refine t_nil ?_
    refine c_cond_f rfl rfl ?_
    refine c_skip ?_
    refine c_seq ?_
    refine c_seq ?_
    refine c_region ?_
    refine t_q (q_mv (.func _ _ _) rfl) ?_
    refine t_q (q_mv (.pointer _) rfl) ?_
    refine t_callv Try.call154 rfl (cuc_calls hi ((((hS.pick (A := blkA g5 3 [.int .i64 n]) (by repeat first | exact .here _ _ | assumption | apply Pick.there)).pick (A := packA (filesL d.F rw)) (by repeat first | exact .here _ _ | assumption | apply Pick.there)).pick (A := blkA g 157 (fcells d.F rw ++ dtl d)) (by repeat first | exact .here _ _ | assumption | apply Pick.there)))) rfl ?_
    rintro e w ⟨rfl, hS⟩
    refine ⟨_, rfl, ?_⟩
    refine t_q (q_as (.int _ _) rfl) ?_
    refine t_nil ?_
    refine c_seq ?_
    refine c_region ?_
    refine t_q (q_mv (.int _ _) rfl) ?_
    refine t_q (q_neq rfl rfl) ?_
    refine t_nil ?_
    refine c_cond rfl ?_ ?_
    · intro hc6
      have hc6d := of_decide_eq_true hc6
      have hcd : cuE d.F i.toNat n ≠ 0 := by simpa using hc6
      refine c_seq ?_
      refine c_region ?_
      refine t_q (q_mv (.int _ _) rfl) ?_
      refine t_q (q_as (.int _ _) rfl) ?_
      refine t_nil ?_
      refine c_ret ?_
      refine r_one rfl rfl ?_
      first
        | (obtain ⟨e1, e2, e3⟩ := tn_gone (i := i) (c := cuE d.F i.toNat n) (F := cuF d.F i.toNat n) hgn
           rw [e1, e2]; exact ⟨rfl, hS.undsk⟩)
        | (obtain ⟨e1, e2, e3⟩ := tn_bad (F := cuF d.F i.toNat n) hgn ho hcd
           skip
           rw [e1, e2]; exact ⟨rfl, ((((hS.pick (A := blkA g5 3 [.int .i64 n]) (by repeat first | exact .here _ _ | assumption | apply Pick.there)).pick (A := packA _) (by repeat first | exact .here _ _ | assumption | apply Pick.there)).pick (A := blkA g 157 _) (by repeat first | exact .here _ _ | assumption | apply Pick.there))).undsk⟩)
        | (obtain ⟨e1, e2, e3⟩ := tn_fuse (F := cuF d.F i.toNat n) hgn ho hcd hfu
           skip
           rw [e1, e2]; exact ⟨rfl, ((((hS.pick (A := blkA g5 3 [.int .i64 n]) (by repeat first | exact .here _ _ | assumption | apply Pick.there)).pick (A := packA _) (by repeat first | exact .here _ _ | assumption | apply Pick.there)).pick (A := blkA g 157 _) (by repeat first | exact .here _ _ | assumption | apply Pick.there))).undsk⟩)
        | (obtain ⟨e1, e2, e3⟩ := tn_ok (F := cuF d.F i.toNat n) hgn ho hcd hfu
           rw [e1, e2]; exact ⟨rfl, ((((hS.pick (A := blkA g5 3 [.int .i64 n]) (by repeat first | exact .here _ _ | assumption | apply Pick.there)).pick (A := packA _) (by repeat first | exact .here _ _ | assumption | apply Pick.there)).pick (A := blkA g 157 _) (by repeat first | exact .here _ _ | assumption | apply Pick.there))).undskF⟩)
    · intro hc6
      have hc6d := of_decide_eq_false hc6
      have hcd : cuE d.F i.toNat n = 0 := by simpa using hc6
      refine c_skip ?_
      refine c_seq ?_
      refine c_region ?_
      refine t_q (q_mv (.pointer _) rfl) ?_
      refine t_q (q_makeFunc_b rfl rfl) ?_
      refine t_q (q_as (.func _ _ _) rfl) ?_
      refine t_nil ?_
      refine c_seq ?_
      refine c_seq ?_
      refine c_region ?_
      refine t_q (q_mv (.func _ _ _) rfl) ?_
      refine t_callv_b Try.call134 rfl (blow_calls hS (by repeat first | exact .here _ _ | assumption | apply Pick.there) hgn hG.fuse ⟨hG.calls, hc⟩) rfl ?_
      rintro e w ⟨rfl, hS⟩
      refine ⟨_, rfl, ?_⟩
      refine t_nil ?_
      refine c_cond rfl ?_ ?_
      · intro hc8
        have hfu : d.fuse = 0 := of_decide_eq_true hc8
        refine c_seq ?_
        refine c_region ?_
        refine t_q (q_assign) ?_
        refine t_nil ?_
        refine c_ret ?_
        refine r_one rfl rfl ?_
        first
          | (obtain ⟨e1, e2, e3⟩ := tn_gone (i := i) (c := cuE d.F i.toNat n) (F := cuF d.F i.toNat n) hgn
             rw [e1, e2]; exact ⟨rfl, hS.undsk⟩)
          | (obtain ⟨e1, e2, e3⟩ := tn_bad (F := cuF d.F i.toNat n) hgn ho hcd
             skip
             rw [e1, e2]; exact ⟨rfl, ((((hS.pick (A := blkA g5 3 [.int .i64 n]) (by repeat first | exact .here _ _ | assumption | apply Pick.there)).pick (A := packA _) (by repeat first | exact .here _ _ | assumption | apply Pick.there)).pick (A := blkA g 157 _) (by repeat first | exact .here _ _ | assumption | apply Pick.there))).undsk⟩)
          | (obtain ⟨e1, e2, e3⟩ := tn_fuse (F := cuF d.F i.toNat n) hgn ho hcd hfu
             skip
             rw [e1, e2]; exact ⟨rfl, ((((hS.pick (A := blkA g5 3 [.int .i64 n]) (by repeat first | exact .here _ _ | assumption | apply Pick.there)).pick (A := packA _) (by repeat first | exact .here _ _ | assumption | apply Pick.there)).pick (A := blkA g 157 _) (by repeat first | exact .here _ _ | assumption | apply Pick.there))).undsk⟩)
          | (obtain ⟨e1, e2, e3⟩ := tn_ok (F := cuF d.F i.toNat n) hgn ho hcd hfu
             rw [e1, e2]; exact ⟨rfl, ((((hS.pick (A := blkA g5 3 [.int .i64 n]) (by repeat first | exact .here _ _ | assumption | apply Pick.there)).pick (A := packA _) (by repeat first | exact .here _ _ | assumption | apply Pick.there)).pick (A := blkA g 157 _) (by repeat first | exact .here _ _ | assumption | apply Pick.there))).undskF⟩)
      · intro hc8
        have hfu : d.fuse ≠ 0 := of_decide_eq_false hc8
        refine c_skip ?_
        refine c_seq ?_
        refine c_region ?_
        refine t_q (q_mv (.func _ _ _) rfl) ?_
        refine t_q (q_mv (.pointer _) rfl) ?_
        refine t_callv Try.call155 rfl (cua_calls hi ((((hS.pick (A := blkA g5 3 [.int .i64 n]) (by repeat first | exact .here _ _ | assumption | apply Pick.there)).pick (A := packA _) (by repeat first | exact .here _ _ | assumption | apply Pick.there)).pick (A := blkA g 157 _) (by repeat first | exact .here _ _ | assumption | apply Pick.there))) hcd hgF) rfl ?_
        rintro e w ⟨rw2, rfl, hS⟩
        refine ⟨_, rfl, ?_⟩
        refine t_nil ?_
        refine c_seq ?_
        refine c_region ?_
        refine t_q (q_assign) ?_
        refine t_nil ?_
        refine c_ret ?_
        refine r_one rfl rfl ?_
        first
          | (obtain ⟨e1, e2, e3⟩ := tn_gone (i := i) (c := cuE d.F i.toNat n) (F := cuF d.F i.toNat n) hgn
             rw [e1, e2]; exact ⟨rfl, hS.undsk⟩)
          | (obtain ⟨e1, e2, e3⟩ := tn_bad (F := cuF d.F i.toNat n) hgn ho hcd
             skip
             rw [e1, e2]; exact ⟨rfl, ((((hS.pick (A := blkA g5 3 [.int .i64 n]) (by repeat first | exact .here _ _ | assumption | apply Pick.there)).pick (A := packA _) (by repeat first | exact .here _ _ | assumption | apply Pick.there)).pick (A := blkA g 157 _) (by repeat first | exact .here _ _ | assumption | apply Pick.there))).undsk⟩)
          | (obtain ⟨e1, e2, e3⟩ := tn_fuse (F := cuF d.F i.toNat n) hgn ho hcd hfu
             skip
             rw [e1, e2]; exact ⟨rfl, ((((hS.pick (A := blkA g5 3 [.int .i64 n]) (by repeat first | exact .here _ _ | assumption | apply Pick.there)).pick (A := packA _) (by repeat first | exact .here _ _ | assumption | apply Pick.there)).pick (A := blkA g 157 _) (by repeat first | exact .here _ _ | assumption | apply Pick.there))).undsk⟩)
          | (obtain ⟨e1, e2, e3⟩ := tn_ok (F := cuF d.F i.toNat n) hgn ho hcd hfu
             rw [e1, e2]; exact ⟨rfl, ((((hS.pick (A := blkA g5 3 [.int .i64 n]) (by repeat first | exact .here _ _ | assumption | apply Pick.there)).pick (A := packA _) (by repeat first | exact .here _ _ | assumption | apply Pick.there)).pick (A := blkA g 157 _) (by repeat first | exact .here _ _ | assumption | apply Pick.there))).undskF⟩)
end Go.Proofs.Ytlppgpidakfnlaa
