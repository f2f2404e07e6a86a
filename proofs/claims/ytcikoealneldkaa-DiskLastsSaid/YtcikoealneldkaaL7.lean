/- What is synced of a file stays, as long as it is neither cut nor dropped: the walk. -/
import Derived.Test.YtcikoealneldkaaL8
namespace Go.Proofs.Ytcikoealneldkaa
open Go Go.RowKit Go.Lib
variable {W : World}
/-- a file begins with b, and so much is synced -/
def LP (b : List UInt8) (i : Nat) (F : Nat → List UInt8 × Nat) : Prop := (∃ rest, (F i).1 = b ++ rest) ∧ b.length ≤ (F i).2
theorem LP.upd {b : List UInt8} {i j : Nat} {F : Nat → List UInt8 × Nat} {v : List UInt8 × Nat} (h : LP b i F) (hv : j = i → (∃ rest, v.1 = b ++ rest) ∧ b.length ≤ v.2) : LP b i (updF F j v) := by
  unfold LP updF
  by_cases hj : i = j
  · rw [if_pos hj]
    exact hv hj.symm
  · rw [if_neg hj]
    exact h
theorem LP.tn {b : List UInt8} {i : Nat} {d : Dk} {f c : Int} {F : Nat → List UInt8 × Nat} (h : LP b i d.F) (hF : 0 ≤ f ∧ f < 32 → LP b i F) : LP b i (tnD d f c F).F ∧ LP b i (apD d f c F).F := by
  unfold tnD apD
  constructor
  · split
    · exact h
    · rename_i hn
      split
      · exact h
      · exact hF (by omega)
  · split
    · exact h
    · rename_i hn
      exact hF (by omega)
theorem LP.do {b : List UInt8} {i : Int} (hi : 0 ≤ i ∧ i < 32) {d : Dk} (hG : DGood d) {x : DskOp} (hx : ¬ ((x.kind = 2 ∨ x.kind = 3) ∧ x.file = i)) (h : LP b i.toNat d.F) : LP b i.toNat (doD d x).F := by
  obtain ⟨⟨rest, h1⟩, h2⟩ := h
  have h : LP b i.toNat d.F := ⟨⟨rest, h1⟩, h2⟩
  unfold doD
  split
  · refine (h.tn fun hf => h.upd fun hj => ?_).1
    have hl := congrArg List.length h1
    rw [List.length_append] at hl
    rw [hj]
    exact ⟨⟨rest, h1⟩, by show b.length ≤ (d.F i.toNat).1.length; omega⟩
  · split
    · refine (h.tn fun hf => h.upd fun hj => ?_).1
      exact absurd ⟨.inl ‹_›, by omega⟩ hx
    · split
      · refine (h.tn fun hf => h.upd fun hj => ?_).1
        exact absurd ⟨.inr ‹_›, by omega⟩ hx
      · split
        · exact h
        · split
          · show LP b i.toNat (crD x.keep.l d).F
            unfold LP
            rw [crD_at (by omega)]
            have hcs := crS_le (ns := x.keep.l) (i := i.toNat) (hG.sync i.toNat)
            refine ⟨⟨rest.take (crS x.keep.l i.toNat (d.F i.toNat) - b.length), ?_⟩, by show b.length ≤ crS _ _ _; omega⟩
            show (d.F i.toNat).1.take _ = _
            rw [h1, List.take_append, List.take_of_length_le (by omega)]
          · split
            · exact h
            · refine (h.tn fun hf => h.upd fun hj => ?_).2
              rw [hj]
              exact ⟨⟨rest ++ x.b.l, by show (d.F i.toNat).1 ++ x.b.l = _; rw [h1, List.append_assoc]⟩, h2⟩
theorem last0 {b : List UInt8} {i : Int} (hi : 0 ≤ i ∧ i < 32) (hb : b.length ≤ 2000) : tnE D0 i (apE D0.F i.toNat b.length) = 0 ∧ ∃ d, apD D0 i (apE D0.F i.toNat b.length) (apF D0.F i.toNat b) = d ∧ DGood d ∧ d.calls ≤ 2 ∧ tnE d i 0 = 0 ∧ DGood (tnD d i 0 (syF d.F i.toNat)) ∧ (tnD d i 0 (syF d.F i.toNat)).calls ≤ 2 ∧ LP b i.toNat (tnD d i 0 (syF d.F i.toNat)).F := by
  have hE : apE D0.F i.toNat b.length = 0 := by unfold apE; rw [if_neg (by show ¬ 1048576 < ([] : List UInt8).length + b.length; simp; omega)]
  have hG : DGood (apD D0 i (apE D0.F i.toNat b.length) (apF D0.F i.toNat b)) := DGood.zero.ap
  obtain ⟨e1, _, e3⟩ := tn_ok (d := D0) (c := apE D0.F i.toNat b.length) (F := apF D0.F i.toNat b) rfl hi hE (by decide)
  refine ⟨e1, _, rfl, hG, ?_, ?_⟩
  · rw [e3]; show (0 + 1 : Int) ≤ 2; decide
  · rw [e3] at hG ⊢
    obtain ⟨f1, f2, _⟩ := tn_ok (d := D0.blow.setF (apF D0.F i.toNat b)) (c := 0) (F := syF (D0.blow.setF (apF D0.F i.toNat b)).F i.toNat) rfl hi rfl (show (-1 : Int) ≠ 0 by decide)
    refine ⟨f1, hG.tn (syF_good hG.fg _), ?_, ?_⟩
    · rw [f2]; show (0 + 1 + 1 : Int) ≤ 2; decide
    · rw [f2]
      have e4 : ((D0.blow.setF (apF D0.F i.toNat b)).F i.toNat) = ([] ++ b, 0) := by show updF F0 i.toNat ([] ++ b, 0) i.toNat = _; unfold updF; rw [if_pos rfl]
      unfold LP
      have e5 : ((D0.blow.setF (apF D0.F i.toNat b)).blow.setF (syF (D0.blow.setF (apF D0.F i.toNat b)).F i.toNat)).F i.toNat = (b, b.length) := by
        show syF (D0.blow.setF (apF D0.F i.toNat b)).F i.toNat i.toNat = _
        unfold syF updF
        rw [if_pos rfl, e4]
        rfl
      rw [e5]
      exact ⟨⟨[], (List.append_nil b).symm⟩, Nat.le_refl _⟩
attribute [local irreducible] blkA rowA rdrA rowC packA fcells qtl dtl dskA qdkA
set_option maxHeartbeats 2000000 in
set_option maxRecDepth 100000 in
theorem DiskLasts_calls {B : Option Addr} {cb : Nat} {b : List UInt8} {i : Int} {A : Option Addr} {c : Nat} {l : List DskOp} (hl : RdDsk W A l) (hok : ∀ e ∈ l, e.Ok W) (hm : l.length ≤ maxLen) (hb : RdB W B b) (hbm : b.length ≤ maxLen) : Calls Try.prog 7 #[.slice B b.length cb, .int .i64 i, .slice A l.length c] W fun e w' => e = .returned (.bool true) ∧ St W w' [] := by
  have hS := St.init W
  unfold maxLen at hbm
  refine calls_of_wpE (args := [_, _, _]) Try.func7 rfl rfl rfl ?_
  refine c_seq ?_
  refine c_region ?_
  refine t_q (q_assign) ?_
  refine t_nil ?_
  refine c_seq ?_
  refine c_seq ?_
  refine c_region ?_
  refine t_q (q_mv (.slice _ _ _) rfl) ?_
  refine t_call Try.call73 (dlight_calls (hl.st hS) hok hm) rfl ?_
  rintro e w ⟨b16, rfl, hlt, hT⟩
  refine ⟨_, rfl, ?_⟩
  replace hS := hS.after hT
  refine t_q (q_not rfl) ?_
  refine t_q (q_mv (.bool _) rfl) ?_
  refine t_case 17 rfl ?_ ?_
  · intro hg2
    refine t_no rfl rfl (by rw [(congrArg not (not_back hg2))]; decide) ?_
    refine t_no rfl rfl (by rw [(congrArg not (not_back hg2))]; decide) ?_
    refine t_no rfl rfl (by rw [(congrArg not (not_back hg2))]; decide) ?_
    refine t_q (q_pick_t rfl (congrArg not (not_back hg2))) ?_
    refine t_q (q_mv (.bool _) rfl) ?_
    refine t_no rfl rfl (by decide) ?_
    refine t_no rfl rfl (by decide) ?_
    refine t_q (q_pick_t rfl rfl) ?_
    refine t_q (q_mv (.bool _) rfl) ?_
    refine t_no rfl rfl (by decide) ?_
    refine t_no rfl rfl (by decide) ?_
    refine t_q (q_pick_t rfl rfl) ?_
    refine t_nil ?_
    refine c_cond_t rfl rfl ?_
    refine c_seq ?_
    refine c_region ?_
    refine t_call Try.call74 (dlives_calls) rfl ?_
    rintro e w ⟨rfl, hT⟩
    refine ⟨_, rfl, ?_⟩
    replace hS := hS.after hT
    refine t_q (q_as (.bool _) rfl) ?_
    refine t_nil ?_
    refine c_ret ?_
    refine r_one rfl rfl ?_
    exact ⟨rfl, hS.nil⟩
  · intro hg2
    refine t_yes rfl rfl (congrArg not (not_back hg2)) ?_
    refine t_q (q_mv (.slice _ _ _) rfl) ?_
    refine t_yes rfl rfl (congrArg not (not_back hg2)) ?_
    refine t_q (q_len_slice Try.runUnderlying48 rfl) ?_
    refine t_yes rfl rfl (congrArg not (not_back hg2)) ?_
    refine t_q (q_gtr rfl rfl) ?_
    refine t_q (q_pick_f rfl (congrArg not (not_back hg2))) ?_
    refine t_q (q_mv (.bool _) rfl) ?_
    refine t_case 22 rfl ?_ ?_
    · intro hg5
      have hg5d := of_decide_eq_true hg5
      refine t_no rfl rfl (by rw [hg5]; decide) ?_
      refine t_no rfl rfl (by rw [hg5]; decide) ?_
      refine t_q (q_pick_t rfl hg5) ?_
      refine t_q (q_mv (.bool _) rfl) ?_
      refine t_no rfl rfl (by decide) ?_
      refine t_no rfl rfl (by decide) ?_
      refine t_q (q_pick_t rfl rfl) ?_
      refine t_nil ?_
      refine c_cond_t rfl rfl ?_
      refine c_seq ?_
      refine c_region ?_
      refine t_call Try.call74 (dlives_calls) rfl ?_
      rintro e w ⟨rfl, hT⟩
      refine ⟨_, rfl, ?_⟩
      replace hS := hS.after hT
      refine t_q (q_as (.bool _) rfl) ?_
      refine t_nil ?_
      refine c_ret ?_
      refine r_one rfl rfl ?_
      exact ⟨rfl, hS.nil⟩
    · intro hg5
      have hg5d := of_decide_eq_false hg5
      refine t_yes rfl rfl hg5 ?_
      refine t_q (q_mv (.int _ _) rfl) ?_
      refine t_yes rfl rfl hg5 ?_
      refine t_q (q_lss rfl rfl) ?_
      refine t_q (q_pick_f rfl hg5) ?_
      refine t_q (q_mv (.bool _) rfl) ?_
      refine t_case 26 rfl ?_ ?_
      · intro hg8
        have hg8d := of_decide_eq_true hg8
        refine t_no rfl rfl (by rw [hg8]; decide) ?_
        refine t_no rfl rfl (by rw [hg8]; decide) ?_
        refine t_q (q_pick_t rfl hg8) ?_
        refine t_nil ?_
        refine c_cond_t rfl rfl ?_
        refine c_seq ?_
        refine c_region ?_
        refine t_call Try.call74 (dlives_calls) rfl ?_
        rintro e w ⟨rfl, hT⟩
        refine ⟨_, rfl, ?_⟩
        replace hS := hS.after hT
        refine t_q (q_as (.bool _) rfl) ?_
        refine t_nil ?_
        refine c_ret ?_
        refine r_one rfl rfl ?_
        exact ⟨rfl, hS.nil⟩
      · intro hg8
        have hg8d := of_decide_eq_false hg8
        refine t_yes rfl rfl hg8 ?_
        refine t_q (q_mv (.int _ _) rfl) ?_
        refine t_yes rfl rfl hg8 ?_
        refine t_q (q_geq rfl rfl) ?_
        refine t_q (q_pick_f rfl hg8) ?_
        refine t_nil ?_
        refine c_cond rfl ?_ ?_
        · intro hc11
          have hc11d := of_decide_eq_true hc11
          refine c_seq ?_
          refine c_region ?_
          refine t_call Try.call74 (dlives_calls) rfl ?_
          rintro e w ⟨rfl, hT⟩
          refine ⟨_, rfl, ?_⟩
          replace hS := hS.after hT
          refine t_q (q_as (.bool _) rfl) ?_
          refine t_nil ?_
          refine c_ret ?_
          refine r_one rfl rfl ?_
          exact ⟨rfl, hS.nil⟩
        · intro hc11
          have hc11d := of_decide_eq_false hc11
          have hlb : LightB l := hlt (not_back (by assumption))
          have hl100 := hlb.1
          have hio : 0 ≤ i ∧ i < 32 := by omega
          refine c_skip ?_
          refine c_seq ?_
          refine c_region ?_
          refine t_call Try.call75 (dnew_calls hS) rfl ?_
          rintro e w ⟨gp, rfl, hS⟩
          refine ⟨_, rfl, ?_⟩
          refine t_call Try.call76 (qdnew_calls hS) rfl ?_
          rintro e w ⟨gq, rfl, hS⟩
          refine ⟨_, rfl, ?_⟩
          refine t_q (q_as (.pointer _) rfl) ?_
          refine t_q (q_as (.pointer _) rfl) ?_
          refine t_nil ?_
          refine c_seq ?_
          refine c_seq ?_
          refine c_region ?_
          refine t_q (q_mv (.pointer _) rfl) ?_
          refine t_q (q_mv (.int _ _) rfl) ?_
          refine t_q (q_mv (.slice _ _ _) rfl) ?_
          refine t_call Try.call77 (app_calls (d := D0) (ys := b) hS (by repeat first | exact .here _ _ | assumption | apply Pick.there) DGood.zero (by decide) (fun w h => Rd.st hb h) rfl (by omega)) rfl ?_
          rintro e w ⟨rfl, hS⟩
          refine ⟨_, rfl, ?_⟩
          obtain ⟨hl1, d1, hd1, hl2, hl3, hl5, hl6, hl7, hl8⟩ := last0 (b := b) hio (by omega)
          rw [hd1] at hS
          refine t_q (q_cast (v' := .bool false) (q_neq rfl rfl) (by rw [hl1]; rfl)) ?_
          refine t_q (q_mv (.bool _) rfl) ?_
          refine t_yes rfl rfl rfl ?_
          refine t_q (q_mv (.pointer _) rfl) ?_
          refine t_yes rfl rfl rfl ?_
          refine t_q (q_mv (.int _ _) rfl) ?_
          refine t_yes rfl rfl rfl ?_
          refine t_call Try.call78 (syn_calls (d := d1) hS (by repeat first | exact .here _ _ | assumption | apply Pick.there) hl2 (by omega)) rfl ?_
          rintro e w ⟨rfl, hS⟩
          refine ⟨_, rfl, ?_⟩
          refine t_yes rfl rfl rfl ?_
          refine t_q (q_cast (v' := .bool false) (q_neq rfl rfl) (by rw [hl5]; rfl)) ?_
          refine t_q (q_pick_f rfl rfl) ?_
          refine t_nil ?_
          refine c_cond_f rfl rfl ?_
          refine c_skip ?_
          refine c_seq ?_
          refine c_seq ?_
          refine c_region ?_
          refine t_q (q_mv (.slice _ _ _) rfl) ?_
          refine t_q (q_len_slice Try.runUnderlying86 rfl) ?_
          refine t_q (q_move) ?_
          refine t_nil ?_
          refine c_block ?_
          refine c_loop [7, 10, 11, 12, 46, 47, 48, 49, 50, 51, 52, 53, 54, 55, 56, 57, 58, 59, 60, 61, 62, 63, 64, 65, 66, 67, 68, 69, 70, 71, 72] (fun k σ w => ∃ (j : Nat) (d d2 : Dk) (gd : Nat), σ 46 = .int .i64 (j : Int) ∧ σ 7 = .pointer (some ⟨gd, 0, none⟩) ∧ j ≤ l.length ∧ l.length - j ≤ k ∧ DGood d ∧ d.calls ≤ j + 2 ∧ DGood d2 ∧ d2.calls ≤ j ∧ LP b i.toNat d.F ∧ St W w [dskA gd d, qdkA gq d2]) (l.length) rfl (⟨0, _, D0, gp, rfl, rfl, by omega, by omega, hl6, by omega, DGood.zero, Int.le_refl 0, hl8, ((hS.pick (A := qdkA gq D0) (by repeat first | exact .here _ _ | assumption | apply Pick.there)).pick (A := dskA gp (tnD _ _ _ _)) (by repeat first | exact .here _ _ | assumption | apply Pick.there))⟩) ?_
          skip
          rintro k σ w ⟨j, d, d2, gd, h46, h7, hj, hk, hG, hcj, hG2, hcj2, hLP, hS⟩
          refine c_know 46 h46 ?_
          refine c_know 7 h7 ?_
          clear h46 h7
          refine c_seq ?_
          refine c_region ?_
          refine t_q (q_lss rfl rfl) ?_
          refine t_nil ?_
          refine c_seq ?_
          refine c_cond rfl ?_ ?_
          · intro hc20
            have hc20d := of_decide_eq_true hc20
            refine c_skip ?_
            refine c_seq ?_
            refine c_block ?_
            refine c_seq ?_
            refine c_region ?_
            first | refine t_index_nat Try.runUnderlying86 Try.sizeOf96 (hl.st hS) rfl rfl (by omega) (fun ad21 hl21 hx21 => ?_) | refine t_index Try.runUnderlying86 Try.sizeOf96 (hl.st hS) rfl rfl (by omega) (fun ad21 hl21 hx21 => ?_)
            refine t_q (q_loadN Try.isAgg96 Try.sizeOf96 rfl hl21 hx21) ?_
            refine t_alloc Try.zeroValue96 rfl hS (fun g10 w hS => ?_)
            refine t_store (v := (.agg _)) Try.sizeOf96 hS (by repeat first | exact .here _ _ | assumption | apply Pick.there) rfl rfl rfl rfl rfl rfl (fun w hS => ?_)
            replace hS := hS.recast (show blkA g10 96 _ = blkA g10 96 (l.getD j default).cells from rfl)
            have hxo : ((l.getD j default)).Ok W := dsk_at hok (by omega)
            have hxn := hxo.n
            obtain ⟨hxb, hxk⟩ := hlb.2 j (by omega)
            have hcle := do_calls_le d (l.getD j default)
            have hcle2 := do_calls_le d2 (l.getD j default)
            refine t_nil ?_
            refine c_seq ?_
            refine c_seq ?_
            refine c_region ?_
            refine t_q (q_fieldAddr 0 Try.runUnderlying96 rfl Try.sizeOf3 (by decide) rfl rfl) ?_
            refine t_q (q_load1 Try.isAgg3 rfl (hS.cell (by repeat first | exact .here _ _ | assumption | apply Pick.there) rfl)) ?_
            refine t_q (q_eql rfl rfl) ?_
            refine t_q (q_mv (.bool _) rfl) ?_
            refine t_case 53 rfl ?_ ?_
            · intro hg23
              have hg23d := of_decide_eq_true hg23
              refine t_no rfl rfl (by rw [hg23]; decide) ?_
              refine t_no rfl rfl (by rw [hg23]; decide) ?_
              refine t_no rfl rfl (by rw [hg23]; decide) ?_
              refine t_q (q_pick_t rfl hg23) ?_
              refine t_q (q_mv (.bool _) rfl) ?_
              refine t_yes rfl rfl rfl ?_
              refine t_q (q_fieldAddr 1 Try.runUnderlying96 rfl Try.sizeOf3 (by decide) rfl rfl) ?_
              refine t_yes rfl rfl rfl ?_
              refine t_q (q_load1 Try.isAgg3 rfl (hS.cell (by repeat first | exact .here _ _ | assumption | apply Pick.there) rfl)) ?_
              refine t_yes rfl rfl rfl ?_
              refine t_q (q_mv (.int _ _) rfl) ?_
              refine t_yes rfl rfl rfl ?_
              refine t_q (q_eql rfl rfl) ?_
              refine t_q (q_pick_t rfl rfl) ?_
              refine t_nil ?_
              refine c_cond rfl ?_ ?_
              · intro hc25
                have hc25d := of_decide_eq_true hc25
                refine c_exit ?_
                refine ite_t rfl ?_
                refine c_region ?_
                refine t_q (q_add_i64 rfl rfl (by omega)) ?_
                refine t_q (q_mv (.int _ _) rfl) ?_
                refine t_nil ?_
                first
                  | exact ⟨k - 1, by omega, j + 1, doD d (l.getD j default), doD d2 (l.getD j default), gN, rfl, rfl, by omega, by omega, hG.doD hxn, by omega, hG2.doD hxn, by omega, LP.do hio hG (by omega) hLP, hS.front2⟩
                  | exact ⟨k - 1, by omega, j + 1, d, d2, gd, rfl, rfl, by omega, by omega, hG, by omega, hG2, by omega, hLP, (((hS.pick (A := qdkA gq d2) (by repeat first | exact .here _ _ | assumption | apply Pick.there)).pick (A := dskA gd d) (by repeat first | exact .here _ _ | assumption | apply Pick.there))).front2⟩
              · intro hc25
                have hc25d := of_decide_eq_false hc25
                refine c_skip ?_
                refine c_seq ?_
                refine c_region ?_
                refine t_q (q_mv (.pointer _) rfl) ?_
                refine t_q (q_mv (.pointer _) rfl) ?_
                refine t_q (q_load_blk Try.isAgg96 Try.sizeOf96 rfl (hS.blk (by repeat first | exact .here _ _ | assumption | apply Pick.there)) rfl) ?_
                refine t_call Try.call79 (do_calls (((hS.pick (A := qdkA gq d2) (by repeat first | exact .here _ _ | assumption | apply Pick.there)).pick (A := dskA gd d) (by repeat first | exact .here _ _ | assumption | apply Pick.there))) hxo hG hG2 (by omega) (by omega)) rfl ?_
                rintro e w ⟨gN, bN, rfl, hbN, hS⟩
                refine ⟨_, rfl, ?_⟩
                refine t_q (q_mv (.tuple _) rfl) ?_
                refine t_q (q_extract rfl rfl) ?_
                refine t_q (q_extract rfl rfl) ?_
                refine t_q (q_as (.pointer _) rfl) ?_
                refine t_q (q_as (.bool _) rfl) ?_
                refine t_nil ?_
                refine c_region ?_
                refine t_q (q_mv (.pointer _) rfl) ?_
                refine t_q (q_as (.pointer _) rfl) ?_
                refine t_nil ?_
                refine c_region ?_
                refine t_q (q_add_i64 rfl rfl (by omega)) ?_
                refine t_q (q_mv (.int _ _) rfl) ?_
                refine t_nil ?_
                first
                  | exact ⟨k - 1, by omega, j + 1, doD d (l.getD j default), doD d2 (l.getD j default), gN, rfl, rfl, by omega, by omega, hG.doD hxn, by omega, hG2.doD hxn, by omega, LP.do hio hG (by omega) hLP, hS.front2⟩
                  | exact ⟨k - 1, by omega, j + 1, d, d2, gd, rfl, rfl, by omega, by omega, hG, by omega, hG2, by omega, hLP, (((hS.pick (A := qdkA gq d2) (by repeat first | exact .here _ _ | assumption | apply Pick.there)).pick (A := dskA gd d) (by repeat first | exact .here _ _ | assumption | apply Pick.there))).front2⟩
            · intro hg23
              have hg23d := of_decide_eq_false hg23
              refine t_yes rfl rfl hg23 ?_
              refine t_q (q_fieldAddr 0 Try.runUnderlying96 rfl Try.sizeOf3 (by decide) rfl rfl) ?_
              refine t_yes rfl rfl hg23 ?_
              refine t_q (q_load1 Try.isAgg3 rfl (hS.cell (by repeat first | exact .here _ _ | assumption | apply Pick.there) rfl)) ?_
              refine t_yes rfl rfl hg23 ?_
              refine t_q (q_eql rfl rfl) ?_
              refine t_q (q_pick_f rfl hg23) ?_
              refine t_q (q_mv (.bool _) rfl) ?_
              refine t_case 58 rfl ?_ ?_
              · intro hg30
                have hg30d := of_decide_eq_true hg30
                refine t_yes rfl rfl hg30 ?_
                refine t_q (q_fieldAddr 1 Try.runUnderlying96 rfl Try.sizeOf3 (by decide) rfl rfl) ?_
                refine t_yes rfl rfl hg30 ?_
                refine t_q (q_load1 Try.isAgg3 rfl (hS.cell (by repeat first | exact .here _ _ | assumption | apply Pick.there) rfl)) ?_
                refine t_yes rfl rfl hg30 ?_
                refine t_q (q_mv (.int _ _) rfl) ?_
                refine t_yes rfl rfl hg30 ?_
                refine t_q (q_eql rfl rfl) ?_
                refine t_q (q_pick_t rfl hg30) ?_
                refine t_nil ?_
                refine c_cond rfl ?_ ?_
                · intro hc32
                  have hc32d := of_decide_eq_true hc32
                  refine c_exit ?_
                  refine ite_t rfl ?_
                  refine c_region ?_
                  refine t_q (q_add_i64 rfl rfl (by omega)) ?_
                  refine t_q (q_mv (.int _ _) rfl) ?_
                  refine t_nil ?_
                  first
                    | exact ⟨k - 1, by omega, j + 1, doD d (l.getD j default), doD d2 (l.getD j default), gN, rfl, rfl, by omega, by omega, hG.doD hxn, by omega, hG2.doD hxn, by omega, LP.do hio hG (by omega) hLP, hS.front2⟩
                    | exact ⟨k - 1, by omega, j + 1, d, d2, gd, rfl, rfl, by omega, by omega, hG, by omega, hG2, by omega, hLP, (((hS.pick (A := qdkA gq d2) (by repeat first | exact .here _ _ | assumption | apply Pick.there)).pick (A := dskA gd d) (by repeat first | exact .here _ _ | assumption | apply Pick.there))).front2⟩
                · intro hc32
                  have hc32d := of_decide_eq_false hc32
                  refine c_skip ?_
                  refine c_seq ?_
                  refine c_region ?_
                  refine t_q (q_mv (.pointer _) rfl) ?_
                  refine t_q (q_mv (.pointer _) rfl) ?_
                  refine t_q (q_load_blk Try.isAgg96 Try.sizeOf96 rfl (hS.blk (by repeat first | exact .here _ _ | assumption | apply Pick.there)) rfl) ?_
                  refine t_call Try.call79 (do_calls (((hS.pick (A := qdkA gq d2) (by repeat first | exact .here _ _ | assumption | apply Pick.there)).pick (A := dskA gd d) (by repeat first | exact .here _ _ | assumption | apply Pick.there))) hxo hG hG2 (by omega) (by omega)) rfl ?_
                  rintro e w ⟨gN, bN, rfl, hbN, hS⟩
                  refine ⟨_, rfl, ?_⟩
                  refine t_q (q_mv (.tuple _) rfl) ?_
                  refine t_q (q_extract rfl rfl) ?_
                  refine t_q (q_extract rfl rfl) ?_
                  refine t_q (q_as (.pointer _) rfl) ?_
                  refine t_q (q_as (.bool _) rfl) ?_
                  refine t_nil ?_
                  refine c_region ?_
                  refine t_q (q_mv (.pointer _) rfl) ?_
                  refine t_q (q_as (.pointer _) rfl) ?_
                  refine t_nil ?_
                  refine c_region ?_
                  refine t_q (q_add_i64 rfl rfl (by omega)) ?_
                  refine t_q (q_mv (.int _ _) rfl) ?_
                  refine t_nil ?_
                  first
                    | exact ⟨k - 1, by omega, j + 1, doD d (l.getD j default), doD d2 (l.getD j default), gN, rfl, rfl, by omega, by omega, hG.doD hxn, by omega, hG2.doD hxn, by omega, LP.do hio hG (by omega) hLP, hS.front2⟩
                    | exact ⟨k - 1, by omega, j + 1, d, d2, gd, rfl, rfl, by omega, by omega, hG, by omega, hG2, by omega, hLP, (((hS.pick (A := qdkA gq d2) (by repeat first | exact .here _ _ | assumption | apply Pick.there)).pick (A := dskA gd d) (by repeat first | exact .here _ _ | assumption | apply Pick.there))).front2⟩
              · intro hg30
                have hg30d := of_decide_eq_false hg30
                refine t_no rfl rfl (by rw [hg30]; decide) ?_
                refine t_no rfl rfl (by rw [hg30]; decide) ?_
                refine t_no rfl rfl (by rw [hg30]; decide) ?_
                refine t_no rfl rfl (by rw [hg30]; decide) ?_
                refine t_q (q_pick_f rfl hg30) ?_
                refine t_nil ?_
                refine c_cond_f rfl rfl ?_
                refine c_skip ?_
                refine c_seq ?_
                refine c_region ?_
                refine t_q (q_mv (.pointer _) rfl) ?_
                refine t_q (q_mv (.pointer _) rfl) ?_
                refine t_q (q_load_blk Try.isAgg96 Try.sizeOf96 rfl (hS.blk (by repeat first | exact .here _ _ | assumption | apply Pick.there)) rfl) ?_
                refine t_call Try.call79 (do_calls (((hS.pick (A := qdkA gq d2) (by repeat first | exact .here _ _ | assumption | apply Pick.there)).pick (A := dskA gd d) (by repeat first | exact .here _ _ | assumption | apply Pick.there))) hxo hG hG2 (by omega) (by omega)) rfl ?_
                rintro e w ⟨gN, bN, rfl, hbN, hS⟩
                refine ⟨_, rfl, ?_⟩
                refine t_q (q_mv (.tuple _) rfl) ?_
                refine t_q (q_extract rfl rfl) ?_
                refine t_q (q_extract rfl rfl) ?_
                refine t_q (q_as (.pointer _) rfl) ?_
                refine t_q (q_as (.bool _) rfl) ?_
                refine t_nil ?_
                refine c_region ?_
                refine t_q (q_mv (.pointer _) rfl) ?_
                refine t_q (q_as (.pointer _) rfl) ?_
                refine t_nil ?_
                refine c_region ?_
                refine t_q (q_add_i64 rfl rfl (by omega)) ?_
                refine t_q (q_mv (.int _ _) rfl) ?_
                refine t_nil ?_
                first
                  | exact ⟨k - 1, by omega, j + 1, doD d (l.getD j default), doD d2 (l.getD j default), gN, rfl, rfl, by omega, by omega, hG.doD hxn, by omega, hG2.doD hxn, by omega, LP.do hio hG (by omega) hLP, hS.front2⟩
                  | exact ⟨k - 1, by omega, j + 1, d, d2, gd, rfl, rfl, by omega, by omega, hG, by omega, hG2, by omega, hLP, (((hS.pick (A := qdkA gq d2) (by repeat first | exact .here _ _ | assumption | apply Pick.there)).pick (A := dskA gd d) (by repeat first | exact .here _ _ | assumption | apply Pick.there))).front2⟩
          · intro hc20
            have hc20d := of_decide_eq_false hc20
            obtain rfl : j = l.length := by omega
            refine c_exit ?_
            refine ite_t rfl ?_
            refine c_seq ?_
            refine c_region ?_
            refine t_q (q_mv (.pointer _) rfl) ?_
            refine t_q (q_mv (.int _ _) rfl) ?_
            refine t_call Try.call80 (read_in (g := gd) (d := d) (i := i) hS (by repeat first | exact .here _ _ | assumption | apply Pick.there) hG hio) rfl ?_
            rintro e w ⟨A75, c75, rfl, hS⟩
            refine ⟨_, rfl, ?_⟩
            refine t_q (q_as (.slice _ _ _) rfl) ?_
            refine t_nil ?_
            refine c_seq ?_
            have hA75 := row_add hS (e := 5) (A := A75) (c := c75) (by repeat first | exact .here _ _ | assumption | apply Pick.there)
            have hle75 := hS.row_le (t := 5) (size := 1) (A := A75) (c := c75) (by repeat first | exact .here _ _ | assumption | apply Pick.there)
            obtain ⟨⟨rest, hrest⟩, hsl⟩ := hLP
            have hrl := congrArg List.length hrest
            rw [List.length_append] at hrl
            have htk : (d.F i.toNat).1.take b.length = b := by rw [hrest]; exact List.take_left
            refine c_draw ?_
            refine d_keep (rowA 5 1 A75 (d.F i.toNat).1.length c75 (((d.F i.toNat).1).map bv)) 27 [0, 1, 2, 3, 4, 5, 6, 7, 8, 9, 10, 11, 12, 13, 14, 15, 16, 17, 18, 19, 20, 21, 22, 23, 24, 25, 26] [0, 1, 2, 3, 4, 5, 6, 7, 8, 9, 10, 11, 12, 13, 14, 15, 16, 17, 18, 19, 20, 21, 22, 23, 24, 25, 26] hS rfl (by kernel_rfl) (by kernel_rfl) (by kernel_rfl) (by kernel_rfl) (fun hap hsel w hS => ?_)
            refine p_q hap hsel 0 rfl rfl ⟨_, hS.pick (by repeat first | exact .here _ _ | assumption | apply Pick.there)⟩ (fun w hI => q_mv (.slice _ _ _) rfl) ?_
            refine p_q hap hsel 1 rfl rfl ⟨_, hS.pick (by repeat first | exact .here _ _ | assumption | apply Pick.there)⟩ (fun w hI => q_len_slice Try.runUnderlying48 rfl) ?_
            refine p_q hap hsel 2 rfl rfl ⟨_, hS.pick (by repeat first | exact .here _ _ | assumption | apply Pick.there)⟩ (fun w hI => q_mv (.slice _ _ _) rfl) ?_
            refine p_q hap hsel 3 rfl rfl ⟨_, hS.pick (by repeat first | exact .here _ _ | assumption | apply Pick.there)⟩ (fun w hI => q_len_slice Try.runUnderlying48 rfl) ?_
            refine p_q hap hsel 4 rfl rfl ⟨_, hS.pick (by repeat first | exact .here _ _ | assumption | apply Pick.there)⟩ (fun w hI => (q_cast (v' := .bool true) (q_geq rfl rfl) (by rw [decide_eq_true (by omega)]))) ?_
            refine p_q hap hsel 5 rfl rfl ⟨_, hS.pick (by repeat first | exact .here _ _ | assumption | apply Pick.there)⟩ (fun w hI => q_mv (.bool _) rfl) ?_
            refine p_yes hap hsel 6 rfl rfl ⟨_, hS.pick (by repeat first | exact .here _ _ | assumption | apply Pick.there)⟩ rfl rfl rfl (fun w hI => q_mv (.slice _ _ _) rfl) ?_
            refine p_yes hap hsel 7 rfl rfl ⟨_, hS.pick (by repeat first | exact .here _ _ | assumption | apply Pick.there)⟩ rfl rfl rfl (fun w hI => q_mv (.slice _ _ _) rfl) ?_
            refine p_yes hap hsel 8 rfl rfl ⟨_, hS.pick (by repeat first | exact .here _ _ | assumption | apply Pick.there)⟩ rfl rfl rfl (fun w hI => q_len_slice Try.runUnderlying48 rfl) ?_
            refine p_yes hap hsel 9 rfl rfl ⟨_, hS.pick (by repeat first | exact .here _ _ | assumption | apply Pick.there)⟩ rfl rfl rfl (fun w hI => (q_cast (v' := .slice A75 ((d.F i.toNat).1.take b.length).length c75) (q_slice Try.runUnderlying48 Try.sizeOf5 rfl ⟨_, _, rfl, by omega, by omega, rfl⟩ rfl) (sl0 hA75 (by rw [List.length_take]; omega)))) ?_
            refine p_yes hap hsel 10 rfl rfl ⟨_, hS.pick (by repeat first | exact .here _ _ | assumption | apply Pick.there)⟩ rfl rfl rfl (fun w hI => q_string Try.runUnderlying48 Try.runUnderlying5 Try.runUnderlying9 rfl rfl (take0_rd (hI.choose_spec.rowRd (A := A75) (c := c75) (bs := (d.F i.toNat).1) (by repeat first | exact .here _ _ | assumption | apply Pick.there) rfl) b.length)) ?_
            refine p_yes hap hsel 11 rfl rfl ⟨_, hS.pick (by repeat first | exact .here _ _ | assumption | apply Pick.there)⟩ rfl rfl rfl (fun w hI => q_mv (.slice _ _ _) rfl) ?_
            refine p_yes hap hsel 12 rfl rfl ⟨_, hS.pick (by repeat first | exact .here _ _ | assumption | apply Pick.there)⟩ rfl rfl rfl (fun w hI => q_string Try.runUnderlying48 Try.runUnderlying5 Try.runUnderlying9 rfl rfl (Rd.st hb hI.choose_spec)) ?_
            refine p_yes hap hsel 13 rfl rfl ⟨_, hS.pick (by repeat first | exact .here _ _ | assumption | apply Pick.there)⟩ rfl rfl rfl (fun w hI => (q_cast (v' := .bool true) (q_eql_string rfl rfl) (by rw [htk]; simp))) ?_
            refine p_q hap hsel 14 rfl rfl ⟨_, hS.pick (by repeat first | exact .here _ _ | assumption | apply Pick.there)⟩ (fun w hI => q_pick_t rfl rfl) ?_
            refine p_q hap hsel 15 rfl rfl ⟨_, hS.pick (by repeat first | exact .here _ _ | assumption | apply Pick.there)⟩ (fun w hI => q_mv (.bool _) rfl) ?_
            refine p_yes hap hsel 16 rfl rfl ⟨_, hS.pick (by repeat first | exact .here _ _ | assumption | apply Pick.there)⟩ rfl rfl rfl (fun w hI => q_mv (.pointer _) rfl) ?_
            refine p_yes hap hsel 17 rfl rfl ⟨_, hS.pick (by repeat first | exact .here _ _ | assumption | apply Pick.there)⟩ rfl rfl rfl (fun w hI => q_mv (.int _ _) rfl) ?_
            refine p_yes hap hsel 19 rfl rfl ⟨_, hS.pick (by repeat first | exact .here _ _ | assumption | apply Pick.there)⟩ rfl rfl rfl (fun w hI => q_mv (.slice _ _ _) rfl) ?_
            refine p_yes hap hsel 20 rfl rfl ⟨_, hS.pick (by repeat first | exact .here _ _ | assumption | apply Pick.there)⟩ rfl rfl rfl (fun w hI => q_len_slice Try.runUnderlying48 rfl) ?_
            refine p_one 18 rfl (by kernel_rfl) ?_
            refine t_yes rfl rfl rfl ?_
            refine t_call Try.call81 (sync_in (g := gd) (d := d) (i := i) hS (by repeat first | exact .here _ _ | assumption | apply Pick.there) hG hio) rfl ?_
            rintro e w ⟨rfl, hS⟩
            refine ⟨_, rfl, ?_⟩
            refine t_nil ?_
            refine ⟨.inr ⟨_, hS.pick (by repeat first | exact .here _ _ | assumption | apply Pick.there)⟩, ?_⟩
            refine p_yes hap hsel 21 rfl rfl ⟨_, hS.pick (by repeat first | exact .here _ _ | assumption | apply Pick.there)⟩ rfl rfl rfl (fun w hI => (q_cast (v' := .bool true) (q_geq rfl rfl) (by rw [decide_eq_true (by omega)]))) ?_
            refine p_q hap hsel 22 rfl rfl ⟨_, hS.pick (by repeat first | exact .here _ _ | assumption | apply Pick.there)⟩ (fun w hI => q_pick_t rfl rfl) ?_
            refine p_q hap hsel 23 rfl rfl ⟨_, hS.pick (by repeat first | exact .here _ _ | assumption | apply Pick.there)⟩ (fun w hI => q_mv (.bool _) rfl) ?_
            refine p_one 24 rfl (by kernel_rfl) ?_
            refine t_yes rfl rfl rfl ?_
            refine t_call Try.call74 (dlives_calls) rfl ?_
            rintro e w ⟨rfl, hT⟩
            refine ⟨_, rfl, ?_⟩
            replace hS := hS.after hT
            refine t_nil ?_
            refine ⟨.inr ⟨_, hS.pick (by repeat first | exact .here _ _ | assumption | apply Pick.there)⟩, ?_⟩
            refine p_q hap hsel 25 rfl rfl ⟨_, hS.pick (by repeat first | exact .here _ _ | assumption | apply Pick.there)⟩ (fun w hI => q_pick_t rfl rfl) ?_
            refine p_q hap hsel 26 rfl rfl ⟨_, hS.pick (by repeat first | exact .here _ _ | assumption | apply Pick.there)⟩ (fun w hI => q_as (.bool _) rfl) ?_
            refine p_end (by kernel_rfl) ?_
            refine c_ret ?_
            refine r_one rfl rfl ?_
            exact ⟨rfl, hS.nil⟩
end Go.Proofs.Ytcikoealneldkaa
