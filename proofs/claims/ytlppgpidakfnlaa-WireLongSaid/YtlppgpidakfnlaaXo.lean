/- The chapter's example; what is read of what was written. -/
import Derived.Test.YtlppgpidakfnlaaXn
namespace Go.Proofs.Ytlppgpidakfnlaa
open Go Go.RowKit Go.Lib
variable {W : World}
def tT : MsgV := ⟨6, 1, 0, 3, 9, 0, 0, false, sl0, sl0, 0, 0, sl0⟩
def tTB : List UInt8 := enc 6 ++ (enc 1 ++ (enc 0 ++ (enc 3 ++ enc 9)))
theorem tT_sound : soundB tT = true := by decide
theorem tT_gd {w : World} : tT.Gd w := ⟨by decide, by decide, by decide, by decide, by decide, by decide, by decide, by decide, by decide, Rd.none_ _ _ _ _, (fun e he => by cases he), by decide, Rd.none_ _ _ _ _, ⟨by decide, by decide⟩, Rd.none_ _ _ _ _, (fun e he => by cases he), by decide⟩
theorem tTB_eq : tTB = [6, 1, 0, 3, 9] := by unfold tTB; rw [enc_small (by decide), enc_small (by decide), enc_small (by decide), enc_small (by decide), enc_small (by decide)]; rfl
theorem tT_wb : wb8 (fl tT.kind) tT = tTB := by
  show wb8 2 tT = tTB
  have e0 : wb0 tT = enc 6 ++ (enc 1 ++ (enc 0 ++ enc 3)) := rfl
  have e : wb8 2 tT = (wb0 tT ++ enc 9) ++ [] := rfl
  rw [e, e0]
  simp [tTB]
theorem tT_bytes : wbE tT = 0 ∧ wbL tT = parB 7 tTB := by
  unfold wbE wbL
  rw [tT_sound, tT_wb]
  refine ⟨rfl, ?_⟩
  show wm tTB = _
  exact wm_small (by rw [tTB_eq]; decide)
/-- what was written is read -/
theorem out_back {x y : MsgV} {w : World} {er : Int} (hx : x.Gd w) (hs : soundB x = true) (h : RdOut (wm (wb8 (fl x.kind) x)) y er) : er = 0 ∧ y.vw = x.vw := by
  obtain ⟨e1, e2⟩ := mM_back hx hs
  have hj := jn_wm _ (wb8 (fl x.kind) x) (Nat.le_refl _)
  rcases h with ⟨h0, Z, hZ, hv, _, _⟩ | ⟨_, _, hno⟩
  · rw [hj] at hZ
    injection hZ with hZ
    subst hZ
    exact ⟨h0, hv.trans e1⟩
  · have h := hno _ hj (by rw [e2]; rfl) x e1.symm
    rw [hs] at h
    cases h
attribute [local irreducible] blkA rowA rdrA rdsA
set_option maxHeartbeats 1000000 in
set_option maxRecDepth 100000 in
theorem wlives_calls : Calls Try.prog 58 #[] W fun e w' => e = .returned (.bool true) ∧ St W w' [] := by
 have hS := St.init W
 refine calls_of_wpE (args := []) Try.func58 rfl rfl rfl ?_
 refine c_seq (c_region ?_)
 refine t_q (q_assign) ?_
 refine t_nil (c_seq (c_region ?_))
 refine t_q (q_cast (v' := .agg tT.cells.toArray) (q_build (qs := [(0, 1), (1, 1), (2, 1), (3, 1), (4, 1), (5, 1), (6, 1), (7, 1), (8, 1), (9, 1), (10, 1), (11, 1), (12, 1)]) [(.int _ _), (.int _ _), (.int _ _), (.int _ _), (.int _ _), (.int _ _), (.int _ _), (.bool _), (.slice _ _ _), (.slice _ _ _), (.int _ _), (.int _ _), (.slice _ _ _)] Try.zeroValue114 Try.runUnderlying114 ⟨rfl, Try.sizeOf3, rfl, Try.sizeOf3, rfl, Try.sizeOf3, rfl, Try.sizeOf43, rfl, Try.sizeOf43, rfl, Try.sizeOf43, rfl, Try.sizeOf43, rfl, Try.sizeOf4, rfl, Try.sizeOf111, rfl, Try.sizeOf25, rfl, Try.sizeOf43, rfl, Try.sizeOf43, rfl, Try.sizeOf112, trivial⟩ rfl rfl) (by rfl)) ?_
 refine t_call Try.call64 (wbytes_calls (x := tT) tT_gd) rfl ?_
 rintro e w ⟨A7, m7, c7, rfl, hm7, hT⟩
 refine ⟨_, rfl, ?_⟩
 have hS : St W w (_ :: _) := hS.lift hT
 rw [tT_bytes.1]
 subst hm7
 have hle7 := hS.row_le (t := 5) (size := 1) (A := A7) (c := c7) (by repeat constructor)
 have hpl : (wbL tT).length ≤ 35 := by rw [tT_bytes.2]; have h := wm_len _ tTB (Nat.le_refl _); rw [wm_small (by rw [tTB_eq]; decide), show tTB.length = 5 from by rw [tTB_eq]; rfl] at h; omega
 refine t_q (q_mv (.tuple _) rfl) ?_
 refine t_q (q_extract rfl rfl) ?_
 refine t_q (q_extract rfl rfl) ?_
 refine t_q (q_as (.slice _ _ _) rfl) ?_
 refine t_q (q_as (.int _ _) rfl) ?_
 refine t_nil (c_seq (c_region ?_))
 refine t_q (q_mv (.slice _ _ _) rfl) ?_
 refine t_call Try.call66 (read_calls (hS.rowRd (A := A7) (c := c7) (bs := wbL tT) (by repeat constructor) rfl) ⟨hle7, by omega⟩) rfl ?_
 rintro e w ⟨y, er, rfl, hby, hout, hT⟩
 refine ⟨_, rfl, ?_⟩
 replace hS := hS.after hT.nil
 obtain ⟨he, hv⟩ := out_back (x := tT) (w := w) tT_gd tT_sound (by unfold wbL at hout; rw [tT_sound] at hout; exact hout)
 have hyk : y.kind = 6 := congrArg Mg.kind hv
 have hyi : y.index = 9 := congrArg Mg.index hv
 subst he
 refine t_q (q_mv (.tuple _) rfl) ?_
 refine t_q (q_extract rfl rfl) ?_
 refine t_q (q_extract rfl rfl) ?_
 refine t_alloc Try.zeroValue114 rfl hS (fun g3 w hS => ?_)
 refine t_store (v := (.agg _)) Try.sizeOf114 hS (by repeat constructor) rfl rfl rfl rfl rfl rfl (fun w hS => ?_)
 replace hS := hS.recast (show blkA g3 114 _ = bmA g3 114 y from rfl)
 refine t_q (q_as (.int _ _) rfl) ?_
 refine t_nil (c_seq (c_draw ?_))
 refine d_keep2 (rowA 5 1 A7 (wbL tT).length c7 ((wbL tT).map bv)) (bmA g3 114 y) 25 [0, 1, 2, 3, 4, 5, 6, 7, 8, 9, 10, 11, 12, 13, 14, 15, 16, 17, 18, 19, 20, 21, 22, 23, 24] [0, 1, 2, 3, 4, 5, 6, 7, 8, 9, 10, 11, 12, 13, 14, 15, 16, 17, 18, 19, 20, 21, 22, 23, 24] hS rfl (by kernel_rfl) (by kernel_rfl) (by kernel_rfl) (by kernel_rfl) (fun hap hsel w hS => ?_)
 refine p_q hap hsel 0 rfl rfl ⟨_, ((hS.pick (A := bmA g3 114 y) (by repeat constructor)).pick (A := rowA 5 1 A7 (wbL tT).length c7 ((wbL tT).map bv)) (by repeat constructor))⟩ (fun w hI => q_mv (.int _ _) rfl) ?_
 refine p_q hap hsel 1 rfl rfl ⟨_, ((hS.pick (A := bmA g3 114 y) (by repeat constructor)).pick (A := rowA 5 1 A7 (wbL tT).length c7 ((wbL tT).map bv)) (by repeat constructor))⟩ (fun w hI => (q_cast (v' := .bool true) (q_eql rfl rfl) (by rfl))) ?_
 refine p_q hap hsel 2 rfl rfl ⟨_, ((hS.pick (A := bmA g3 114 y) (by repeat constructor)).pick (A := rowA 5 1 A7 (wbL tT).length c7 ((wbL tT).map bv)) (by repeat constructor))⟩ (fun w hI => q_mv (.bool _) rfl) ?_
 refine p_yes hap hsel 3 rfl rfl ⟨_, ((hS.pick (A := bmA g3 114 y) (by repeat constructor)).pick (A := rowA 5 1 A7 (wbL tT).length c7 ((wbL tT).map bv)) (by repeat constructor))⟩ rfl rfl rfl (fun w hI => q_mv (.slice _ _ _) rfl) ?_
 refine p_yes hap hsel 4 rfl rfl ⟨_, ((hS.pick (A := bmA g3 114 y) (by repeat constructor)).pick (A := rowA 5 1 A7 (wbL tT).length c7 ((wbL tT).map bv)) (by repeat constructor))⟩ rfl rfl rfl (fun w hI => q_string Try.runUnderlying25 Try.runUnderlying5 Try.runUnderlying9 rfl rfl (hI.choose_spec.rowRd (A := A7) (c := c7) (bs := wbL tT) (by repeat constructor) rfl)) ?_
 refine p_one 5 rfl (by kernel_rfl) ?_
 refine t_yes rfl rfl rfl ?_
 refine t_build_bytes [_, _, _, _, _] Try.runUnderlying25 Try.sizeOf5 Try.zeroValue5 rfl rfl (by simp; try omega) (by decide) hS (fun g20 w hS => ?_)
 replace hS := hS.recast (show _ = rowA 5 1 (some ⟨g20, 0, none⟩) 5 5 ((([6, 1, 0, 3, 9] : List UInt8)).map bv) from rfl)
 refine t_nil ?_
 refine ⟨.inr ⟨_, ((hS.pick (A := bmA g3 114 y) (by repeat constructor)).pick (A := rowA 5 1 A7 (wbL tT).length c7 ((wbL tT).map bv)) (by repeat constructor))⟩, ?_⟩
 refine p_one 6 rfl (by kernel_rfl) ?_
 refine t_yes rfl rfl rfl ?_
 refine t_call Try.call80 (qpbytes_calls (kk := 7) (hS.rowRd (A := some ⟨g20, 0, none⟩) (bs := [6, 1, 0, 3, 9]) (by repeat constructor) rfl) (by decide) (by decide)) rfl ?_
 rintro e w ⟨A21, m21, c21, rfl, hm21, hT⟩
 refine ⟨_, rfl, ?_⟩
 have hS : St W w (_ :: _) := hS.lift hT
 subst hm21
 refine t_nil ?_
 refine ⟨.inr ⟨_, ((hS.pick (A := bmA g3 114 y) (by repeat constructor)).pick (A := rowA 5 1 A7 (wbL tT).length c7 ((wbL tT).map bv)) (by repeat constructor))⟩, ?_⟩
 refine p_one 7 rfl (by kernel_rfl) ?_
 refine t_yes rfl rfl rfl ?_
 refine t_q (q_string Try.runUnderlying25 Try.runUnderlying5 Try.runUnderlying9 rfl rfl (hS.rowRd (A := A21) (c := c21) (bs := parB 7 [6, 1, 0, 3, 9]) (by repeat constructor) rfl)) ?_
 refine t_nil ?_
 refine ⟨.inr ⟨_, ((hS.pick (A := bmA g3 114 y) (by repeat constructor)).pick (A := rowA 5 1 A7 (wbL tT).length c7 ((wbL tT).map bv)) (by repeat constructor))⟩, ?_⟩
 refine p_yes hap hsel 8 rfl rfl ⟨_, ((hS.pick (A := bmA g3 114 y) (by repeat constructor)).pick (A := rowA 5 1 A7 (wbL tT).length c7 ((wbL tT).map bv)) (by repeat constructor))⟩ rfl rfl rfl (fun w hI => (q_cast (v' := .bool true) (q_eql_string rfl rfl) (by rw [tT_bytes.2, tTB_eq]; simp))) ?_
 refine p_q hap hsel 9 rfl rfl ⟨_, ((hS.pick (A := bmA g3 114 y) (by repeat constructor)).pick (A := rowA 5 1 A7 (wbL tT).length c7 ((wbL tT).map bv)) (by repeat constructor))⟩ (fun w hI => q_pick_t rfl rfl) ?_
 refine p_q hap hsel 10 rfl rfl ⟨_, ((hS.pick (A := bmA g3 114 y) (by repeat constructor)).pick (A := rowA 5 1 A7 (wbL tT).length c7 ((wbL tT).map bv)) (by repeat constructor))⟩ (fun w hI => q_mv (.bool _) rfl) ?_
 refine p_yes hap hsel 11 rfl rfl ⟨_, ((hS.pick (A := bmA g3 114 y) (by repeat constructor)).pick (A := rowA 5 1 A7 (wbL tT).length c7 ((wbL tT).map bv)) (by repeat constructor))⟩ rfl rfl rfl (fun w hI => q_mv (.int _ _) rfl) ?_
 refine p_yes hap hsel 12 rfl rfl ⟨_, ((hS.pick (A := bmA g3 114 y) (by repeat constructor)).pick (A := rowA 5 1 A7 (wbL tT).length c7 ((wbL tT).map bv)) (by repeat constructor))⟩ rfl rfl rfl (fun w hI => (q_cast (v' := .bool true) (q_eql rfl rfl) (by rfl))) ?_
 refine p_q hap hsel 13 rfl rfl ⟨_, ((hS.pick (A := bmA g3 114 y) (by repeat constructor)).pick (A := rowA 5 1 A7 (wbL tT).length c7 ((wbL tT).map bv)) (by repeat constructor))⟩ (fun w hI => q_pick_t rfl rfl) ?_
 refine p_q hap hsel 14 rfl rfl ⟨_, ((hS.pick (A := bmA g3 114 y) (by repeat constructor)).pick (A := rowA 5 1 A7 (wbL tT).length c7 ((wbL tT).map bv)) (by repeat constructor))⟩ (fun w hI => q_mv (.bool _) rfl) ?_
 refine p_yes hap hsel 15 rfl rfl ⟨_, ((hS.pick (A := bmA g3 114 y) (by repeat constructor)).pick (A := rowA 5 1 A7 (wbL tT).length c7 ((wbL tT).map bv)) (by repeat constructor))⟩ rfl rfl rfl (fun w hI => q_fieldAddr 0 Try.runUnderlying114 rfl Try.sizeOf3 (by decide) rfl rfl) ?_
 refine p_yes hap hsel 16 rfl rfl ⟨_, ((hS.pick (A := bmA g3 114 y) (by repeat constructor)).pick (A := rowA 5 1 A7 (wbL tT).length c7 ((wbL tT).map bv)) (by repeat constructor))⟩ rfl rfl rfl (fun w hI => q_load1 Try.isAgg3 rfl (hI.choose_spec.cell (by repeat constructor) rfl)) ?_
 refine p_yes hap hsel 17 rfl rfl ⟨_, ((hS.pick (A := bmA g3 114 y) (by repeat constructor)).pick (A := rowA 5 1 A7 (wbL tT).length c7 ((wbL tT).map bv)) (by repeat constructor))⟩ rfl rfl rfl (fun w hI => (q_cast (v' := .bool true) (q_eql rfl rfl) (congrArg Value.bool (decide_eq_true hyk)))) ?_
 refine p_q hap hsel 18 rfl rfl ⟨_, ((hS.pick (A := bmA g3 114 y) (by repeat constructor)).pick (A := rowA 5 1 A7 (wbL tT).length c7 ((wbL tT).map bv)) (by repeat constructor))⟩ (fun w hI => q_pick_t rfl rfl) ?_
 refine p_q hap hsel 19 rfl rfl ⟨_, ((hS.pick (A := bmA g3 114 y) (by repeat constructor)).pick (A := rowA 5 1 A7 (wbL tT).length c7 ((wbL tT).map bv)) (by repeat constructor))⟩ (fun w hI => q_mv (.bool _) rfl) ?_
 refine p_yes hap hsel 20 rfl rfl ⟨_, ((hS.pick (A := bmA g3 114 y) (by repeat constructor)).pick (A := rowA 5 1 A7 (wbL tT).length c7 ((wbL tT).map bv)) (by repeat constructor))⟩ rfl rfl rfl (fun w hI => q_fieldAddr 4 Try.runUnderlying114 rfl Try.sizeOf43 (by decide) rfl rfl) ?_
 refine p_yes hap hsel 21 rfl rfl ⟨_, ((hS.pick (A := bmA g3 114 y) (by repeat constructor)).pick (A := rowA 5 1 A7 (wbL tT).length c7 ((wbL tT).map bv)) (by repeat constructor))⟩ rfl rfl rfl (fun w hI => q_load1 Try.isAgg43 rfl (hI.choose_spec.cell (by repeat constructor) rfl)) ?_
 refine p_yes hap hsel 22 rfl rfl ⟨_, ((hS.pick (A := bmA g3 114 y) (by repeat constructor)).pick (A := rowA 5 1 A7 (wbL tT).length c7 ((wbL tT).map bv)) (by repeat constructor))⟩ rfl rfl rfl (fun w hI => (q_cast (v' := .bool true) (q_eql rfl rfl) (congrArg Value.bool (decide_eq_true hyi)))) ?_
 refine p_q hap hsel 23 rfl rfl ⟨_, ((hS.pick (A := bmA g3 114 y) (by repeat constructor)).pick (A := rowA 5 1 A7 (wbL tT).length c7 ((wbL tT).map bv)) (by repeat constructor))⟩ (fun w hI => q_pick_t rfl rfl) ?_
 refine p_q hap hsel 24 rfl rfl ⟨_, ((hS.pick (A := bmA g3 114 y) (by repeat constructor)).pick (A := rowA 5 1 A7 (wbL tT).length c7 ((wbL tT).map bv)) (by repeat constructor))⟩ (fun w hI => q_as (.bool _) rfl) ?_
 refine p_end (by kernel_rfl) ?_
 refine c_ret ?_
 refine r_one rfl rfl ?_
 exact ⟨rfl, hS.nil⟩
end Go.Proofs.Ytlppgpidakfnlaa
