/- Messages as bytes, in parcels: the document's. -/
import Derived.Test.YtlppgpidakfnlaaXk
import Derived.Test.YtlppgpidakfnlaaXf
namespace Go.Proofs.Ytlppgpidakfnlaa
open Go Go.RowKit Go.Lib
variable {W : World}
theorem qwbody_calls {x : MsgV} (hx : x.Gd W) (hs : Snd x) : Calls Try.prog 115 #[.agg x.cells.toArray] W fun e w' => ∃ A' m' c', e = .returned (.slice A' m' c') ∧ m' = (wb8 (fl x.kind) x).length ∧ St W w' [rowA 5 1 A' m' c' (((wb8 (fl x.kind) x)).map bv)] := by
  have h8 := wb8_len hx hs (fl x.kind)
  rcases fl_some x.kind with ⟨k, h⟩ | ⟨k, h⟩ | ⟨k, h⟩ | ⟨k, h⟩ | ⟨k, h⟩ | ⟨k, h⟩ | ⟨k, h⟩ | ⟨k, h⟩ | ⟨hn, h⟩
  · rw [h] at h8 ⊢; exact qwbody_1 hx hs k h8
  · rw [h] at h8 ⊢; exact qwbody_2 hx hs k h8
  · rw [h] at h8 ⊢; exact qwbody_3 hx hs k h8
  · rw [h] at h8 ⊢; exact qwbody_4 hx hs k h8
  · rw [h] at h8 ⊢; exact qwbody_5 hx hs k h8
  · rw [h] at h8 ⊢; exact qwbody_6 hx hs k h8
  · rw [h] at h8 ⊢; exact qwbody_7 hx hs k h8
  · rw [h] at h8 ⊢; exact qwbody_8 hx hs k h8
  · have := hs.kind; omega
attribute [local irreducible] blkA rowA
set_option maxHeartbeats 1000000 in
set_option maxRecDepth 100000 in
theorem qwbytes_calls {x : MsgV} (hx : x.Gd W) : Calls Try.prog 65 #[.agg x.cells.toArray] W fun e w' => ∃ A' m' c', e = .returned (.tuple #[.slice A' m' c', .int .i64 (wbE x)]) ∧ m' = (wbL x).length ∧ St W w' [rowA 5 1 A' m' c' ((wbL x).map bv)] := by
 have hS := St.init W
 refine calls_of_wpE (args := [_]) Try.func65 rfl rfl rfl ?_
 refine c_seq (c_region ?_)
 refine t_box (v := (.agg _)) rfl rfl hS (fun g1 w hS => ?_)
 replace hS := hS.recast (show _ = bmA g1 119 x from rfl)
 refine t_q (q_assign) ?_
 refine t_q (q_assign) ?_
 refine t_nil (c_seq (c_seq (c_region ?_)))
 refine t_q (q_cast (v' := .agg x.cells.toArray) (q_load_blk Try.isAgg119 Try.sizeOf119 rfl (hS.blk (by repeat constructor)) rfl) (by rfl)) ?_
 refine t_call Try.call60 (qwsound_calls (hx.st hS)) rfl ?_
 rintro e w ⟨rfl, hT⟩
 refine ⟨_, rfl, ?_⟩
 replace hS := hS.after hT
 refine t_q (q_not rfl) ?_
 refine t_nil ?_
 refine c_cond rfl ?_ ?_
 ·
  intro hc2
  have hsn : soundB x = false := not_back hc2
  refine c_seq (c_region ?_)
  refine t_q (q_assign) ?_
  refine t_q (q_assign) ?_
  refine t_nil (c_ret ?_)
  refine r_two rfl rfl rfl ?_
  first
    | (have e1 : wbE x = 2 := by unfold wbE; rw [hsn]; rfl
       have e2 : wbL x = [] := by unfold wbL; rw [hsn]; rfl
       rw [e1, e2]
       exact ⟨none, 0, 0, rfl, rfl, hS.nil.nilrow 5 1⟩)
    | (have e1 : wbE x = 0 := by unfold wbE; rw [hsy]; rfl
       have e2 : wbL x = X ++ parB 7 (left.take 65536) := by
         unfold wbL
         rw [hsy, ← hX, wm_last (by omega)]
         rfl
       have hS : St W w (_ :: _) := hS0.lift hS
       rw [e1, e2]
       exact ⟨A20, _, c20, rfl, by rw [List.length_append, hm2, hm19], ((hS.pick (A := rowA 5 1 A20 _ c20 _) (by repeat constructor)).recast (show _ = rowA 5 1 A20 (m2 + m19) c20 ((X ++ parB 7 (left.take 65536)).map bv) from by rw [List.map_append])).front1⟩)
 ·
  intro hc2
  have hsy : soundB x = true := not_back hc2
  have hs := snd_of hsy
  refine c_skip (c_seq (c_region ?_))
  refine t_q (q_assign) ?_
  refine t_nil (c_seq (c_region ?_))
  refine t_q (q_cast (v' := .agg x.cells.toArray) (q_load_blk Try.isAgg119 Try.sizeOf119 rfl (hS.blk (by repeat constructor)) rfl) (by rfl)) ?_
  refine t_call Try.call115 (qwbody_calls (hx.st hS) hs) rfl ?_
  rintro e w ⟨A12, m12, c12, rfl, hm12, hT⟩
  refine ⟨_, rfl, ?_⟩
  have hS : St W w (_ :: _) := hS.lift hT
  subst hm12
  have hle12 := hS.row_le (t := 5) (size := 1) (A := A12) (c := c12) (by repeat constructor)
  have hb1 := hS.rowRd (A := A12) (c := c12) (bs := (wb8 (fl x.kind) x)) (by repeat constructor) rfl
  have hS0 := hS
  obtain ⟨w1, hw1⟩ : ∃ x, x = w := ⟨_, rfl⟩
  subst hw1
  replace hS := St.init w1
  have hyl := wb8_len hx hs (fl x.kind)
  have hwl := wm_len _ (wb8 (fl x.kind) x) (Nat.le_refl _)
  refine t_q (q_as (.slice _ _ _) rfl) ?_
  refine t_nil (c_block ?_)
  refine c_loop [2, 3, 4, 5, 6, 12, 13, 14, 15, 16, 17, 18, 19, 20, 21, 22, 23, 24, 25, 26] (fun k σ w => ∃ (left : List UInt8) (B : Option Addr) (cl : Nat) (X : List UInt8) (A2 : Option Addr) (m2 c2 : Nat), σ 5 = .slice B left.length cl ∧ σ 4 = .slice A2 m2 c2 ∧ m2 = X.length ∧ RdB w1 B left ∧ (left.length ≤ cl ∧ left.length ≤ 2000000) ∧ X ++ wm left = wm (wb8 (fl x.kind) x) ∧ left.length ≤ k ∧ St w1 w [rowA 5 1 A2 m2 c2 ((X).map bv)]) ((wb8 (fl x.kind) x).length) rfl (⟨(wb8 (fl x.kind) x), A12, c12, [], none, 0, 0, rfl, rfl, rfl, hb1, ⟨hle12, hyl⟩, rfl, Nat.le_refl _, hS.nilrow 5 1⟩) ?_
  skip
  rintro k σ w ⟨left, B, cl, X, A2, m2, c2, h5, h4, hm2, hB, hcl, hX, hk, hS⟩
  refine c_know 5 h5 ?_
  refine c_know 4 h4 ?_
  clear h5 h4
  have hXl := congrArg List.length hX
  rw [List.length_append] at hXl
  refine c_block (c_seq (c_region ?_))
  refine t_q (q_mv (.slice _ _ _) rfl) ?_
  refine t_q (q_len_slice Try.runUnderlying25 rfl) ?_
  refine t_q (q_cast (v' := .int .i64 (((min left.length 65536) : Nat) : Int)) (q_min rfl rfl) (by congr 1; omega)) ?_
  refine t_q (q_as (.int _ _) rfl) ?_
  refine t_nil (c_seq (c_region ?_))
  refine t_q (q_mv (.slice _ _ _) rfl) ?_
  refine t_q (q_mv (.slice _ _ _) rfl) ?_
  refine t_q (q_mv (.int _ _) rfl) ?_
  refine t_q (q_cast (v' := .slice (if cl = 0 then B else B.map (·.add (0 * 1))) (left.take 65536).length (cl - 0)) (q_slice Try.runUnderlying25 Try.sizeOf5 rfl ⟨_, _, rfl, by omega, by omega, rfl⟩ rfl) (by rw [List.length_take, Nat.min_comm]; rfl)) ?_
  have hB2 : RdB w (if cl = 0 then B else B.map (·.add (0 * 1))) (left.take 65536) := by
    have h := take_rd (k := (min left.length 65536)) (c := cl) (Rd.st hB hS) (by omega) ⟨by omega, by omega⟩
    rwa [min65_take] at h
  refine t_call Try.call80 (qpbytes_calls (kk := 7) hB2 (by rw [List.length_take]; omega) (by rw [List.length_take]; omega)) rfl ?_
  rintro e w ⟨A19, m19, c19, rfl, hm19, hT⟩
  refine ⟨_, rfl, ?_⟩
  have hS : St w1 w (_ :: _) := hS.lift hT
  have hpl := wp_len left
  rw [List.length_take] at hpl
  refine t_append_own (size := 1) (bytes := 1) Try.underlying25 (info_of Try.type5) rfl rfl rfl rfl (by decide) hS (by repeat constructor) (by repeat constructor) rfl rfl (by first | exact allOne_bv _ | exact allOne_ints _ _ | rfl) (by unfold maxLen; omega) (by omega) (fun A20 c20 w hS => ?_)
  refine t_q (q_as (.slice _ _ _) rfl) ?_
  refine t_nil (c_seq (c_region ?_))
  refine t_q (q_mv (.slice _ _ _) rfl) ?_
  refine t_q (q_mv (.int _ _) rfl) ?_
  refine t_q (q_cast (v' := .slice (if cl = (min left.length 65536) then B else B.map (·.add ((min left.length 65536) * 1))) (left.drop (min left.length 65536)).length (cl - (min left.length 65536))) (q_slice Try.runUnderlying25 Try.sizeOf5 rfl rfl ⟨_, _, rfl, by omega, by omega, rfl⟩) (by rw [List.length_drop]; rfl)) ?_
  refine t_q (q_as (.slice _ _ _) rfl) ?_
  refine t_nil (c_seq (c_region ?_))
  refine t_q (q_mv (.int _ _) rfl) ?_
  refine t_q (q_lss rfl rfl) ?_
  refine t_nil ?_
  refine c_cond rfl ?_ ?_
  ·
   intro hc6
   have hc6d := of_decide_eq_true hc6
   refine c_seq (c_region ?_)
   refine t_q (q_mv (.slice _ _ _) rfl) ?_
   refine t_q (q_as (.slice _ _ _) rfl) ?_
   refine t_q (q_assign) ?_
   refine t_nil (c_ret ?_)
   refine r_two rfl rfl rfl ?_
   first
     | (have e1 : wbE x = 2 := by unfold wbE; rw [hsn]; rfl
        have e2 : wbL x = [] := by unfold wbL; rw [hsn]; rfl
        rw [e1, e2]
        exact ⟨none, 0, 0, rfl, rfl, hS.nil.nilrow 5 1⟩)
     | (have e1 : wbE x = 0 := by unfold wbE; rw [hsy]; rfl
        have e2 : wbL x = X ++ parB 7 (left.take 65536) := by
          unfold wbL
          rw [hsy, ← hX, wm_last (by omega)]
          rfl
        have hS : St W w (_ :: _) := hS0.lift hS
        rw [e1, e2]
        exact ⟨A20, _, c20, rfl, by rw [List.length_append, hm2, hm19], ((hS.pick (A := rowA 5 1 A20 _ c20 _) (by repeat constructor)).recast (show _ = rowA 5 1 A20 (m2 + m19) c20 ((X ++ parB 7 (left.take 65536)).map bv) from by rw [List.map_append])).front1⟩)
  ·
   intro hc6
   have hc6d := of_decide_eq_false hc6
   refine c_skip ?_
   refine ⟨k - 1, by omega, left.drop (min left.length 65536), _, _, X ++ parB 7 (left.take 65536), A20, _, c20, rfl, rfl, ?_, drop_rd hB (by omega) ⟨hcl.1, by omega⟩, ?_, ?_, ?_, ?_⟩
   · rw [List.length_append, hm2, hm19]
   · rw [List.length_drop]; omega
   · rw [List.append_assoc, min65_drop, ← wm_more (by omega)]; exact hX
   · rw [List.length_drop]; omega
   · exact ((hS.pick (A := rowA 5 1 A20 _ c20 _) (by repeat constructor)).recast (show _ = rowA 5 1 A20 (m2 + m19) c20 ((X ++ parB 7 (left.take 65536)).map bv) from by rw [List.map_append])).front1
end Go.Proofs.Ytlppgpidakfnlaa
