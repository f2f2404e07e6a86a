/- Messages as bytes, in parcels. -/
import Derived.Test.YtlppgpidakfnlaaXg
import Derived.Test.YtlppgpidakfnlaaPg
namespace Go.Proofs.Ytlppgpidakfnlaa
open Go Go.RowKit Go.Lib
variable {W : World}
/-- a message's bytes in parcels -/
def wm (b : List UInt8) : List UInt8 := parB 7 (b.take 65536) ++ (if h : b.length < 65536 then [] else wm (b.drop 65536))
termination_by b.length
decreasing_by rw [List.length_drop]; omega
theorem wm_last {b : List UInt8} (h : b.length < 65536) : wm b = parB 7 (b.take 65536) := by rw [wm, dif_pos h, List.append_nil]
theorem wm_more {b : List UInt8} (h : ¬ b.length < 65536) : wm b = parB 7 (b.take 65536) ++ wm (b.drop 65536) := by rw [wm, dif_neg h]
theorem wm_small {b : List UInt8} (h : b.length < 65536) : wm b = parB 7 b := by rw [wm_last h, List.take_of_length_le (by omega)]
theorem wp_len (b : List UInt8) : (parB 7 (b.take 65536)).length ≤ (b.take 65536).length + 8 := by
  have h3 := enc_three (n := (b.take 65536).length) (by rw [List.length_take]; omega)
  rw [par_len]
  omega
theorem wm_len : ∀ (m : Nat) (b : List UInt8), b.length ≤ m → (wm b).length ≤ 2 * b.length + 8
  | m, b, h => by
    have h1 := wp_len b
    rw [List.length_take] at h1
    by_cases h0 : b.length < 65536
    · rw [wm_last h0]; omega
    · rw [wm_more h0, List.length_append]
      cases m with
      | zero => omega
      | succ m =>
        have h2 := wm_len m (b.drop 65536) (by rw [List.length_drop]; omega)
        rw [List.length_drop] at h2
        omega
theorem min65_drop (l : List UInt8) : l.drop (min l.length 65536) = l.drop 65536 := by
  rcases Nat.le_total l.length 65536 with h | h
  · rw [Nat.min_eq_left h, List.drop_length, List.drop_eq_nil_of_le h]
  · rw [Nat.min_eq_right h]
theorem min65_take (l : List UInt8) : l.take (min l.length 65536) = l.take 65536 := by
  rcases Nat.le_total l.length 65536 with h | h
  · rw [Nat.min_eq_left h, List.take_length, List.take_of_length_le h]
  · rw [Nat.min_eq_right h]
def wbE (x : MsgV) : Int := if soundB x then 0 else 2
def wbL (x : MsgV) : List UInt8 := if soundB x then wm (wb8 (fl x.kind) x) else []
theorem wb8_len {x : MsgV} {W : World} (hx : x.Gd W) (hs : Snd x) (v : Int) : (wb8 v x).length ≤ 2000000 := by
  obtain ⟨_, _, _, _, _, l5⟩ := wb_lens hx hs v
  have h6 := ents_len x.entries.l hx.eok hs.ebody
  have he := hs.ents
  have hb := hs.body
  have h7 := enc_ten (n := x.body.l.length) (by omega)
  have h8 := enc_ten (n := x.client.toNat) (by have := hx.client; omega)
  have h9 := enc_ten (n := x.req.toNat) (by have := hx.req; omega)
  have h10 := evsB_len hx.vin
  have h11 := (evE_zero hs.evs).1
  have h13 := enc_ten (n := x.events.l.length) (by omega)
  have h12 : (evsB x.events.l).length ≤ 10 + 120 * x.events.l.length := by unfold evsB; rw [List.length_append]; omega
  have l6 : (wb6 v x).length ≤ 20000 := by unfold wb6; rw [List.length_append]; omega
  have l7 : (wb7 v x).length ≤ 600000 := by unfold wb7; split <;> (try simp only [List.length_append]) <;> omega
  unfold wb8
  split
  · simp only [List.length_append]; omega
  · omega
theorem wbody_calls {x : MsgV} (hx : x.Gd W) (hs : Snd x) : Calls Try.prog 114 #[.agg x.cells.toArray] W fun e w' => ∃ A' c', e = .returned (.slice A' (wb8 (fl x.kind) x).length c') ∧ (wb8 (fl x.kind) x).length ≤ c' ∧ St W w' [rowA 5 1 A' (wb8 (fl x.kind) x).length c' (((wb8 (fl x.kind) x)).map bv)] := by
  have h8 := wb8_len hx hs (fl x.kind)
  rcases fl_some x.kind with ⟨k, h⟩ | ⟨k, h⟩ | ⟨k, h⟩ | ⟨k, h⟩ | ⟨k, h⟩ | ⟨k, h⟩ | ⟨k, h⟩ | ⟨k, h⟩ | ⟨hn, h⟩
  · rw [h] at h8 ⊢; exact wbody_1 hx hs k (by omega)
  · rw [h] at h8 ⊢; exact wbody_2 hx hs k (by omega)
  · rw [h] at h8 ⊢; exact wbody_3 hx hs k (by omega)
  · rw [h] at h8 ⊢; exact wbody_4 hx hs k (by omega)
  · rw [h] at h8 ⊢; exact wbody_5 hx hs k (by omega)
  · rw [h] at h8 ⊢; exact wbody_6 hx hs k (by omega)
  · rw [h] at h8 ⊢; exact wbody_7 hx hs k (by omega)
  · rw [h] at h8 ⊢; exact wbody_8 hx hs k (by omega)
  · have := hs.kind; omega
attribute [local irreducible] blkA rowA
set_option maxHeartbeats 1000000 in
set_option maxRecDepth 100000 in
theorem wbytes_calls {x : MsgV} (hx : x.Gd W) : Calls Try.prog 64 #[.agg x.cells.toArray] W fun e w' => ∃ A' m' c', e = .returned (.tuple #[.slice A' m' c', .int .i64 (wbE x)]) ∧ m' = (wbL x).length ∧ St W w' [rowA 5 1 A' m' c' ((wbL x).map bv)] := by
 have hS := St.init W
 refine calls_of_wpE (args := [_]) Try.func64 rfl rfl rfl ?_
 refine c_seq (c_region ?_)
 refine t_box (v := (.agg _)) rfl rfl hS (fun g1 w hS => ?_)
 replace hS := hS.recast (show _ = bmA g1 114 x from rfl)
 refine t_q (q_assign) ?_
 refine t_q (q_assign) ?_
 refine t_nil (c_seq (c_seq (c_region ?_)))
 refine t_q (q_cast (v' := .agg x.cells.toArray) (q_load_blk Try.isAgg114 Try.sizeOf114 rfl (hS.blk (by repeat constructor)) rfl) (by rfl)) ?_
 refine t_call Try.call59 (wsound_calls (hx.st hS)) rfl ?_
 rintro e w ⟨rfl, hT⟩
 refine ⟨_, rfl, ?_⟩
 replace hS := hS.after hT
 refine t_q (q_not rfl) ?_
 refine t_nil ?_
 refine c_cond rfl ?_ ?_
 ·
  intro hc2
  have hsn : soundB x = false := not_back hc2
  refine c_seq (c_region ?_)
  refine t_q (q_assign) ?_
  refine t_q (q_assign) ?_
  refine t_nil (c_ret ?_)
  refine r_two rfl rfl rfl ?_
  first
    | (have e1 : wbE x = 2 := by unfold wbE; rw [hsn]; rfl
       have e2 : wbL x = [] := by unfold wbL; rw [hsn]; rfl
       rw [e1, e2]
       exact ⟨none, 0, 0, rfl, rfl, hS.nil.nilrow 5 1⟩)
    | (have e1 : wbE x = 0 := by unfold wbE; rw [hsy]; rfl
       have e2 : wbL x = X ++ parB 7 (left.take 65536) := by
         unfold wbL
         rw [hsy, ← hX, wm_last (by omega)]
         rfl
       have hS : St W w (_ :: _) := hS0.lift hS
       rw [e1, e2]
       exact ⟨A25, _, c25, rfl, by rw [List.length_append, hm2, hm20], ((hS.pick (A := rowA 5 1 A25 _ c25 _) (by repeat constructor)).recast (show _ = rowA 5 1 A25 (m2 + m20) c25 ((X ++ parB 7 (left.take 65536)).map bv) from by rw [List.map_append])).front1⟩)
 ·
  intro hc2
  have hsy : soundB x = true := not_back hc2
  have hs := snd_of hsy
  refine c_skip (c_seq (c_region ?_))
  refine t_q (q_cast (v' := .agg x.cells.toArray) (q_load_blk Try.isAgg114 Try.sizeOf114 rfl (hS.blk (by repeat constructor)) rfl) (by rfl)) ?_
  refine t_call Try.call114 (wbody_calls (hx.st hS) hs) rfl ?_
  rintro e w ⟨A12, c12, rfl, hc12, hT⟩
  refine ⟨_, rfl, ?_⟩
  have hS : St W w (_ :: _) := hS.lift hT
  have hb1 := hS.rowRd (A := A12) (c := c12) (bs := (wb8 (fl x.kind) x)) (by repeat constructor) rfl
  have hS0 := hS
  obtain ⟨w1, hw1⟩ : ∃ x, x = w := ⟨_, rfl⟩
  subst hw1
  replace hS := St.init w1
  have hyl := wb8_len hx hs (fl x.kind)
  have hwl := wm_len _ (wb8 (fl x.kind) x) (Nat.le_refl _)
  refine t_q (q_as (.slice _ _ _) rfl) ?_
  refine t_nil (c_block ?_)
  refine c_loop [2, 3, 4, 5, 6, 7, 13, 14, 15, 16, 17, 18, 19, 20, 21, 22, 23, 24, 25, 26, 27, 28, 29, 30, 31] (fun k σ w => ∃ (left : List UInt8) (B : Option Addr) (cl : Nat) (X : List UInt8) (A2 : Option Addr) (m2 c2 : Nat), σ 4 = .slice B left.length cl ∧ σ 2 = .slice A2 m2 c2 ∧ m2 = X.length ∧ RdB w1 B left ∧ (left.length ≤ cl ∧ left.length ≤ 2000000) ∧ X ++ wm left = wm (wb8 (fl x.kind) x) ∧ left.length ≤ k ∧ St w1 w [rowA 5 1 A2 m2 c2 ((X).map bv)]) ((wb8 (fl x.kind) x).length) rfl (⟨(wb8 (fl x.kind) x), A12, c12, [], none, 0, 0, rfl, rfl, rfl, hb1, ⟨hc12, hyl⟩, rfl, Nat.le_refl _, hS.nilrow 5 1⟩) ?_
  skip
  rintro k σ w ⟨left, B, cl, X, A2, m2, c2, h4, h2, hm2, hB, hcl, hX, hk, hS⟩
  refine c_know 4 h4 ?_
  refine c_know 2 h2 ?_
  clear h4 h2
  have hXl := congrArg List.length hX
  rw [List.length_append] at hXl
  refine c_block (c_seq (c_region ?_))
  refine t_q (q_mv (.slice _ _ _) rfl) ?_
  refine t_q (q_len_slice Try.runUnderlying25 rfl) ?_
  refine t_q (q_cast (v' := .int .i64 (((min left.length 65536) : Nat) : Int)) (q_min rfl rfl) (by congr 1; omega)) ?_
  refine t_q (q_as (.int _ _) rfl) ?_
  refine t_nil (c_seq (c_region ?_))
  refine t_q (q_mv (.slice _ _ _) rfl) ?_
  refine t_q (q_mv (.int _ _) rfl) ?_
  refine t_q (q_cast (v' := .slice (if cl = 0 then B else B.map (·.add (0 * 1))) (left.take 65536).length (cl - 0)) (q_slice Try.runUnderlying25 Try.sizeOf5 rfl ⟨_, _, rfl, by omega, by omega, rfl⟩ rfl) (by rw [List.length_take, Nat.min_comm]; rfl)) ?_
  have hB2 : RdB w (if cl = 0 then B else B.map (·.add (0 * 1))) (left.take 65536) := by
    have h := take_rd (k := (min left.length 65536)) (c := cl) (Rd.st hB hS) (by omega) ⟨by omega, by omega⟩
    rwa [min65_take] at h
  refine t_call Try.call20 (wrap_calls (kk := 7) hB2 (by rw [List.length_take]; omega)) rfl ?_
  rintro e w ⟨A20, m20, c20, rfl, hm20, hT⟩
  refine ⟨_, rfl, ?_⟩
  have hS : St w1 w (_ :: _) := hS.lift hT
  obtain ⟨e7, l7⟩ := wrapE_ok (k := 7) (body := left.take 65536) (by decide) (by rw [List.length_take]; omega)
  rw [l7] at hm20 hS
  rw [e7]
  have hpl := wp_len left
  rw [List.length_take] at hpl
  refine t_q (q_mv (.tuple _) rfl) ?_
  refine t_q (q_extract rfl rfl) ?_
  refine t_q (q_extract rfl rfl) ?_
  refine t_q (q_as (.slice _ _ _) rfl) ?_
  refine t_q (q_as (.int _ _) rfl) ?_
  refine t_nil (c_seq (c_region ?_))
  refine t_q (q_mv (.slice _ _ _) rfl) ?_
  refine t_q (q_mv (.slice _ _ _) rfl) ?_
  refine t_append_own (size := 1) (bytes := 1) Try.underlying25 (info_of Try.type5) rfl rfl rfl rfl (by decide) hS (by repeat constructor) (by repeat constructor) rfl rfl (by first | exact allOne_bv _ | exact allOne_ints _ _ | rfl) (by unfold maxLen; omega) (by omega) (fun A25 c25 w hS => ?_)
  refine t_q (q_as (.slice _ _ _) rfl) ?_
  refine t_nil (c_seq (c_region ?_))
  refine t_q (q_mv (.slice _ _ _) rfl) ?_
  refine t_q (q_mv (.int _ _) rfl) ?_
  refine t_q (q_cast (v' := .slice (if cl = (min left.length 65536) then B else B.map (·.add ((min left.length 65536) * 1))) (left.drop (min left.length 65536)).length (cl - (min left.length 65536))) (q_slice Try.runUnderlying25 Try.sizeOf5 rfl rfl ⟨_, _, rfl, by omega, by omega, rfl⟩) (by rw [List.length_drop]; rfl)) ?_
  refine t_q (q_as (.slice _ _ _) rfl) ?_
  refine t_nil (c_seq (c_region ?_))
  refine t_q (q_mv (.int _ _) rfl) ?_
  refine t_q (q_lss rfl rfl) ?_
  refine t_nil ?_
  refine c_cond rfl ?_ ?_
  ·
   intro hc8
   have hc8d := of_decide_eq_true hc8
   refine c_seq (c_region ?_)
   refine t_q (q_mv (.slice _ _ _) rfl) ?_
   refine t_q (q_as (.slice _ _ _) rfl) ?_
   refine t_q (q_assign) ?_
   refine t_nil (c_ret ?_)
   refine r_two rfl rfl rfl ?_
   first
     | (have e1 : wbE x = 2 := by unfold wbE; rw [hsn]; rfl
        have e2 : wbL x = [] := by unfold wbL; rw [hsn]; rfl
        rw [e1, e2]
        exact ⟨none, 0, 0, rfl, rfl, hS.nil.nilrow 5 1⟩)
     | (have e1 : wbE x = 0 := by unfold wbE; rw [hsy]; rfl
        have e2 : wbL x = X ++ parB 7 (left.take 65536) := by
          unfold wbL
          rw [hsy, ← hX, wm_last (by omega)]
          rfl
        have hS : St W w (_ :: _) := hS0.lift hS
        rw [e1, e2]
        exact ⟨A25, _, c25, rfl, by rw [List.length_append, hm2, hm20], ((hS.pick (A := rowA 5 1 A25 _ c25 _) (by repeat constructor)).recast (show _ = rowA 5 1 A25 (m2 + m20) c25 ((X ++ parB 7 (left.take 65536)).map bv) from by rw [List.map_append])).front1⟩)
  ·
   intro hc8
   have hc8d := of_decide_eq_false hc8
   refine c_skip ?_
   refine ⟨k - 1, by omega, left.drop (min left.length 65536), _, _, X ++ parB 7 (left.take 65536), A25, _, c25, rfl, rfl, ?_, drop_rd hB (by omega) ⟨hcl.1, by omega⟩, ?_, ?_, ?_, ?_⟩
   · rw [List.length_append, hm2, hm20]
   · rw [List.length_drop]; omega
   · rw [List.append_assoc, min65_drop, ← wm_more (by omega)]; exact hX
   · rw [List.length_drop]; omega
   · exact ((hS.pick (A := rowA 5 1 A25 _ c25 _) (by repeat constructor)).recast (show _ = rowA 5 1 A25 (m2 + m20) c25 ((X ++ parB 7 (left.take 65536)).map bv) from by rw [List.map_append])).front1
end Go.Proofs.Ytlppgpidakfnlaa
