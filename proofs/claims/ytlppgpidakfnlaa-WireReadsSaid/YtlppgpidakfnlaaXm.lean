/- Parcels joined. -/
import Derived.Test.YtlppgpidakfnlaaXh
namespace Go.Proofs.Ytlppgpidakfnlaa
open Go Go.RowKit Go.Lib
variable {W : World}
theorem tk_more2 {k : UInt8} {body : List UInt8} (hb : body.length ≤ 65536) (hk : k ≠ 0) (rest : List UInt8) : tkK (parB k body ++ rest) = k ∧ tkL (parB k body ++ rest) = body ∧ (parB k body ++ rest).drop (tkN (parB k body ++ rest)) = rest := by
  obtain ⟨h0, hN⟩ := tk_more hb hk rest
  obtain ⟨e1, e2, _⟩ := tk_ok h0
  have e : parB k body ++ rest = (k :: enc body.length) ++ (body ++ (four (crc (preB k body)) ++ rest)) := by rw [par_form]; simp
  obtain ⟨h1, h2⟩ := sz_form (k := k) (r := body ++ (four (crc (preB k body)) ++ rest)) hb
  have e' : k :: (enc body.length ++ (body ++ (four (crc (preB k body)) ++ rest))) = parB k body ++ rest := by rw [e]; rfl
  rw [e'] at h1 h2
  have hf : tkFrom (parB k body ++ rest) = (k :: enc body.length).length := by
    unfold tkFrom
    rw [h1, e]
    simp only [List.length_append]
    omega
  refine ⟨by rw [e1, ← e']; rfl, ?_, by rw [hN, List.drop_left]⟩
  rw [e2, hf, h2, e, List.drop_left, List.take_left]
/-- the bodies of parcels, one behind the other -/
def jn (bs : List UInt8) : Option (List UInt8) :=
  if h : tkE bs = 0 then
    (if ((tkK bs).toNat : Int) = 7 then (if (tkL bs).length < 65536 then (if tkN bs = bs.length then some (tkL bs) else none) else (jn (bs.drop (tkN bs))).map (tkL bs ++ ·)) else none)
  else none
termination_by bs.length
decreasing_by rw [List.length_drop]; have := tkN_le h; omega
theorem jn_e {bs : List UInt8} (h : tkE bs ≠ 0) : jn bs = none := by rw [jn, dif_neg h]
theorem jn_k {bs : List UInt8} (h : ((tkK bs).toNat : Int) ≠ 7) : jn bs = none := by
  by_cases he : tkE bs = 0
  · rw [jn, dif_pos he, if_neg h]
  · exact jn_e he
theorem jn_last {bs : List UInt8} (h : tkE bs = 0) (hk : ((tkK bs).toNat : Int) = 7) (hl : (tkL bs).length < 65536) : jn bs = if tkN bs = bs.length then some (tkL bs) else none := by rw [jn, dif_pos h, if_pos hk, if_pos hl]
theorem jn_more {bs : List UInt8} (h : tkE bs = 0) (hk : ((tkK bs).toNat : Int) = 7) (hl : ¬ (tkL bs).length < 65536) : jn bs = (jn (bs.drop (tkN bs))).map (tkL bs ++ ·) := by rw [jn, dif_pos h, if_pos hk, if_neg hl]
theorem jn_wm : ∀ (m : Nat) (b : List UInt8), b.length ≤ m → jn (wm b) = some b
  | m, b, h => by
    have hb : (b.take 65536).length ≤ 65536 := by rw [List.length_take]; omega
    by_cases h0 : b.length < 65536
    · rw [wm_last h0]
      obtain ⟨a1, a2⟩ := tk_more (k := 7) (body := b.take 65536) hb (by decide) []
      obtain ⟨b1, b2, _⟩ := tk_more2 (k := 7) (body := b.take 65536) hb (by decide) []
      rw [List.append_nil] at a1 a2 b1 b2
      rw [jn_last a1 (by rw [b1]; rfl) (by rw [b2, List.length_take]; omega), if_pos a2, b2, List.take_of_length_le (by omega)]
    · rw [wm_more h0]
      obtain ⟨a1, a2⟩ := tk_more (k := 7) (body := b.take 65536) hb (by decide) (wm (b.drop 65536))
      obtain ⟨b1, b2, b3⟩ := tk_more2 (k := 7) (body := b.take 65536) hb (by decide) (wm (b.drop 65536))
      cases m with
      | zero => omega
      | succ m =>
        rw [jn_more a1 (by rw [b1]; rfl) (by rw [b2, List.length_take]; omega), b3, b2, jn_wm m (b.drop 65536) (by rw [List.length_drop]; omega), Option.map_some, List.take_append_drop]
attribute [local irreducible] blkA rowA
set_option maxHeartbeats 1000000 in
set_option maxRecDepth 100000 in
theorem join_calls {A : Option Addr} {c : Nat} {bs : List UInt8} (hR : RdB W A bs) (hc : bs.length ≤ c ∧ bs.length ≤ 100000000) : Calls Try.prog 116 #[.slice A bs.length c] W fun e w' => ∃ A' c' Z, e = .returned (.tuple #[.slice A' Z.length c', .bool (jn bs).isSome]) ∧ (∀ y, jn bs = some y → Z = y) ∧ St W w' [rowA 5 1 A' Z.length c' ((Z).map bv)] := by
 have hS := St.init W
 refine calls_of_wpE (args := [_]) Try.func116 rfl rfl rfl ?_
 refine c_seq (c_region ?_)
 refine t_q (q_assign) ?_
 refine t_q (q_assign) ?_
 refine t_nil (c_block ?_)
 refine c_loop [0, 2, 3, 4, 5, 6, 7, 8, 9, 10, 11, 12, 13, 14, 15, 16, 17, 18, 19, 20, 21, 22, 23, 24, 25, 26, 27, 28, 29, 30, 31, 32, 33] (fun k σ w => ∃ (left : List UInt8) (B : Option Addr) (cl : Nat) (X : List UInt8) (A2 : Option Addr) (c2 : Nat), σ 0 = .slice B left.length cl ∧ σ 2 = .slice A2 X.length c2 ∧ RdB W B left ∧ (left.length ≤ cl ∧ X.length + left.length ≤ 100000000) ∧ (jn left).map (X ++ ·) = jn bs ∧ left.length ≤ k ∧ St W w [rowA 5 1 A2 X.length c2 ((X).map bv)]) (bs.length) rfl (⟨bs, A, c, [], none, 0, rfl, rfl, hR, ⟨hc.1, by simp; omega⟩, by simp, Nat.le_refl _, hS.nilrow 5 1⟩) ?_
 skip
 rintro k σ w ⟨left, B, cl, X, A2, c2, h0, h2, hB, hcl, hX, hk, hS⟩
 refine c_know 0 h0 ?_
 refine c_know 2 h2 ?_
 clear h0 h2
 refine c_block (c_seq (c_region ?_))
 refine t_q (q_mv (.slice _ _ _) rfl) ?_
 refine t_call Try.call68 (take_calls (hB.st hS) ⟨hcl.1, by omega⟩) rfl ?_
 rintro e w ⟨A10, m10, c10, rfl, hm10, hT⟩
 refine ⟨_, rfl, ?_⟩
 have hS : St W w (_ :: _) := hS.lift hT
 subst hm10
 refine t_q (q_mv (.tuple _) rfl) ?_
 refine t_q (q_extract rfl rfl) ?_
 refine t_q (q_extract rfl rfl) ?_
 refine t_q (q_extract rfl rfl) ?_
 refine t_q (q_extract rfl rfl) ?_
 refine t_q (q_as (.int _ _) rfl) ?_
 refine t_q (q_as (.slice _ _ _) rfl) ?_
 refine t_q (q_as (.int _ _) rfl) ?_
 refine t_q (q_as (.int _ _) rfl) ?_
 refine t_nil (c_seq (c_seq (c_region ?_)))
 refine t_q (q_mv (.int _ _) rfl) ?_
 refine t_q (q_neq rfl rfl) ?_
 refine t_q (q_mv (.bool _) rfl) ?_
 refine t_case 17 rfl ?_ ?_
 ·
  intro hg7
  have hg7d := of_decide_eq_true hg7
  refine t_no rfl rfl (by rw [hg7]; decide) ?_
  refine t_no rfl rfl (by rw [hg7]; decide) ?_
  refine t_q (q_pick_t rfl hg7) ?_
  refine t_nil ?_
  refine c_cond_t rfl rfl ?_
  have hJ : jn bs = none := by
    rw [← hX]
    have hn : jn left = none := by
      first
        | exact jn_e (by omega)
        | exact jn_k (by omega)
    rw [hn]
    rfl
  refine c_seq (c_region ?_)
  refine t_q (q_assign) ?_
  refine t_q (q_assign) ?_
  refine t_nil (c_ret ?_)
  refine r_two rfl rfl rfl ?_
  first
    | (rw [hJ]; exact ⟨none, 0, [], rfl, (fun y hy => by cases hy), hS.nil.nilrow 5 1⟩)
    | (have h23 := (hS.pick (A := rowA 5 1 A23 _ c23 _) (by repeat constructor)).front1.recast (show _ = rowA 5 1 A23 (X ++ tkL left).length c23 ((X ++ tkL left).map bv) from by rw [List.map_append, List.length_append])
       have hJ : jn bs = if tkN left = left.length then some (X ++ tkL left) else none := by
         rw [← hX, jn_last he0 hk7 (by omega)]
         split <;> rfl
       refine ⟨A23, c23, X ++ tkL left, ?_, (fun y hy => by
         rw [hJ] at hy
         split at hy
         · injection hy
         · cases hy), h23⟩
       rw [List.length_append]
       have hb : (jn bs).isSome = decide (((left.drop (tkN left)).length : Int) = 0) := by
         rw [hJ]
         by_cases h9 : tkN left = left.length
         · rw [if_pos h9, decide_eq_true (by rw [List.length_drop]; omega)]; rfl
         · rw [if_neg h9, decide_eq_false (by rw [List.length_drop]; omega)]; rfl
       rw [hb]
       rfl)
 ·
  intro hg7
  have hg7d := of_decide_eq_false hg7
  refine t_yes rfl rfl hg7 ?_
  refine t_q (q_mv (.int _ _) rfl) ?_
  refine t_yes rfl rfl hg7 ?_
  refine t_q (q_neq rfl rfl) ?_
  refine t_q (q_pick_f rfl hg7) ?_
  refine t_nil ?_
  refine c_cond rfl ?_ ?_
  ·
   intro hc9
   have hc9d := of_decide_eq_true hc9
   have hJ : jn bs = none := by
     rw [← hX]
     have hn : jn left = none := by
       first
         | exact jn_e (by omega)
         | exact jn_k (by omega)
     rw [hn]
     rfl
   refine c_seq (c_region ?_)
   refine t_q (q_assign) ?_
   refine t_q (q_assign) ?_
   refine t_nil (c_ret ?_)
   refine r_two rfl rfl rfl ?_
   first
     | (rw [hJ]; exact ⟨none, 0, [], rfl, (fun y hy => by cases hy), hS.nil.nilrow 5 1⟩)
     | (have h23 := (hS.pick (A := rowA 5 1 A23 _ c23 _) (by repeat constructor)).front1.recast (show _ = rowA 5 1 A23 (X ++ tkL left).length c23 ((X ++ tkL left).map bv) from by rw [List.map_append, List.length_append])
        have hJ : jn bs = if tkN left = left.length then some (X ++ tkL left) else none := by
          rw [← hX, jn_last he0 hk7 (by omega)]
          split <;> rfl
        refine ⟨A23, c23, X ++ tkL left, ?_, (fun y hy => by
          rw [hJ] at hy
          split at hy
          · injection hy
          · cases hy), h23⟩
        rw [List.length_append]
        have hb : (jn bs).isSome = decide (((left.drop (tkN left)).length : Int) = 0) := by
          rw [hJ]
          by_cases h9 : tkN left = left.length
          · rw [if_pos h9, decide_eq_true (by rw [List.length_drop]; omega)]; rfl
          · rw [if_neg h9, decide_eq_false (by rw [List.length_drop]; omega)]; rfl
        rw [hb]
        rfl)
  ·
   intro hc9
   have hc9d := of_decide_eq_false hc9
   have he0 : tkE left = 0 := by omega
   have hk7 : ((tkK left).toNat : Int) = 7 := by omega
   have hnl := tkN_le he0
   have hll : (tkL left).length ≤ tkN left := by
     have h := (tk_ok he0).2.1
     rw [h, List.length_take]
     have h2 : tkN left = tkFrom left + szN left + 4 := rfl
     omega
   refine c_skip (c_seq (c_draw ?_))
   refine d_free 8 [0, 1, 2, 3, 4, 5, 6, 7] [0, 1, 2, 3, 4, 5, 6, 7] hS rfl (by kernel_rfl) (by kernel_rfl) (by kernel_rfl) (by kernel_rfl) (fun hap hsel w hS => ?_)
   refine p_q hap hsel 0 rfl rfl ⟨_, hS⟩ (fun w hI => q_mv (.slice _ _ _) rfl) ?_
   refine p_q hap hsel 1 rfl rfl ⟨_, hS⟩ (fun w hI => q_mv (.slice _ _ _) rfl) ?_
   refine p_q hap hsel 3 rfl rfl ⟨_, hS⟩ (fun w hI => q_mv (.slice _ _ _) rfl) ?_
   refine p_q hap hsel 4 rfl rfl ⟨_, hS⟩ (fun w hI => (q_cast (v' := .int .i64 (tkN left : Int)) (q_mv (.int _ _) rfl) (by rw [(tk_ok he0).2.2]))) ?_
   refine p_q hap hsel 5 rfl rfl ⟨_, hS⟩ (fun w hI => (q_cast (v' := .slice (if cl = tkN left then B else B.map (·.add (tkN left * 1))) (left.drop (tkN left)).length (cl - tkN left)) (q_slice Try.runUnderlying25 Try.sizeOf5 rfl rfl ⟨_, _, rfl, by omega, by omega, rfl⟩) (by rw [List.length_drop]; rfl))) ?_
   refine p_one 2 rfl (by kernel_rfl) ?_
   refine t_append_own (size := 1) (bytes := 1) Try.underlying25 (info_of Try.type5) rfl rfl rfl rfl (by decide) hS (by repeat constructor) (by repeat constructor) rfl rfl (by first | exact allOne_bv _ | exact allOne_ints _ _ | rfl) (by unfold maxLen; omega) (by omega) (fun A23 c23 w hS => ?_)
   refine t_nil ?_
   refine ⟨.inr ⟨_, hS⟩, ?_⟩
   refine p_q hap hsel 6 rfl rfl ⟨_, hS⟩ (fun w hI => q_as (.slice _ _ _) rfl) ?_
   refine p_q hap hsel 7 rfl rfl ⟨_, hS⟩ (fun w hI => q_as (.slice _ _ _) rfl) ?_
   refine p_end (by kernel_rfl) ?_
   refine c_seq (c_region ?_)
   refine t_q (q_mv (.slice _ _ _) rfl) ?_
   refine t_q (q_len_slice Try.runUnderlying25 rfl) ?_
   refine t_q (q_lss rfl rfl) ?_
   refine t_nil ?_
   refine c_cond rfl ?_ ?_
   ·
    intro hc11
    have hc11d := of_decide_eq_true hc11
    refine c_seq (c_region ?_)
    refine t_q (q_mv (.slice _ _ _) rfl) ?_
    refine t_q (q_mv (.slice _ _ _) rfl) ?_
    refine t_q (q_len_slice Try.runUnderlying25 rfl) ?_
    refine t_q (q_eql rfl rfl) ?_
    refine t_q (q_as (.slice _ _ _) rfl) ?_
    refine t_q (q_as (.bool _) rfl) ?_
    refine t_nil (c_ret ?_)
    refine r_two rfl rfl rfl ?_
    first
      | (rw [hJ]; exact ⟨none, 0, [], rfl, (fun y hy => by cases hy), hS.nil.nilrow 5 1⟩)
      | (have h23 := (hS.pick (A := rowA 5 1 A23 _ c23 _) (by repeat constructor)).front1.recast (show _ = rowA 5 1 A23 (X ++ tkL left).length c23 ((X ++ tkL left).map bv) from by rw [List.map_append, List.length_append])
         have hJ : jn bs = if tkN left = left.length then some (X ++ tkL left) else none := by
           rw [← hX, jn_last he0 hk7 (by omega)]
           split <;> rfl
         refine ⟨A23, c23, X ++ tkL left, ?_, (fun y hy => by
           rw [hJ] at hy
           split at hy
           · injection hy
           · cases hy), h23⟩
         rw [List.length_append]
         have hb : (jn bs).isSome = decide (((left.drop (tkN left)).length : Int) = 0) := by
           rw [hJ]
           by_cases h9 : tkN left = left.length
           · rw [if_pos h9, decide_eq_true (by rw [List.length_drop]; omega)]; rfl
           · rw [if_neg h9, decide_eq_false (by rw [List.length_drop]; omega)]; rfl
         rw [hb]
         rfl)
   ·
    intro hc11
    have hc11d := of_decide_eq_false hc11
    refine c_skip ?_
    have h23 := (hS.pick (A := rowA 5 1 A23 _ c23 _) (by repeat constructor)).front1.recast (show _ = rowA 5 1 A23 (X ++ tkL left).length c23 ((X ++ tkL left).map bv) from by rw [List.map_append, List.length_append])
    refine ⟨left.length - tkN left, by omega, left.drop (tkN left), _, _, X ++ tkL left, A23, c23, rfl, (congrArg (fun n => Value.slice A23 n c23) (List.length_append).symm), drop_rd hB (by omega) ⟨hcl.1, by omega⟩, ⟨by rw [List.length_drop]; omega, by rw [List.length_append, List.length_drop]; omega⟩, ?_, by rw [List.length_drop]; omega, h23⟩
    rw [← hX, jn_more he0 hk7 (by omega), Option.map_map]
    exact congrArg (fun g => Option.map g (jn (left.drop (tkN left)))) (funext fun y => List.append_assoc X (tkL left) y)
end Go.Proofs.Ytlppgpidakfnlaa
