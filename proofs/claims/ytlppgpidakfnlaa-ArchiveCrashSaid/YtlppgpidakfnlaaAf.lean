/- What a file has: the document's. -/
import Derived.Test.YtlppgpidakfnlaaAe
import Derived.Test.YtlppgpidakfnlaaPd
namespace Go.Proofs.Ytlppgpidakfnlaa
open Go Go.RowKit Go.Lib
variable {W : World}
attribute [local irreducible] blkA rowA rdrA rdO
set_option maxHeartbeats 2000000 in
set_option maxRecDepth 100000 in
theorem qatell_calls {A : Option Addr} {c : Nat} {bs : List UInt8} (hR : RdB W A bs) (hc : bs.length ≤ c ∧ bs.length ≤ 100000000) : Calls Try.prog 38 #[.slice A bs.length c] W fun e w' => ∃ A' c', e = .returned (.tuple #[.agg #[.int .u64 ((telS bs).i : Int), .int .u64 ((telS bs).t : Int), .slice A' (telS bs).b.length c'], .bool (tel bs).isSome]) ∧ St W w' [rowA 5 1 A' (telS bs).b.length c' (((telS bs).b).map bv)] := by
  have hS := St.init W
  refine calls_of_wpE (args := [_]) Try.func38 rfl rfl rfl ?_
  refine c_seq ?_
  refine c_region ?_
  refine t_alloc Try.zeroValue50 rfl hS (fun g2 w hS => ?_)
  refine t_q (q_assign) ?_
  refine t_nil ?_
  refine c_seq ?_
  refine c_region ?_
  refine t_q (q_mv (.slice _ _ _) rfl) ?_
  refine t_call Try.call24 (qtake_calls (hR.st hS) hc) rfl ?_
  rintro e w ⟨A13, m13, c13, rfl, hm13, hT⟩
  refine ⟨_, rfl, ?_⟩
  have hS : St W w (_ :: _) := hS.lift hT
  subst hm13
  have hle13 := hS.row_le (t := 5) (size := 1) (A := A13) (c := c13) (by repeat first | exact .here _ _ | assumption | apply Pick.there)
  refine t_q (q_mv (.tuple _) rfl) ?_
  refine t_q (q_extract rfl rfl) ?_
  refine t_q (q_extract rfl rfl) ?_
  refine t_q (q_extract rfl rfl) ?_
  refine t_q (q_extract rfl rfl) ?_
  refine t_q (q_as (.int _ _) rfl) ?_
  refine t_q (q_as (.slice _ _ _) rfl) ?_
  refine t_q (q_as (.int _ _) rfl) ?_
  refine t_q (q_as (.int _ _) rfl) ?_
  refine t_nil ?_
  refine c_seq ?_
  refine c_seq ?_
  refine c_region ?_
  refine t_q (q_mv (.int _ _) rfl) ?_
  refine t_q (q_neq rfl rfl) ?_
  refine t_q (q_mv (.bool _) rfl) ?_
  refine t_case 20 rfl ?_ ?_
  · intro hg7
    have hg7d := of_decide_eq_true hg7
    refine t_no rfl rfl (by rw [hg7]; decide) ?_
    refine t_no rfl rfl (by rw [hg7]; decide) ?_
    refine t_q (q_pick_t rfl hg7) ?_
    refine t_nil ?_
    refine c_cond_t rfl rfl ?_
    have htn : tel bs = none := tel_nohead fun hh => by
      have h1 := hh.1
      have h2 := congrArg UInt8.toNat hh.2.1
      have h3 : (5 : UInt8).toNat = 5 := rfl
      omega
    refine c_seq ?_
    refine c_region ?_
    refine t_q (q_build (qs := [(0, 1), (1, 1), (2, 1)]) [(.int _ _), (.int _ _), (.slice _ _ _)] Try.zeroValue50 Try.runUnderlying50 ⟨rfl, Try.sizeOf43, rfl, Try.sizeOf43, rfl, Try.sizeOf25, trivial⟩ rfl rfl) ?_
    refine t_store (v := (.agg _)) Try.sizeOf50 hS (by repeat first | exact .here _ _ | assumption | apply Pick.there) rfl rfl rfl rfl rfl rfl (fun w hS => ?_)
    replace hS := hS.recast (show blkA g2 50 _ = blkA g2 50 [.int .u64 0, .int .u64 0, .slice none 0 0] from rfl)
    refine t_q (q_assign) ?_
    refine t_nil ?_
    refine c_ret ?_
    refine r_two rfl (res1_cellN Try.isAgg50 Try.sizeOf50 rfl (hS.blk (by repeat first | exact .here _ _ | assumption | apply Pick.there)) rfl) rfl ?_
    first
      | (have e1 : telS bs = sn0 := by unfold telS; rw [htn]; rfl
         have e2 : (tel bs).isSome = false := by rw [htn]; rfl
         rw [e1, e2]
         exact ⟨none, 0, rfl, hS.nil.nilrow 5 1⟩)
      | (have e1 : telS bs = s := by unfold telS; rw [hts]; rfl
         have e2 : (tel bs).isSome = true := by rw [hts]; rfl
         rw [e1, e2]
         exact ⟨Ab, cb, rfl, (hS.pick (A := rowA 5 1 Ab _ cb _) (by repeat first | exact .here _ _ | assumption | apply Pick.there)).front1⟩)
  · intro hg7
    have hg7d := of_decide_eq_false hg7
    refine t_yes rfl rfl hg7 ?_
    refine t_q (q_mv (.int _ _) rfl) ?_
    refine t_yes rfl rfl hg7 ?_
    refine t_q (q_neq rfl rfl) ?_
    refine t_q (q_pick_f rfl hg7) ?_
    refine t_nil ?_
    refine c_cond rfl ?_ ?_
    · intro hc9
      have hc9d := of_decide_eq_true hc9
      have htn : tel bs = none := tel_nohead fun hh => by
        have h1 := hh.1
        have h2 := congrArg UInt8.toNat hh.2.1
        have h3 : (5 : UInt8).toNat = 5 := rfl
        omega
      refine c_seq ?_
      refine c_region ?_
      refine t_q (q_build (qs := [(0, 1), (1, 1), (2, 1)]) [(.int _ _), (.int _ _), (.slice _ _ _)] Try.zeroValue50 Try.runUnderlying50 ⟨rfl, Try.sizeOf43, rfl, Try.sizeOf43, rfl, Try.sizeOf25, trivial⟩ rfl rfl) ?_
      refine t_store (v := (.agg _)) Try.sizeOf50 hS (by repeat first | exact .here _ _ | assumption | apply Pick.there) rfl rfl rfl rfl rfl rfl (fun w hS => ?_)
      replace hS := hS.recast (show blkA g2 50 _ = blkA g2 50 [.int .u64 0, .int .u64 0, .slice none 0 0] from rfl)
      refine t_q (q_assign) ?_
      refine t_nil ?_
      refine c_ret ?_
      refine r_two rfl (res1_cellN Try.isAgg50 Try.sizeOf50 rfl (hS.blk (by repeat first | exact .here _ _ | assumption | apply Pick.there)) rfl) rfl ?_
      first
        | (have e1 : telS bs = sn0 := by unfold telS; rw [htn]; rfl
           have e2 : (tel bs).isSome = false := by rw [htn]; rfl
           rw [e1, e2]
           exact ⟨none, 0, rfl, hS.nil.nilrow 5 1⟩)
        | (have e1 : telS bs = s := by unfold telS; rw [hts]; rfl
           have e2 : (tel bs).isSome = true := by rw [hts]; rfl
           rw [e1, e2]
           exact ⟨Ab, cb, rfl, (hS.pick (A := rowA 5 1 Ab _ cb _) (by repeat first | exact .here _ _ | assumption | apply Pick.there)).front1⟩)
    · intro hc9
      have hc9d := of_decide_eq_false hc9
      have he0 : tkE bs = 0 := by omega
      have hk5 : tkK bs = 5 := UInt8.toNat_inj.1 (by show (tkK bs).toNat = 5; omega)
      refine c_skip ?_
      refine c_seq ?_
      refine c_region ?_
      refine t_q (q_mv (.slice _ _ _) rfl) ?_
      refine t_q (q_build (qs := [(0, 1), (1, 1)]) [(.slice _ _ _), (.bool _)] Try.zeroValue145 Try.runUnderlying145 ⟨rfl, Try.sizeOf25, rfl, Try.sizeOf4, trivial⟩ rfl rfl) ?_
      have hS0 := hS
      obtain ⟨w1, hw1⟩ : ∃ x, x = w := ⟨_, rfl⟩
      subst hw1
      have hb1 := hS.rowRd (A := A13) (c := c13) (bs := tkL bs) (by repeat first | exact .here _ _ | assumption | apply Pick.there) rfl
      replace hS := St.init w1
      refine t_box (v := (.agg _)) rfl rfl hS (fun g27 w hS => ?_)
      replace hS : St w1 w [rdrA w1 145 g27 (te0 bs)] := hS.unrdr (s := te0 bs) rfl rfl hb1 ⟨hle13, by show (tkL bs).length ≤ _; rw [(tk_ok he0).2.1, List.length_take]; have := (tk_zero he0).2.2.2; omega⟩
      refine t_q (q_as (.pointer _) rfl) ?_
      refine t_nil ?_
      refine c_seq ?_
      refine c_region ?_
      refine t_q (q_mv (.pointer _) rfl) ?_
      refine t_call Try.call75 (qNat hS (by repeat first | exact .here _ _ | assumption | apply Pick.there) (by omega) (by omega)) rfl ?_
      rintro e w ⟨rfl, hS⟩
      refine ⟨_, rfl, ?_⟩
      replace hS := hS.recast (show _ = rdrA w1 145 g27 (te1 bs) from rfl)
      refine t_q (q_build (qs := [(0, 1), (1, 1), (2, 1)]) [(.int _ _), (.int _ _), (.slice _ _ _)] Try.zeroValue50 Try.runUnderlying50 ⟨rfl, Try.sizeOf43, rfl, Try.sizeOf43, rfl, Try.sizeOf25, trivial⟩ rfl rfl) ?_
      refine t_alloc Try.zeroValue50 rfl hS (fun g9 w hS => ?_)
      refine t_store (v := (.agg _)) Try.sizeOf50 hS (by repeat first | exact .here _ _ | assumption | apply Pick.there) rfl rfl rfl rfl rfl rfl (fun w hS => ?_)
      replace hS := hS.recast (show blkA g9 50 _ = blkA g9 50 [.int .u64 (telI bs : Int), .int .u64 0, .slice none 0 0] from rfl)
      refine t_nil ?_
      refine c_seq ?_
      refine c_region ?_
      refine t_q (q_mv (.pointer _) rfl) ?_
      refine t_call Try.call75 (qNat hS (by repeat first | exact .here _ _ | assumption | apply Pick.there) (by omega) (by omega)) rfl ?_
      rintro e w ⟨rfl, hS⟩
      refine ⟨_, rfl, ?_⟩
      replace hS := hS.recast (show _ = rdrA w1 145 g27 (te2 bs) from rfl)
      refine t_q (q_fieldAddr 1 Try.runUnderlying50 rfl Try.sizeOf43 (by decide) rfl rfl) ?_
      refine t_store (v := (.int _ _)) Try.sizeOf43 hS (by repeat first | exact .here _ _ | assumption | apply Pick.there) rfl rfl rfl rfl rfl rfl (fun w hS => ?_)
      replace hS := hS.recast (show blkA g9 50 _ = blkA g9 50 [.int .u64 (telI bs : Int), .int .u64 (telT bs : Int), .slice none 0 0] from rfl)
      refine t_nil ?_
      refine c_seq ?_
      refine c_region ?_
      refine t_q (q_mv (.pointer _) rfl) ?_
      refine t_call Try.call75 (qNat hS (by repeat first | exact .here _ _ | assumption | apply Pick.there) (by omega) (by omega)) rfl ?_
      rintro e w ⟨rfl, hS⟩
      refine ⟨_, rfl, ?_⟩
      replace hS := hS.recast (show _ = rdrA w1 145 g27 (te3 bs) from rfl)
      have htN : ((((te2 bs).nat (524288 : Int).toNat).1 : Nat) : Int) ≤ 524288 := by have := telN_le bs; unfold telN mB at this; exact Int.ofNat_le.2 this
      refine t_q (q_conv_i64 Try.runUnderlying43 Try.runUnderlying3 rfl (by omega)) ?_
      refine t_q (q_as (.int _ _) rfl) ?_
      refine t_nil ?_
      refine c_seq ?_
      refine c_seq ?_
      refine c_region ?_
      refine t_q (q_mv (.pointer _) rfl) ?_
      refine t_call Try.call89 (qEnd hS (by repeat first | exact .here _ _ | assumption | apply Pick.there)) rfl ?_
      rintro e w ⟨rfl, hS⟩
      refine ⟨_, rfl, ?_⟩
      refine t_q (q_neq rfl rfl) ?_
      refine t_nil ?_
      refine c_cond rfl ?_ ?_
      · intro hc15
        have hc15d := of_decide_eq_true hc15
        have htn : tel bs = none := tel_nohead fun hh => by have := hh.2.2; omega
        have hS : St W w (_ :: _) := hS0.lift hS
        refine c_seq ?_
        refine c_region ?_
        refine t_q (q_build (qs := [(0, 1), (1, 1), (2, 1)]) [(.int _ _), (.int _ _), (.slice _ _ _)] Try.zeroValue50 Try.runUnderlying50 ⟨rfl, Try.sizeOf43, rfl, Try.sizeOf43, rfl, Try.sizeOf25, trivial⟩ rfl rfl) ?_
        refine t_store (v := (.agg _)) Try.sizeOf50 hS (by repeat first | exact .here _ _ | assumption | apply Pick.there) rfl rfl rfl rfl rfl rfl (fun w hS => ?_)
        replace hS := hS.recast (show blkA g2 50 _ = blkA g2 50 [.int .u64 0, .int .u64 0, .slice none 0 0] from rfl)
        refine t_q (q_assign) ?_
        refine t_nil ?_
        refine c_ret ?_
        refine r_two rfl (res1_cellN Try.isAgg50 Try.sizeOf50 rfl (hS.blk (by repeat first | exact .here _ _ | assumption | apply Pick.there)) rfl) rfl ?_
        first
          | (have e1 : telS bs = sn0 := by unfold telS; rw [htn]; rfl
             have e2 : (tel bs).isSome = false := by rw [htn]; rfl
             rw [e1, e2]
             exact ⟨none, 0, rfl, hS.nil.nilrow 5 1⟩)
          | (have e1 : telS bs = s := by unfold telS; rw [hts]; rfl
             have e2 : (tel bs).isSome = true := by rw [hts]; rfl
             rw [e1, e2]
             exact ⟨Ab, cb, rfl, (hS.pick (A := rowA 5 1 Ab _ cb _) (by repeat first | exact .here _ _ | assumption | apply Pick.there)).front1⟩)
      · intro hc15
        have hc15d := of_decide_eq_false hc15
        have hhd : headOk bs := ⟨he0, hk5, by omega⟩
        have hS : St W w (_ :: _) := hS0.lift hS
        refine c_skip ?_
        refine c_seq ?_
        refine c_block ?_
        refine c_loop [0, 3, 4, 5, 6, 7, 10, 41, 42, 43, 44, 45, 46, 47, 48, 49, 50, 51, 52, 53, 54, 55, 56, 57, 58, 59, 60, 61, 62, 63, 64, 65, 66, 67, 68, 69, 70, 71, 72, 73, 74, 75] (fun k σ w => ∃ (j left : Nat) (B : Option Addr) (s : Sn), σ 0 = .slice B (bs.drop (pos bs j)).length (c - pos bs j) ∧ σ 6 = .int .i64 (tkN (bs.drop (pos bs j)) : Int) ∧ σ 10 = .int .i64 (left : Int) ∧ RdB W B (bs.drop (pos bs j)) ∧ whole bs j = true ∧ tkE (bs.drop (pos bs j)) = 0 ∧ TlI bs (j + 1) s left ∧ left ≤ k ∧ St W w [snA 50 g9 s, blkA g2 50 [.int .u64 0, .int .u64 0, .slice none 0 0]]) (telN bs) rfl (⟨0, telN bs, A, ⟨telI bs, telT bs, []⟩, rfl, congrArg (Value.int .i64) (tk_ok he0).2.2, rfl, hR, rfl, he0, tl_head hhd, Nat.le_refl _, (St.unsn ⟨telI bs, telT bs, []⟩ (A := none) (c := 0) (((((hS.pick (A := blkA g2 50 _) (by repeat first | exact .here _ _ | assumption | apply Pick.there)).pick (A := blkA g9 50 _) (by repeat first | exact .here _ _ | assumption | apply Pick.there))).front2.nilrow 5 1).pick (.there (.here _ _))))⟩) ?_
        skip
        rintro k σ w ⟨j, left, B, s, h0', h6, h10, hB, hw, he, hI, hk, hS⟩
        refine c_know 0 h0' ?_
        refine c_know 6 h6 ?_
        refine c_know 10 h10 ?_
        clear h0' h6 h10
        have htl := tl_le hI
        have hpl := pos_le hw
        have hnl := tkN_le he
        rw [List.length_drop] at hnl
        have hdl : (bs.drop (pos bs j)).length = bs.length - pos bs j := List.length_drop
        have hw2 : whole bs (j + 1) = true := by rw [whole, hw, he]; rfl
        have hpl2 := pos_le hw2
        have hp2 : pos bs (j + 1) = pos bs j + tkN (bs.drop (pos bs j)) := rfl
        have hB2 : RdB W (if c - pos bs j = tkN (bs.drop (pos bs j)) then B else B.map (·.add (tkN (bs.drop (pos bs j)) * 1))) (bs.drop (pos bs (j + 1))) := by
          have h := drop_rd hB (k := tkN (bs.drop (pos bs j))) (c := c - pos bs j) (by rw [List.length_drop]; omega) ⟨by rw [List.length_drop]; omega, by rw [List.length_drop]; omega⟩
          rw [List.drop_drop] at h
          exact h
        obtain ⟨Ab, cb, hS⟩ := hS.sn
        refine c_seq ?_
        refine c_seq ?_
        refine c_region ?_
        refine t_q (q_mv (.int _ _) rfl) ?_
        refine t_q (q_gtr rfl rfl) ?_
        refine t_nil ?_
        refine c_cond rfl ?_ ?_
        · intro hc17
          have hc17d := of_decide_eq_true hc17
          have hl0 : left ≠ 0 := by omega
          refine c_skip ?_
          refine c_block ?_
          refine c_seq ?_
          refine c_region ?_
          refine t_q (q_mv (.slice _ _ _) rfl) ?_
          refine t_q (q_mv (.int _ _) rfl) ?_
          refine t_q (q_cast (v' := .slice (if c - pos bs j = tkN (bs.drop (pos bs j)) then B else B.map (·.add (tkN (bs.drop (pos bs j)) * 1))) (bs.drop (pos bs (j + 1))).length (c - pos bs (j + 1))) (q_slice Try.runUnderlying25 Try.sizeOf5 rfl rfl ⟨_, _, rfl, by omega, by omega, rfl⟩) (by rw [show (bs.drop (pos bs (j + 1))).length = (bs.drop (pos bs j)).length - tkN (bs.drop (pos bs j)) from by rw [List.length_drop, List.length_drop, hp2]; omega, show c - pos bs (j + 1) = c - pos bs j - tkN (bs.drop (pos bs j)) from by omega]; rfl)) ?_
          refine t_q (q_as (.slice _ _ _) rfl) ?_
          refine t_nil ?_
          refine c_seq ?_
          refine c_region ?_
          refine t_q (q_mv (.slice _ _ _) rfl) ?_
          refine t_call Try.call24 (qtake_calls (hB2.st hS) ⟨by rw [List.length_drop]; omega, by rw [List.length_drop]; omega⟩) rfl ?_
          rintro e w ⟨A48, m48, c48, rfl, hm48, hT⟩
          refine ⟨_, rfl, ?_⟩
          have hS : St W w (_ :: _) := hS.lift hT
          subst hm48
          refine t_q (q_mv (.tuple _) rfl) ?_
          refine t_q (q_extract rfl rfl) ?_
          refine t_q (q_extract rfl rfl) ?_
          refine t_q (q_extract rfl rfl) ?_
          refine t_q (q_extract rfl rfl) ?_
          refine t_q (q_as (.int _ _) rfl) ?_
          refine t_q (q_as (.slice _ _ _) rfl) ?_
          refine t_q (q_as (.int _ _) rfl) ?_
          refine t_q (q_as (.int _ _) rfl) ?_
          refine t_nil ?_
          refine c_seq ?_
          refine c_seq ?_
          refine c_region ?_
          refine t_q (q_mv (.int _ _) rfl) ?_
          refine t_q (q_neq rfl rfl) ?_
          refine t_q (q_mv (.bool _) rfl) ?_
          refine t_case 55 rfl ?_ ?_
          · intro hg24
            have hg24d := of_decide_eq_true hg24
            refine t_no rfl rfl (by rw [hg24]; decide) ?_
            refine t_no rfl rfl (by rw [hg24]; decide) ?_
            refine t_q (q_pick_t rfl hg24) ?_
            refine t_q (q_mv (.bool _) rfl) ?_
            refine t_no rfl rfl (by decide) ?_
            refine t_no rfl rfl (by decide) ?_
            refine t_no rfl rfl (by decide) ?_
            refine t_no rfl rfl (by decide) ?_
            refine t_no rfl rfl (by decide) ?_
            refine t_q (q_pick_t rfl rfl) ?_
            refine t_nil ?_
            refine c_cond_t rfl rfl ?_
            have htn : tel bs = none := tl_bad hI (by omega) hl0 fun hh => by
              have h1 := congrArg UInt8.toNat hh.2.1
              have h0 := hh.1
              have h2 := hh.2.2
              have h3 : (6 : UInt8).toNat = 6 := rfl
              omega
            refine c_seq ?_
            refine c_region ?_
            refine t_q (q_build (qs := [(0, 1), (1, 1), (2, 1)]) [(.int _ _), (.int _ _), (.slice _ _ _)] Try.zeroValue50 Try.runUnderlying50 ⟨rfl, Try.sizeOf43, rfl, Try.sizeOf43, rfl, Try.sizeOf25, trivial⟩ rfl rfl) ?_
            refine t_store (v := (.agg _)) Try.sizeOf50 hS (by repeat first | exact .here _ _ | assumption | apply Pick.there) rfl rfl rfl rfl rfl rfl (fun w hS => ?_)
            replace hS := hS.recast (show blkA g2 50 _ = blkA g2 50 [.int .u64 0, .int .u64 0, .slice none 0 0] from rfl)
            refine t_q (q_assign) ?_
            refine t_nil ?_
            refine c_ret ?_
            refine r_two rfl (res1_cellN Try.isAgg50 Try.sizeOf50 rfl (hS.blk (by repeat first | exact .here _ _ | assumption | apply Pick.there)) rfl) rfl ?_
            first
              | (have e1 : telS bs = sn0 := by unfold telS; rw [htn]; rfl
                 have e2 : (tel bs).isSome = false := by rw [htn]; rfl
                 rw [e1, e2]
                 exact ⟨none, 0, rfl, hS.nil.nilrow 5 1⟩)
              | (have e1 : telS bs = s := by unfold telS; rw [hts]; rfl
                 have e2 : (tel bs).isSome = true := by rw [hts]; rfl
                 rw [e1, e2]
                 exact ⟨Ab, cb, rfl, (hS.pick (A := rowA 5 1 Ab _ cb _) (by repeat first | exact .here _ _ | assumption | apply Pick.there)).front1⟩)
          · intro hg24
            have hg24d := of_decide_eq_false hg24
            refine t_yes rfl rfl hg24 ?_
            refine t_q (q_mv (.int _ _) rfl) ?_
            refine t_yes rfl rfl hg24 ?_
            refine t_q (q_neq rfl rfl) ?_
            refine t_q (q_pick_f rfl hg24) ?_
            refine t_q (q_mv (.bool _) rfl) ?_
            refine t_case 59 rfl ?_ ?_
            · intro hg26
              have hg26d := of_decide_eq_true hg26
              refine t_no rfl rfl (by rw [hg26]; decide) ?_
              refine t_no rfl rfl (by rw [hg26]; decide) ?_
              refine t_no rfl rfl (by rw [hg26]; decide) ?_
              refine t_no rfl rfl (by rw [hg26]; decide) ?_
              refine t_no rfl rfl (by rw [hg26]; decide) ?_
              refine t_q (q_pick_t rfl hg26) ?_
              refine t_nil ?_
              refine c_cond_t rfl rfl ?_
              have htn : tel bs = none := tl_bad hI (by omega) hl0 fun hh => by
                have h1 := congrArg UInt8.toNat hh.2.1
                have h0 := hh.1
                have h2 := hh.2.2
                have h3 : (6 : UInt8).toNat = 6 := rfl
                omega
              refine c_seq ?_
              refine c_region ?_
              refine t_q (q_build (qs := [(0, 1), (1, 1), (2, 1)]) [(.int _ _), (.int _ _), (.slice _ _ _)] Try.zeroValue50 Try.runUnderlying50 ⟨rfl, Try.sizeOf43, rfl, Try.sizeOf43, rfl, Try.sizeOf25, trivial⟩ rfl rfl) ?_
              refine t_store (v := (.agg _)) Try.sizeOf50 hS (by repeat first | exact .here _ _ | assumption | apply Pick.there) rfl rfl rfl rfl rfl rfl (fun w hS => ?_)
              replace hS := hS.recast (show blkA g2 50 _ = blkA g2 50 [.int .u64 0, .int .u64 0, .slice none 0 0] from rfl)
              refine t_q (q_assign) ?_
              refine t_nil ?_
              refine c_ret ?_
              refine r_two rfl (res1_cellN Try.isAgg50 Try.sizeOf50 rfl (hS.blk (by repeat first | exact .here _ _ | assumption | apply Pick.there)) rfl) rfl ?_
              first
                | (have e1 : telS bs = sn0 := by unfold telS; rw [htn]; rfl
                   have e2 : (tel bs).isSome = false := by rw [htn]; rfl
                   rw [e1, e2]
                   exact ⟨none, 0, rfl, hS.nil.nilrow 5 1⟩)
                | (have e1 : telS bs = s := by unfold telS; rw [hts]; rfl
                   have e2 : (tel bs).isSome = true := by rw [hts]; rfl
                   rw [e1, e2]
                   exact ⟨Ab, cb, rfl, (hS.pick (A := rowA 5 1 Ab _ cb _) (by repeat first | exact .here _ _ | assumption | apply Pick.there)).front1⟩)
            · intro hg26
              have hg26d := of_decide_eq_false hg26
              refine t_yes rfl rfl hg26 ?_
              refine t_q (q_mv (.slice _ _ _) rfl) ?_
              refine t_yes rfl rfl hg26 ?_
              refine t_q (q_len_slice Try.runUnderlying25 rfl) ?_
              refine t_yes rfl rfl hg26 ?_
              refine t_q (q_mv (.int _ _) rfl) ?_
              refine t_yes rfl rfl hg26 ?_
              refine t_q (q_min rfl rfl) ?_
              refine t_yes rfl rfl hg26 ?_
              refine t_q (q_neq rfl rfl) ?_
              refine t_q (q_pick_f rfl hg26) ?_
              refine t_nil ?_
              refine c_cond rfl ?_ ?_
              · intro hc28
                have hc28d := of_decide_eq_true hc28
                have htn : tel bs = none := tl_bad hI (by omega) hl0 fun hh => by
                  have h1 := congrArg UInt8.toNat hh.2.1
                  have h0 := hh.1
                  have h2 := hh.2.2
                  have h3 : (6 : UInt8).toNat = 6 := rfl
                  omega
                refine c_seq ?_
                refine c_region ?_
                refine t_q (q_build (qs := [(0, 1), (1, 1), (2, 1)]) [(.int _ _), (.int _ _), (.slice _ _ _)] Try.zeroValue50 Try.runUnderlying50 ⟨rfl, Try.sizeOf43, rfl, Try.sizeOf43, rfl, Try.sizeOf25, trivial⟩ rfl rfl) ?_
                refine t_store (v := (.agg _)) Try.sizeOf50 hS (by repeat first | exact .here _ _ | assumption | apply Pick.there) rfl rfl rfl rfl rfl rfl (fun w hS => ?_)
                replace hS := hS.recast (show blkA g2 50 _ = blkA g2 50 [.int .u64 0, .int .u64 0, .slice none 0 0] from rfl)
                refine t_q (q_assign) ?_
                refine t_nil ?_
                refine c_ret ?_
                refine r_two rfl (res1_cellN Try.isAgg50 Try.sizeOf50 rfl (hS.blk (by repeat first | exact .here _ _ | assumption | apply Pick.there)) rfl) rfl ?_
                first
                  | (have e1 : telS bs = sn0 := by unfold telS; rw [htn]; rfl
                     have e2 : (tel bs).isSome = false := by rw [htn]; rfl
                     rw [e1, e2]
                     exact ⟨none, 0, rfl, hS.nil.nilrow 5 1⟩)
                  | (have e1 : telS bs = s := by unfold telS; rw [hts]; rfl
                     have e2 : (tel bs).isSome = true := by rw [hts]; rfl
                     rw [e1, e2]
                     exact ⟨Ab, cb, rfl, (hS.pick (A := rowA 5 1 Ab _ cb _) (by repeat first | exact .here _ _ | assumption | apply Pick.there)).front1⟩)
              · intro hc28
                have hc28d := of_decide_eq_false hc28
                have hk6 : tkE (bs.drop (pos bs (j + 1))) = 0 ∧ tkK (bs.drop (pos bs (j + 1))) = 6 ∧ (tkL (bs.drop (pos bs (j + 1)))).length = min left 1024 := ⟨by omega, UInt8.toNat_inj.1 (by show (tkK (bs.drop (pos bs (j + 1)))).toNat = 6; omega), by omega⟩
                refine c_skip ?_
                refine c_seq ?_
                refine c_region ?_
                refine t_q (q_fieldAddr 2 Try.runUnderlying50 rfl Try.sizeOf25 (by decide) rfl rfl) ?_
                refine t_q (q_load1 Try.isAgg25 rfl (hS.cell (by repeat first | exact .here _ _ | assumption | apply Pick.there) rfl)) ?_
                refine t_q (q_mv (.slice _ _ _) rfl) ?_
                refine t_append_own (size := 1) (bytes := 1) Try.underlying25 (info_of Try.type5) rfl rfl rfl rfl (by decide) hS (by repeat first | exact .here _ _ | assumption | apply Pick.there) (by repeat first | exact .here _ _ | assumption | apply Pick.there) rfl rfl (by first | exact allOne_bv _ | exact allOne_ints _ _ | rfl) (by unfold maxLen; omega) (by omega) (fun A70 c70 w hS => ?_)
                refine t_q (q_fieldAddr 2 Try.runUnderlying50 rfl Try.sizeOf25 (by decide) rfl rfl) ?_
                refine t_store (v := (.slice _ _ _)) Try.sizeOf25 hS (by repeat first | exact .here _ _ | assumption | apply Pick.there) rfl rfl rfl rfl rfl rfl (fun w hS => ?_)
                replace hS := hS.recast (show blkA g9 50 _ = blkA g9 50 [.int .u64 (s.i : Int), .int .u64 (s.t : Int), .slice A70 (s.b.length + (tkL (bs.drop (pos bs (j + 1)))).length) c70] from rfl)
                refine t_nil ?_
                refine c_region ?_
                refine t_q (q_mv (.int _ _) rfl) ?_
                refine t_q (q_mv (.slice _ _ _) rfl) ?_
                refine t_q (q_len_slice Try.runUnderlying25 rfl) ?_
                refine t_q (q_cast (v' := .int .i64 ((left - (tkL (bs.drop (pos bs (j + 1)))).length : Nat) : Int)) (q_sub_i64 rfl rfl (by omega)) (by congr 1; omega)) ?_
                refine t_q (q_as (.int _ _) rfl) ?_
                refine t_nil ?_
                have hT := tl_more hI (by omega) hl0 hk6
                have h70 := (hS.pick (A := rowA 5 1 A70 _ c70 _) (by repeat first | exact .here _ _ | assumption | apply Pick.there)).recast (show _ = rowA 5 1 A70 (s.b ++ tkL (bs.drop (pos bs (j + 1)))).length c70 ((s.b ++ tkL (bs.drop (pos bs (j + 1)))).map bv) from by rw [List.map_append, List.length_append])
                have h2 := ((((h70.pick (A := blkA g2 50 _) (by repeat first | exact .here _ _ | assumption | apply Pick.there)).pick (A := rowA 5 1 A70 _ c70 _) (by repeat first | exact .here _ _ | assumption | apply Pick.there)).pick (A := blkA g9 50 _) (by repeat first | exact .here _ _ | assumption | apply Pick.there))).front3
                refine ⟨left - (tkL (bs.drop (pos bs (j + 1)))).length, by omega, j + 1, _, _, ⟨s.i, s.t, s.b ++ tkL (bs.drop (pos bs (j + 1)))⟩, rfl, congrArg (Value.int .i64) (tk_ok hk6.1).2.2, rfl, hB2, hw2, hk6.1, hT, Nat.le_refl _, St.unsn ⟨s.i, s.t, s.b ++ tkL (bs.drop (pos bs (j + 1)))⟩ (A := A70) (c := c70) (h2.recast (congrArg (fun n => blkA g9 50 [.int .u64 (s.i : Int), .int .u64 (s.t : Int), .slice A70 n c70]) (show s.b.length + (tkL (bs.drop (pos bs (j + 1)))).length = (s.b ++ tkL (bs.drop (pos bs (j + 1)))).length from List.length_append.symm)))⟩
        · intro hc17
          have hc17d := of_decide_eq_false hc17
          obtain rfl : left = 0 := by omega
          have hts : tel bs = some s := tl_done hI (by omega)
          refine c_exit ?_
          refine ite_t rfl ?_
          refine c_seq ?_
          refine c_region ?_
          refine t_q (q_load_blk Try.isAgg50 Try.sizeOf50 rfl (hS.blk (by repeat first | exact .here _ _ | assumption | apply Pick.there)) rfl) ?_
          refine t_store (v := (.agg _)) Try.sizeOf50 hS (by repeat first | exact .here _ _ | assumption | apply Pick.there) rfl rfl rfl rfl rfl rfl (fun w hS => ?_)
          refine t_q (q_assign) ?_
          refine t_nil ?_
          refine c_ret ?_
          refine r_two rfl (res1_cellN Try.isAgg50 Try.sizeOf50 rfl (hS.blk (by repeat first | exact .here _ _ | assumption | apply Pick.there)) rfl) rfl ?_
          first
            | (have e1 : telS bs = sn0 := by unfold telS; rw [htn]; rfl
               have e2 : (tel bs).isSome = false := by rw [htn]; rfl
               rw [e1, e2]
               exact ⟨none, 0, rfl, hS.nil.nilrow 5 1⟩)
            | (have e1 : telS bs = s := by unfold telS; rw [hts]; rfl
               have e2 : (tel bs).isSome = true := by rw [hts]; rfl
               rw [e1, e2]
               exact ⟨Ab, cb, rfl, (hS.pick (A := rowA 5 1 Ab _ cb _) (by repeat first | exact .here _ _ | assumption | apply Pick.there)).front1⟩)
end Go.Proofs.Ytlppgpidakfnlaa
