/- Messages read from bytes: the document's. -/
import Derived.Test.YtlppgpidakfnlaaXn
import Derived.Test.YtlppgpidakfnlaaXf
namespace Go.Proofs.Ytlppgpidakfnlaa
open Go Go.RowKit Go.Lib
variable {W : World}
/-- nothing that is read so may be -/
def BadM (s : Rs) : Prop := (m13 s).2.endOk = 0 → ∀ y : MsgV, y.vw = mM s → soundB y = false
theorem bad_seven {s : Rs} (h7 : ((m0 s).1 : Int) = 7) (h : (m10 s).2.bad = true ∨ 512 < (m10 s).1.length) : BadM s := by
  intro he y hy
  have hv : mv s = 32 := by unfold mv; rw [h7]; rfl
  have e11 : m11 s = (0, (m10 s).2) := by unfold m11 oqN; rw [hv]; rfl
  have e12 : m12 s = (0, (m11 s).2) := by unfold m12 oqN; rw [hv]; rfl
  have e13 : m13 s = ([], (m12 s).2) := by unfold m13 oqE; rw [hv]; rfl
  have hst : (m13 s).2 = (m10 s).2 := by rw [e13, e12, e11]
  rw [hst] at he
  rcases h with h | h
  · rw [(endOk_z he).1] at h; cases h
  · cases hb : soundB y with
    | false => rfl
    | true =>
      exfalso
      unfold MsgV.vw mM at hy
      rw [Mg.mk.injEq] at hy
      obtain ⟨k1, _, _, _, _, _, _, _, _, k10, _, _, _⟩ := hy
      unfold soundB fitB at hb
      simp only [Bool.and_eq_true, decide_eq_true_eq] at hb
      obtain ⟨_, _, _, _, _, _, _, _, _, _, _, q8, _, _⟩ := hb
      have := q8 (by omega)
      rw [k10] at this
      omega
theorem qm0 {w : World} {L R : List Asn} {g : Nat} {s : Rs} (hS : St W w L) (pk : Pick L (rdrA W 145 g s) R) : Calls Try.prog 75 #[.pointer (some ⟨g, 0, none⟩), .int .u64 8] w fun e w' => e = .returned (.int .u64 ((m0 s).1 : Int)) ∧ St W w' (rdrA W 145 g (m0 s).2 :: R) := qNat (most := 8) hS pk (by decide) (by decide)
theorem qm1 {w : World} {L R : List Asn} {g : Nat} {s : Rs} (hS : St W w L) (pk : Pick L (rdrA W 145 g (m0 s).2) R) : Calls Try.prog 75 #[.pointer (some ⟨g, 0, none⟩), .int .u64 15] w fun e w' => e = .returned (.int .u64 ((m1 s).1 : Int)) ∧ St W w' (rdrA W 145 g (m1 s).2 :: R) := qNat (most := 15) hS pk (by decide) (by decide)
theorem qm2 {w : World} {L R : List Asn} {g : Nat} {s : Rs} (hS : St W w L) (pk : Pick L (rdrA W 145 g (m1 s).2) R) : Calls Try.prog 75 #[.pointer (some ⟨g, 0, none⟩), .int .u64 15] w fun e w' => e = .returned (.int .u64 ((m2 s).1 : Int)) ∧ St W w' (rdrA W 145 g (m2 s).2 :: R) := qNat (most := 15) hS pk (by decide) (by decide)
theorem qm3 {w : World} {L R : List Asn} {g : Nat} {s : Rs} (hS : St W w L) (pk : Pick L (rdrA W 145 g (m2 s).2) R) : Calls Try.prog 75 #[.pointer (some ⟨g, 0, none⟩), .int .u64 4611686018427387904] w fun e w' => e = .returned (.int .u64 ((m3 s).1 : Int)) ∧ St W w' (rdrA W 145 g (m3 s).2 :: R) := qNat (most := 4611686018427387904) hS pk (by decide) (by decide)
theorem qen1 {w : World} {L R : List Asn} {g : Nat} {s : Rs} (hS : St W w L) (pk : Pick L (rdrA W 145 g s) R) : Calls Try.prog 75 #[.pointer (some ⟨g, 0, none⟩), .int .u64 4611686018427387904] w fun e w' => e = .returned (.int .u64 ((en1 s).1 : Int)) ∧ St W w' (rdrA W 145 g (en1 s).2 :: R) := qNat (most := 4611686018427387904) hS pk (by decide) (by decide)
theorem qen2 {w : World} {L R : List Asn} {g : Nat} {s : Rs} (hS : St W w L) (pk : Pick L (rdrA W 145 g (en1 s).2) R) : Calls Try.prog 75 #[.pointer (some ⟨g, 0, none⟩), .int .u64 4611686018427387904] w fun e w' => e = .returned (.int .u64 ((en2 s).1 : Int)) ∧ St W w' (rdrA W 145 g (en2 s).2 :: R) := qNat (most := 4611686018427387904) hS pk (by decide) (by decide)
theorem qen3 {w : World} {L R : List Asn} {g : Nat} {s : Rs} (hS : St W w L) (pk : Pick L (rdrA W 145 g (en2 s).2) R) : Calls Try.prog 121 #[.pointer (some ⟨g, 0, none⟩), .int .i64 512] w fun e w' => e = .returned (.string ⟨(en3 s).1.toArray⟩) ∧ St W w' (rdrA W 145 g (en3 s).2 :: R) := qText (most := 512) hS pk (by decide)
theorem qm10 {w : World} {L R : List Asn} {g : Nat} {s : Rs} (h : hasF (mv s) 32 = true) (hS : St W w L) (pk : Pick L (rdrA W 145 g (m9 s).2) R) : Calls Try.prog 121 #[.pointer (some ⟨g, 0, none⟩), .int .i64 524288] w fun e w' => e = .returned (.string ⟨(m10 s).1.toArray⟩) ∧ St W w' (rdrA W 145 g (m10 s).2 :: R) := by
  have e : m10 s = (m9 s).2.text 524288 := by unfold m10 oqT; rw [h]; rfl
  rw [e]
  exact qText (most := 524288) hS pk (by decide)
theorem qm4 {w : World} {L R : List Asn} {g : Nat} {s : Rs} (h : hasF (mv s) 1 = true) (hS : St W w L) (pk : Pick L (rdrA W 145 g (m3 s).2) R) : Calls Try.prog 120 #[.pointer (some ⟨g, 0, none⟩)] w fun e w' => e = .returned (.bool (decide ((m4 s).1 = 1))) ∧ St W w' (rdrA W 145 g (m4 s).2 :: R) := by
  have e : m4 s = (m3 s).2.nat 1 := by unfold m4 oqN; rw [h]; rfl
  rw [e]
  exact qFlag hS pk
theorem qm5 {w : World} {L R : List Asn} {g : Nat} {s : Rs} (h : hasF (mv s) 2 = true) (hS : St W w L) (pk : Pick L (rdrA W 145 g (m4 s).2) R) : Calls Try.prog 75 #[.pointer (some ⟨g, 0, none⟩), .int .u64 4611686018427387904] w fun e w' => e = .returned (.int .u64 ((m5 s).1 : Int)) ∧ St W w' (rdrA W 145 g (m5 s).2 :: R) := by
  have e : m5 s = (m4 s).2.nat mI := by unfold m5 oqN; rw [h]; rfl
  rw [e]
  exact qNat (most := 4611686018427387904) hS pk (by decide) (by decide)
theorem qm6 {w : World} {L R : List Asn} {g : Nat} {s : Rs} (h : hasF (mv s) 4 = true) (hS : St W w L) (pk : Pick L (rdrA W 145 g (m5 s).2) R) : Calls Try.prog 75 #[.pointer (some ⟨g, 0, none⟩), .int .u64 4611686018427387904] w fun e w' => e = .returned (.int .u64 ((m6 s).1 : Int)) ∧ St W w' (rdrA W 145 g (m6 s).2 :: R) := by
  have e : m6 s = (m5 s).2.nat mI := by unfold m6 oqN; rw [h]; rfl
  rw [e]
  exact qNat (most := 4611686018427387904) hS pk (by decide) (by decide)
theorem qm7 {w : World} {L R : List Asn} {g : Nat} {s : Rs} (h : hasF (mv s) 8 = true) (hS : St W w L) (pk : Pick L (rdrA W 145 g (m6 s).2) R) : Calls Try.prog 75 #[.pointer (some ⟨g, 0, none⟩), .int .u64 4611686018427387904] w fun e w' => e = .returned (.int .u64 ((m7 s).1 : Int)) ∧ St W w' (rdrA W 145 g (m7 s).2 :: R) := by
  have e : m7 s = (m6 s).2.nat mI := by unfold m7 oqN; rw [h]; rfl
  rw [e]
  exact qNat (most := 4611686018427387904) hS pk (by decide) (by decide)
theorem qm8 {w : World} {L R : List Asn} {g : Nat} {s : Rs} (h : hasF (mv s) 16 = true) (hS : St W w L) (pk : Pick L (rdrA W 145 g (m7 s).2) R) : Calls Try.prog 75 #[.pointer (some ⟨g, 0, none⟩), .int .u64 32] w fun e w' => e = .returned (.int .u64 ((m8 s).1 : Int)) ∧ St W w' (rdrA W 145 g (m8 s).2 :: R) := by
  have e : m8 s = (m7 s).2.nat 32 := by unfold m8 oqN; rw [h]; rfl
  rw [e]
  exact qNat (most := 32) hS pk (by decide) (by decide)
theorem qm11 {w : World} {L R : List Asn} {g : Nat} {s : Rs} (h : hasF (mv s) 64 = true) (hS : St W w L) (pk : Pick L (rdrA W 145 g (m10 s).2) R) : Calls Try.prog 75 #[.pointer (some ⟨g, 0, none⟩), .int .u64 8] w fun e w' => e = .returned (.int .u64 ((m11 s).1 : Int)) ∧ St W w' (rdrA W 145 g (m11 s).2 :: R) := by
  have e : m11 s = (m10 s).2.nat 8 := by unfold m11 oqN; rw [h]; rfl
  rw [e]
  exact qNat (most := 8) hS pk (by decide) (by decide)
theorem qm12 {w : World} {L R : List Asn} {g : Nat} {s : Rs} (h : hasF (mv s) 64 = true) (hS : St W w L) (pk : Pick L (rdrA W 145 g (m11 s).2) R) : Calls Try.prog 75 #[.pointer (some ⟨g, 0, none⟩), .int .u64 18446744073709551615] w fun e w' => e = .returned (.int .u64 ((m12 s).1 : Int)) ∧ St W w' (rdrA W 145 g (m12 s).2 :: R) := by
  have e : m12 s = (m11 s).2.nat allNat := by unfold m12 oqN; rw [h]; rfl
  rw [e]
  exact qNat_all hS pk
attribute [local irreducible] blkA rowA rdrA rdsA
set_option maxHeartbeats 8000000 in
set_option maxRecDepth 100000 in
theorem qread_calls {A : Option Addr} {c : Nat} {bs : List UInt8} (hR : RdB W A bs) (hc : bs.length ≤ c ∧ bs.length ≤ 100000000) : Calls Try.prog 67 #[.slice A bs.length c] W fun e w' => ∃ (x : MsgV) (er : Int), e = .returned (.tuple #[.agg x.cells.toArray, .int .i64 er]) ∧ GdBy x ∧ RdOut bs x er ∧ St W w' [rdsA (msgR x)] := by
 have hS := St.init W
 refine calls_of_wpE (args := [_]) Try.func67 rfl rfl rfl ?_
 refine c_seq (c_region ?_)
 refine t_alloc Try.zeroValue119 rfl hS (fun g2 w hS => ?_)
 refine t_q (q_assign) ?_
 refine t_nil (c_seq (c_region ?_))
 refine t_q (q_assign) ?_
 refine t_nil (c_seq (c_block ?_))
 refine c_loop [0, 3, 4, 5, 6, 7, 8, 16, 17, 18, 19, 20, 21, 22, 23, 24, 25, 26, 27, 28, 29, 30, 31, 32, 33, 34, 35, 36, 37, 38] (fun k σ w => ∃ (left : List UInt8) (B : Option Addr) (cl : Nat) (X : List UInt8) (A2 : Option Addr) (c2 : Nat), σ 0 = .slice B left.length cl ∧ σ 4 = .slice A2 X.length c2 ∧ RdB W B left ∧ (left.length ≤ cl ∧ X.length + left.length ≤ 100000000) ∧ (jn left).map (X ++ ·) = jn bs ∧ left.length ≤ k ∧ St W w [rowA 5 1 A2 X.length c2 ((X).map bv), blkA g2 119 [.int .i64 0, .int .i64 0, .int .i64 0, .int .u64 0, .int .u64 0, .int .u64 0, .int .u64 0, .bool false, .slice none 0 0, .slice none 0 0, .int .u64 0, .int .u64 0, .slice none 0 0]]) (bs.length) rfl (⟨bs, A, c, [], none, 0, rfl, rfl, hR, ⟨hc.1, by simp; omega⟩, by simp, Nat.le_refl _, hS.nilrow 5 1⟩) ?_
 skip
 rintro k σ w ⟨left, B, cl, X, A2, c2, h0, h4, hB, hcl, hX, hk, hS⟩
 refine c_know 0 h0 ?_
 refine c_know 4 h4 ?_
 clear h0 h4
 refine c_block (c_seq (c_region ?_))
 refine t_q (q_mv (.slice _ _ _) rfl) ?_
 refine t_call Try.call24 (qtake_calls (hB.st hS) ⟨hcl.1, by omega⟩) rfl ?_
 rintro e w ⟨A18, m18, c18, rfl, hm18, hT⟩
 refine ⟨_, rfl, ?_⟩
 have hS : St W w (_ :: _) := hS.lift hT
 subst hm18
 refine t_q (q_mv (.tuple _) rfl) ?_
 refine t_q (q_extract rfl rfl) ?_
 refine t_q (q_extract rfl rfl) ?_
 refine t_q (q_extract rfl rfl) ?_
 refine t_q (q_extract rfl rfl) ?_
 refine t_q (q_as (.int _ _) rfl) ?_
 refine t_q (q_as (.slice _ _ _) rfl) ?_
 refine t_q (q_as (.int _ _) rfl) ?_
 refine t_q (q_as (.int _ _) rfl) ?_
 refine t_nil (c_seq (c_seq (c_region ?_)))
 refine t_q (q_mv (.int _ _) rfl) ?_
 refine t_q (q_neq rfl rfl) ?_
 refine t_q (q_mv (.bool _) rfl) ?_
 refine t_case 25 rfl ?_ ?_
 ·
  intro hg7
  have hg7d := of_decide_eq_true hg7
  refine t_no rfl rfl (by rw [hg7]; decide) ?_
  refine t_no rfl rfl (by rw [hg7]; decide) ?_
  refine t_q (q_pick_t rfl hg7) ?_
  refine t_nil ?_
  refine c_cond_t rfl rfl ?_
  have hno : RdOut bs zV 20 := by
    have hn : jn left = none := by
      first
        | exact jn_e (by omega)
        | exact jn_k (by omega)
    rw [hn] at hX
    exact .inr ⟨rfl, rfl, fun Z' hj => by rw [← hX] at hj; cases hj⟩
  refine c_seq (c_region ?_)
  refine t_q (q_build (qs := [(0, 1), (1, 1), (2, 1), (3, 1), (4, 1), (5, 1), (6, 1), (7, 1), (8, 1), (9, 1), (10, 1), (11, 1), (12, 1)]) [(.int _ _), (.int _ _), (.int _ _), (.int _ _), (.int _ _), (.int _ _), (.int _ _), (.bool _), (.slice _ _ _), (.slice _ _ _), (.int _ _), (.int _ _), (.slice _ _ _)] Try.zeroValue119 Try.runUnderlying119 ⟨rfl, Try.sizeOf3, rfl, Try.sizeOf3, rfl, Try.sizeOf3, rfl, Try.sizeOf43, rfl, Try.sizeOf43, rfl, Try.sizeOf43, rfl, Try.sizeOf43, rfl, Try.sizeOf4, rfl, Try.sizeOf117, rfl, Try.sizeOf25, rfl, Try.sizeOf43, rfl, Try.sizeOf43, rfl, Try.sizeOf112, trivial⟩ rfl rfl) ?_
  refine t_store (v := (.agg _)) Try.sizeOf119 hS (by repeat constructor) rfl rfl rfl rfl rfl rfl (fun w hS => ?_)
  refine t_q (q_assign) ?_
  refine t_nil (c_ret ?_)
  refine r_two rfl (res1_cellN Try.isAgg119 Try.sizeOf119 rfl (hS.blk (by repeat constructor)) rfl) rfl ?_
  first
    | exact ⟨zV, 20, rfl, zV_by, hno, zV_rds hS⟩
    | exact ⟨(mkX s0 es bd ev), 0, rfl, mkX_by hok.1, hyes, mkX_rds hS (by repeat constructor) (by repeat constructor)⟩
 ·
  intro hg7
  have hg7d := of_decide_eq_false hg7
  refine t_yes rfl rfl hg7 ?_
  refine t_q (q_mv (.int _ _) rfl) ?_
  refine t_yes rfl rfl hg7 ?_
  refine t_q (q_neq rfl rfl) ?_
  refine t_q (q_pick_f rfl hg7) ?_
  refine t_nil ?_
  refine c_cond rfl ?_ ?_
  ·
   intro hc9
   have hc9d := of_decide_eq_true hc9
   have hno : RdOut bs zV 20 := by
     have hn : jn left = none := by
       first
         | exact jn_e (by omega)
         | exact jn_k (by omega)
     rw [hn] at hX
     exact .inr ⟨rfl, rfl, fun Z' hj => by rw [← hX] at hj; cases hj⟩
   refine c_seq (c_region ?_)
   refine t_q (q_build (qs := [(0, 1), (1, 1), (2, 1), (3, 1), (4, 1), (5, 1), (6, 1), (7, 1), (8, 1), (9, 1), (10, 1), (11, 1), (12, 1)]) [(.int _ _), (.int _ _), (.int _ _), (.int _ _), (.int _ _), (.int _ _), (.int _ _), (.bool _), (.slice _ _ _), (.slice _ _ _), (.int _ _), (.int _ _), (.slice _ _ _)] Try.zeroValue119 Try.runUnderlying119 ⟨rfl, Try.sizeOf3, rfl, Try.sizeOf3, rfl, Try.sizeOf3, rfl, Try.sizeOf43, rfl, Try.sizeOf43, rfl, Try.sizeOf43, rfl, Try.sizeOf43, rfl, Try.sizeOf4, rfl, Try.sizeOf117, rfl, Try.sizeOf25, rfl, Try.sizeOf43, rfl, Try.sizeOf43, rfl, Try.sizeOf112, trivial⟩ rfl rfl) ?_
   refine t_store (v := (.agg _)) Try.sizeOf119 hS (by repeat constructor) rfl rfl rfl rfl rfl rfl (fun w hS => ?_)
   refine t_q (q_assign) ?_
   refine t_nil (c_ret ?_)
   refine r_two rfl (res1_cellN Try.isAgg119 Try.sizeOf119 rfl (hS.blk (by repeat constructor)) rfl) rfl ?_
   first
     | exact ⟨zV, 20, rfl, zV_by, hno, zV_rds hS⟩
     | exact ⟨(mkX s0 es bd ev), 0, rfl, mkX_by hok.1, hyes, mkX_rds hS (by repeat constructor) (by repeat constructor)⟩
  ·
   intro hc9
   have hc9d := of_decide_eq_false hc9
   have he0 : tkE left = 0 := by omega
   have hk7 : ((tkK left).toNat : Int) = 7 := by omega
   have hnl := tkN_le he0
   have hll : (tkL left).length ≤ tkN left := by
     have h := (tk_ok he0).2.1
     rw [h, List.length_take]
     have h2 : tkN left = tkFrom left + szN left + 4 := rfl
     omega
   refine c_skip (c_seq (c_region ?_))
   refine t_q (q_mv (.slice _ _ _) rfl) ?_
   refine t_q (q_mv (.slice _ _ _) rfl) ?_
   refine t_append_own (size := 1) (bytes := 1) Try.underlying25 (info_of Try.type5) rfl rfl rfl rfl (by decide) hS (by repeat constructor) (by repeat constructor) rfl rfl (by first | exact allOne_bv _ | exact allOne_ints _ _ | rfl) (by unfold maxLen; omega) (by omega) (fun A32 c32 w hS => ?_)
   refine t_q (q_as (.slice _ _ _) rfl) ?_
   refine t_nil (c_seq (c_region ?_))
   refine t_q (q_mv (.slice _ _ _) rfl) ?_
   refine t_q (q_cast (v' := .int .i64 (tkN left : Int)) (q_mv (.int _ _) rfl) (by rw [(tk_ok he0).2.2])) ?_
   refine t_q (q_cast (v' := .slice (if cl = tkN left then B else B.map (·.add (tkN left * 1))) (left.drop (tkN left)).length (cl - tkN left)) (q_slice Try.runUnderlying25 Try.sizeOf5 rfl rfl ⟨_, _, rfl, by omega, by omega, rfl⟩) (by rw [List.length_drop]; rfl)) ?_
   refine t_q (q_as (.slice _ _ _) rfl) ?_
   refine t_nil (c_seq (c_region ?_))
   refine t_q (q_mv (.slice _ _ _) rfl) ?_
   refine t_q (q_len_slice Try.runUnderlying25 rfl) ?_
   refine t_q (q_lss rfl rfl) ?_
   refine t_nil ?_
   refine c_cond rfl ?_ ?_
   ·
    intro hc11
    have hc11d := of_decide_eq_true hc11
    have hJ : jn bs = if tkN left = left.length then some (X ++ tkL left) else none := by
      rw [← hX, jn_last he0 hk7 (by omega)]
      split <;> rfl
    have hXl : (X ++ tkL left).length ≤ 100000000 := by rw [List.length_append]; omega
    replace hS := ((((hS.pick (A := blkA g2 119 [.int .i64 0, .int .i64 0, .int .i64 0, .int .u64 0, .int .u64 0, .int .u64 0, .int .u64 0, .bool false, .slice none 0 0, .slice none 0 0, .int .u64 0, .int .u64 0, .slice none 0 0]) (by repeat constructor)).pick (A := rowA 5 1 A32 _ c32 _) (by repeat constructor))).front2).recast (show _ = rowA 5 1 A32 (X ++ tkL left).length c32 ((X ++ tkL left).map bv) from by rw [List.map_append, List.length_append])
    refine c_exit ?_
    refine ite_f (by decide) ?_
    refine ite_t rfl ?_
    refine c_seq ?_
    have hle32 := hS.row_le (t := 5) (size := 1) (A := A32) (c := c32) (by repeat constructor)
    have hb1 := hS.rowRd (A := A32) (c := c32) (bs := X ++ tkL left) (by repeat constructor) rfl
    have hS0 := hS
    obtain ⟨w1, hw1⟩ : ∃ x, x = w := ⟨_, rfl⟩
    subst hw1
    replace hS := St.init w1
    have hZl : X.length + (tkL left).length = (X ++ tkL left).length := List.length_append.symm
    obtain ⟨Z, hZ⟩ : ∃ Z, Z = X ++ tkL left := ⟨_, rfl⟩
    rw [← hZ] at hb1 hle32 hJ hZl hXl
    obtain ⟨s0, hs0⟩ : ∃ s, s = (⟨Z, false⟩ : Rs) := ⟨_, rfl⟩
    have b0 : (m0 s0).1 ≤ 8 := s0.nat_le 8
    have b1 : (m1 s0).1 ≤ 15 := Rs.nat_le _ 15
    have b2 : (m2 s0).1 ≤ 15 := Rs.nat_le _ 15
    have b8 : (m8 s0).1 ≤ 32 := oqN_le _ _ _ _
    have hZu : ∀ Z', jn bs = some Z' → Z' = Z ∧ tkN left = left.length := fun Z' h => by
      rw [hJ] at h
      split at h
      · injection h with h
        exact ⟨h.symm, by assumption⟩
      · cases h
    refine c_region ?_
    refine t_q (q_mv (.slice _ _ _) rfl) ?_
    refine t_q (q_build (qs := [(0, 1), (1, 1)]) [(.slice _ _ _), (.bool _)] Try.zeroValue145 Try.runUnderlying145 ⟨rfl, Try.sizeOf25, rfl, Try.sizeOf4, trivial⟩ rfl rfl) ?_
    refine t_box (v := (.agg _)) rfl rfl hS (fun g41 w hS => ?_)
    replace hS := hS.recast (show _ = blkA g41 145 [.slice A32 (X.length + (tkL left).length) c32, .bool false] from rfl)
    replace hS := St.unrdr (V := w1) (s := s0) hS (by rw [hs0]; exact hZl) (by rw [hs0]) (by rw [hs0]; exact hb1) (by rw [hs0]; exact ⟨hle32, by show Z.length ≤ _; omega⟩)
    refine t_q (q_as (.pointer _) rfl) ?_
    refine t_nil (c_seq (c_region ?_))
    refine t_q (q_mv (.pointer _) rfl) ?_
    refine t_call Try.call75 (qm0 (s := s0) hS (by repeat constructor)) rfl ?_
    rintro e w ⟨rfl, hS⟩
    refine ⟨_, rfl, ?_⟩
    refine t_q (q_conv_i64 Try.runUnderlying43 Try.runUnderlying3 rfl (by omega)) ?_
    refine t_q (q_build (qs := [(0, 1), (1, 1), (2, 1), (3, 1), (4, 1), (5, 1), (6, 1), (7, 1), (8, 1), (9, 1), (10, 1), (11, 1), (12, 1)]) [(.int _ _), (.int _ _), (.int _ _), (.int _ _), (.int _ _), (.int _ _), (.int _ _), (.bool _), (.slice _ _ _), (.slice _ _ _), (.int _ _), (.int _ _), (.slice _ _ _)] Try.zeroValue119 Try.runUnderlying119 ⟨rfl, Try.sizeOf3, rfl, Try.sizeOf3, rfl, Try.sizeOf3, rfl, Try.sizeOf43, rfl, Try.sizeOf43, rfl, Try.sizeOf43, rfl, Try.sizeOf43, rfl, Try.sizeOf4, rfl, Try.sizeOf117, rfl, Try.sizeOf25, rfl, Try.sizeOf43, rfl, Try.sizeOf43, rfl, Try.sizeOf112, trivial⟩ rfl rfl) ?_
    refine t_alloc Try.zeroValue119 rfl hS (fun g10 w hS => ?_)
    refine t_store (v := (.agg _)) Try.sizeOf119 hS (by repeat constructor) rfl rfl rfl rfl rfl rfl (fun w hS => ?_)
    replace hS := hS.recast (show blkA g10 119 _ = blkA g10 119 [.int .i64 ((m0 s0).1 : Int), .int .i64 0, .int .i64 0, .int .u64 0, .int .u64 0, .int .u64 0, .int .u64 0, .bool (false), .slice none 0 0, .slice none 0 0, .int .u64 0, .int .u64 0, .slice none 0 0] from rfl)
    refine t_nil (c_seq (c_region ?_))
    refine t_q (q_mv (.pointer _) rfl) ?_
    refine t_call Try.call75 (qm1 (s := s0) hS (by repeat constructor)) rfl ?_
    rintro e w ⟨rfl, hS⟩
    refine ⟨_, rfl, ?_⟩
    refine t_q (q_conv_i64 Try.runUnderlying43 Try.runUnderlying3 rfl (by omega)) ?_
    refine t_q (q_fieldAddr 1 Try.runUnderlying119 rfl Try.sizeOf3 (by decide) rfl rfl) ?_
    refine t_store (v := (.int _ _)) Try.sizeOf3 hS (by repeat constructor) rfl rfl rfl rfl rfl rfl (fun w hS => ?_)
    replace hS := hS.recast (show blkA g10 119 _ = blkA g10 119 [.int .i64 ((m0 s0).1 : Int), .int .i64 ((m1 s0).1 : Int), .int .i64 0, .int .u64 0, .int .u64 0, .int .u64 0, .int .u64 0, .bool (false), .slice none 0 0, .slice none 0 0, .int .u64 0, .int .u64 0, .slice none 0 0] from rfl)
    refine t_nil (c_seq (c_region ?_))
    refine t_q (q_mv (.pointer _) rfl) ?_
    refine t_call Try.call75 (qm2 (s := s0) hS (by repeat constructor)) rfl ?_
    rintro e w ⟨rfl, hS⟩
    refine ⟨_, rfl, ?_⟩
    refine t_q (q_conv_i64 Try.runUnderlying43 Try.runUnderlying3 rfl (by omega)) ?_
    refine t_q (q_fieldAddr 2 Try.runUnderlying119 rfl Try.sizeOf3 (by decide) rfl rfl) ?_
    refine t_store (v := (.int _ _)) Try.sizeOf3 hS (by repeat constructor) rfl rfl rfl rfl rfl rfl (fun w hS => ?_)
    replace hS := hS.recast (show blkA g10 119 _ = blkA g10 119 [.int .i64 ((m0 s0).1 : Int), .int .i64 ((m1 s0).1 : Int), .int .i64 ((m2 s0).1 : Int), .int .u64 0, .int .u64 0, .int .u64 0, .int .u64 0, .bool (false), .slice none 0 0, .slice none 0 0, .int .u64 0, .int .u64 0, .slice none 0 0] from rfl)
    refine t_nil (c_seq (c_region ?_))
    refine t_q (q_mv (.pointer _) rfl) ?_
    refine t_call Try.call75 (qm3 (s := s0) hS (by repeat constructor)) rfl ?_
    rintro e w ⟨rfl, hS⟩
    refine ⟨_, rfl, ?_⟩
    refine t_q (q_fieldAddr 3 Try.runUnderlying119 rfl Try.sizeOf43 (by decide) rfl rfl) ?_
    refine t_store (v := (.int _ _)) Try.sizeOf43 hS (by repeat constructor) rfl rfl rfl rfl rfl rfl (fun w hS => ?_)
    replace hS := hS.recast (show blkA g10 119 _ = ceA g10 119 s0 0 0 0 (false) (.slice none 0 0) (.slice none 0 0) 0 0 (.slice none 0 0) from rfl)
    refine t_nil ?_
    refine c_cut [3, 11, 12, 13, 14, 15, 57, 58, 59, 60, 61, 62, 63, 64, 65, 66, 67, 68, 69, 70, 71, 72, 73, 74, 75, 76, 77, 78, 79, 80, 81, 82, 83, 84, 85, 86, 87, 88, 89, 90, 91, 92, 93, 94, 95, 96, 97, 98, 99, 100, 101, 102, 103, 104, 105, 106, 107, 108, 109, 110, 111, 112, 113, 114, 115, 116, 117, 118, 119, 120, 121, 122, 123, 124, 125, 126, 127, 128, 129, 130, 131, 132, 133, 134, 135, 136, 137, 138, 139, 140, 141, 142, 143, 144, 145, 146, 147, 148, 149, 150, 151, 152, 153, 154] (fun σ w => ∃ (es : Sl EntV) (bd : Sl UInt8) (ev : Sl Ev) (t : Rs), ((PtOk s0 es bd ev ∧ t = (m13 s0).2) ∨ (t.bad = true ∧ BadM s0)) ∧ St w1 w [rdrA w1 145 g41 t, ceA g10 119 s0 ((m5 s0).1 : Int) ((m6 s0).1 : Int) ((m7 s0).1 : Int) (decide ((m4 s0).1 = 1)) (.slice es.A es.l.length es.c) (.slice bd.A bd.l.length bd.c) ((m11 s0).1 : Int) ((m12 s0).1 : Int) (.slice ev.A ev.l.length ev.c), rowA 174 3 es.A es.l.length es.c (es.l.flatMap EntV.cells), rdsA (erp ev :: brp bd :: es.l.map EntV.rp)]) rfl ?_ ?_
    ·
     refine c_seq (c_region ?_)
     refine t_q (q_fieldAddr 0 Try.runUnderlying119 rfl Try.sizeOf3 (by decide) rfl rfl) ?_
     refine t_q (q_load1 Try.isAgg3 rfl (hS.cell (by repeat constructor) rfl)) ?_
     refine t_nil (c_block (c_seq (c_region ?_)))
     refine t_q (q_eql rfl rfl) ?_
     refine t_q (q_as (.bool _) rfl) ?_
     refine t_nil ?_
     refine c_cond rfl ?_ ?_
     ·
      intro hc17
      have hc17d := of_decide_eq_true hc17
      have hk1 : ((m0 s0).1 : Int) = 1 := of_decide_eq_true hc17
      have hv1 : mv s0 = 6 := by unfold mv; rw [hk1]; rfl
      have e4 : m4 s0 = (0, (m3 s0).2) := by unfold m4 oqN; rw [hv1]; rfl
      have e7 : m7 s0 = (0, (m6 s0).2) := by unfold m7 oqN; rw [hv1]; rfl
      have e8 : m8 s0 = (0, (m7 s0).2) := by unfold m8 oqN; rw [hv1]; rfl
      have e9 : m9 s0 = ([], (m8 s0).2) := by unfold m9; rw [e8]; rfl
      have e10 : m10 s0 = ([], (m9 s0).2) := by unfold m10 oqT; rw [hv1]; rfl
      have e11 : m11 s0 = (0, (m10 s0).2) := by unfold m11 oqN; rw [hv1]; rfl
      have e12 : m12 s0 = (0, (m11 s0).2) := by unfold m12 oqN; rw [hv1]; rfl
      have e13 : m13 s0 = ([], (m12 s0).2) := by unfold m13 oqE; rw [hv1]; rfl
      refine c_seq (c_region ?_)
      refine t_q (q_mv (.pointer _) rfl) ?_
      have hskip := True.intro
      replace hS := (hS.pick (A := rdrA w1 145 g41 (m3 s0).2) (by repeat constructor)).recast (show _ = rdrA w1 145 g41 (m4 s0).2 from by rw [e4])
      refine t_call Try.call75 (qm5 (s := s0) (by rw [hv1]; rfl) hS (by repeat constructor)) rfl ?_
      rintro e w ⟨rfl, hS⟩
      refine ⟨_, rfl, ?_⟩
      refine t_q (q_fieldAddr 4 Try.runUnderlying119 rfl Try.sizeOf43 (by decide) rfl rfl) ?_
      refine t_store (v := (.int _ _)) Try.sizeOf43 hS (by repeat constructor) rfl rfl rfl rfl rfl rfl (fun w hS => ?_)
      replace hS := hS.recast (show blkA g10 119 _ = ceA g10 119 s0 ((m5 s0).1 : Int) 0 0 (false) (.slice none 0 0) (.slice none 0 0) 0 0 (.slice none 0 0) from rfl)
      refine t_nil (c_region ?_)
      refine t_q (q_mv (.pointer _) rfl) ?_
      refine t_call Try.call75 (qm6 (s := s0) (by rw [hv1]; rfl) hS (by repeat constructor)) rfl ?_
      rintro e w ⟨rfl, hS⟩
      refine ⟨_, rfl, ?_⟩
      refine t_q (q_fieldAddr 5 Try.runUnderlying119 rfl Try.sizeOf43 (by decide) rfl rfl) ?_
      refine t_store (v := (.int _ _)) Try.sizeOf43 hS (by repeat constructor) rfl rfl rfl rfl rfl rfl (fun w hS => ?_)
      replace hS := hS.recast (show blkA g10 119 _ = ceA g10 119 s0 ((m5 s0).1 : Int) ((m6 s0).1 : Int) 0 (false) (.slice none 0 0) (.slice none 0 0) 0 0 (.slice none 0 0) from rfl)
      refine t_nil ?_
      first
        | (have hz1 := hv1
           replace hS := (hS.pick (A := rdrA w1 145 g41 (m6 s0).2) (by repeat constructor)).recast (show _ = rdrA w1 145 g41 (m13 s0).2 from by rw [e13, e12, e11, e10, e9, e8, e7])
           replace hS := (hS.pick (A := blkA g10 119 _) (by repeat constructor)).recast (show ceA g10 119 s0 ((m5 s0).1 : Int) ((m6 s0).1 : Int) 0 (false) (.slice none 0 0) (.slice none 0 0) 0 0 (.slice none 0 0) = ceA g10 119 s0 ((m5 s0).1 : Int) ((m6 s0).1 : Int) ((m7 s0).1 : Int) (decide ((m4 s0).1 = 1)) (.slice (sl0 : Sl EntV).A (sl0 : Sl EntV).l.length (sl0 : Sl EntV).c) (.slice (sl0 : Sl UInt8).A (sl0 : Sl UInt8).l.length (sl0 : Sl UInt8).c) ((m11 s0).1 : Int) ((m12 s0).1 : Int) (.slice (sl0 : Sl Ev).A (sl0 : Sl Ev).l.length (sl0 : Sl Ev).c) from by unfold ceA; rw [e4, e7, e11, e12]; rfl)
           exact ⟨(sl0 : Sl EntV), (sl0 : Sl UInt8), (sl0 : Sl Ev), (m13 s0).2, .inl ⟨⟨(by rw [e9]; rfl), (fun e he => by cases he), (by rw [e10]; rfl), Nat.le_refl _, (by rw [e13]; rfl)⟩, rfl⟩, (((((((hS.rds0.rds_none 1 (bsf [])).rds_none 12 (evf [])).nilrow 174 3).pick (A := rdsA _) (by repeat constructor)).pick (A := rowA 174 3 _ _ _ _) (by repeat constructor)).pick (A := blkA g10 119 _) (by repeat constructor)).pick (A := rdrA w1 145 g41 _) (by repeat constructor))⟩)
     ·
      intro hc17
      have hc17d := of_decide_eq_false hc17
      refine c_seq (c_region ?_)
      refine t_q (q_eql rfl rfl) ?_
      refine t_q (q_as (.bool _) rfl) ?_
      refine t_nil ?_
      refine c_cond rfl ?_ ?_
      ·
       intro hc21
       have hc21d := of_decide_eq_true hc21
       have hk2 : ((m0 s0).1 : Int) = 2 := of_decide_eq_true hc21
       have hv2 : mv s0 = 1 := by unfold mv; rw [hk2]; rfl
       have e5 : m5 s0 = (0, (m4 s0).2) := by unfold m5 oqN; rw [hv2]; rfl
       have e6 : m6 s0 = (0, (m5 s0).2) := by unfold m6 oqN; rw [hv2]; rfl
       have e7 : m7 s0 = (0, (m6 s0).2) := by unfold m7 oqN; rw [hv2]; rfl
       have e8 : m8 s0 = (0, (m7 s0).2) := by unfold m8 oqN; rw [hv2]; rfl
       have e9 : m9 s0 = ([], (m8 s0).2) := by unfold m9; rw [e8]; rfl
       have e10 : m10 s0 = ([], (m9 s0).2) := by unfold m10 oqT; rw [hv2]; rfl
       have e11 : m11 s0 = (0, (m10 s0).2) := by unfold m11 oqN; rw [hv2]; rfl
       have e12 : m12 s0 = (0, (m11 s0).2) := by unfold m12 oqN; rw [hv2]; rfl
       have e13 : m13 s0 = ([], (m12 s0).2) := by unfold m13 oqE; rw [hv2]; rfl
       refine c_region ?_
       refine t_q (q_mv (.pointer _) rfl) ?_
       refine t_call Try.call120 (qm4 (s := s0) (by rw [hv2]; rfl) hS (by repeat constructor)) rfl ?_
       rintro e w ⟨rfl, hS⟩
       refine ⟨_, rfl, ?_⟩
       refine t_q (q_fieldAddr 7 Try.runUnderlying119 rfl Try.sizeOf4 (by decide) rfl rfl) ?_
       refine t_store (v := (.bool _)) Try.sizeOf4 hS (by repeat constructor) rfl rfl rfl rfl rfl rfl (fun w hS => ?_)
       replace hS := hS.recast (show blkA g10 119 _ = ceA g10 119 s0 0 0 0 (decide ((m4 s0).1 = 1)) (.slice none 0 0) (.slice none 0 0) 0 0 (.slice none 0 0) from rfl)
       refine t_nil ?_
       first
         | (have hz2 := hv2
            replace hS := (hS.pick (A := rdrA w1 145 g41 (m4 s0).2) (by repeat constructor)).recast (show _ = rdrA w1 145 g41 (m13 s0).2 from by rw [e13, e12, e11, e10, e9, e8, e7, e6, e5])
            replace hS := (hS.pick (A := blkA g10 119 _) (by repeat constructor)).recast (show ceA g10 119 s0 0 0 0 (decide ((m4 s0).1 = 1)) (.slice none 0 0) (.slice none 0 0) 0 0 (.slice none 0 0) = ceA g10 119 s0 ((m5 s0).1 : Int) ((m6 s0).1 : Int) ((m7 s0).1 : Int) (decide ((m4 s0).1 = 1)) (.slice (sl0 : Sl EntV).A (sl0 : Sl EntV).l.length (sl0 : Sl EntV).c) (.slice (sl0 : Sl UInt8).A (sl0 : Sl UInt8).l.length (sl0 : Sl UInt8).c) ((m11 s0).1 : Int) ((m12 s0).1 : Int) (.slice (sl0 : Sl Ev).A (sl0 : Sl Ev).l.length (sl0 : Sl Ev).c) from by unfold ceA; rw [e5, e6, e7, e11, e12]; rfl)
            exact ⟨(sl0 : Sl EntV), (sl0 : Sl UInt8), (sl0 : Sl Ev), (m13 s0).2, .inl ⟨⟨(by rw [e9]; rfl), (fun e he => by cases he), (by rw [e10]; rfl), Nat.le_refl _, (by rw [e13]; rfl)⟩, rfl⟩, (((((((hS.rds0.rds_none 1 (bsf [])).rds_none 12 (evf [])).nilrow 174 3).pick (A := rdsA _) (by repeat constructor)).pick (A := rowA 174 3 _ _ _ _) (by repeat constructor)).pick (A := blkA g10 119 _) (by repeat constructor)).pick (A := rdrA w1 145 g41 _) (by repeat constructor))⟩)
      ·
       intro hc21
       have hc21d := of_decide_eq_false hc21
       refine c_seq (c_region ?_)
       refine t_q (q_eql rfl rfl) ?_
       refine t_q (q_as (.bool _) rfl) ?_
       refine t_nil ?_
       refine c_cond rfl ?_ ?_
       ·
        intro hc24
        have hc24d := of_decide_eq_true hc24
        have hk3 : ((m0 s0).1 : Int) = 3 := of_decide_eq_true hc24
        have hv3 : mv s0 = 30 := by unfold mv; rw [hk3]; rfl
        have e4 : m4 s0 = (0, (m3 s0).2) := by unfold m4 oqN; rw [hv3]; rfl
        have e10 : m10 s0 = ([], (m9 s0).2) := by unfold m10 oqT; rw [hv3]; rfl
        have e11 : m11 s0 = (0, (m10 s0).2) := by unfold m11 oqN; rw [hv3]; rfl
        have e12 : m12 s0 = (0, (m11 s0).2) := by unfold m12 oqN; rw [hv3]; rfl
        have e13 : m13 s0 = ([], (m12 s0).2) := by unfold m13 oqE; rw [hv3]; rfl
        refine c_seq (c_region ?_)
        refine t_q (q_mv (.pointer _) rfl) ?_
        have hskip := True.intro
        replace hS := (hS.pick (A := rdrA w1 145 g41 (m3 s0).2) (by repeat constructor)).recast (show _ = rdrA w1 145 g41 (m4 s0).2 from by rw [e4])
        refine t_call Try.call75 (qm5 (s := s0) (by rw [hv3]; rfl) hS (by repeat constructor)) rfl ?_
        rintro e w ⟨rfl, hS⟩
        refine ⟨_, rfl, ?_⟩
        refine t_q (q_fieldAddr 4 Try.runUnderlying119 rfl Try.sizeOf43 (by decide) rfl rfl) ?_
        refine t_store (v := (.int _ _)) Try.sizeOf43 hS (by repeat constructor) rfl rfl rfl rfl rfl rfl (fun w hS => ?_)
        replace hS := hS.recast (show blkA g10 119 _ = ceA g10 119 s0 ((m5 s0).1 : Int) 0 0 (false) (.slice none 0 0) (.slice none 0 0) 0 0 (.slice none 0 0) from rfl)
        refine t_nil (c_seq (c_region ?_))
        refine t_q (q_mv (.pointer _) rfl) ?_
        refine t_call Try.call75 (qm6 (s := s0) (by rw [hv3]; rfl) hS (by repeat constructor)) rfl ?_
        rintro e w ⟨rfl, hS⟩
        refine ⟨_, rfl, ?_⟩
        refine t_q (q_fieldAddr 5 Try.runUnderlying119 rfl Try.sizeOf43 (by decide) rfl rfl) ?_
        refine t_store (v := (.int _ _)) Try.sizeOf43 hS (by repeat constructor) rfl rfl rfl rfl rfl rfl (fun w hS => ?_)
        replace hS := hS.recast (show blkA g10 119 _ = ceA g10 119 s0 ((m5 s0).1 : Int) ((m6 s0).1 : Int) 0 (false) (.slice none 0 0) (.slice none 0 0) 0 0 (.slice none 0 0) from rfl)
        refine t_nil (c_seq (c_region ?_))
        refine t_q (q_mv (.pointer _) rfl) ?_
        refine t_call Try.call75 (qm7 (s := s0) (by rw [hv3]; rfl) hS (by repeat constructor)) rfl ?_
        rintro e w ⟨rfl, hS⟩
        refine ⟨_, rfl, ?_⟩
        refine t_q (q_fieldAddr 6 Try.runUnderlying119 rfl Try.sizeOf43 (by decide) rfl rfl) ?_
        refine t_store (v := (.int _ _)) Try.sizeOf43 hS (by repeat constructor) rfl rfl rfl rfl rfl rfl (fun w hS => ?_)
        replace hS := hS.recast (show blkA g10 119 _ = ceA g10 119 s0 ((m5 s0).1 : Int) ((m6 s0).1 : Int) ((m7 s0).1 : Int) (false) (.slice none 0 0) (.slice none 0 0) 0 0 (.slice none 0 0) from rfl)
        refine t_nil (c_seq (c_region ?_))
        refine t_q (q_mv (.pointer _) rfl) ?_
        refine t_call Try.call75 (qm8 (s := s0) (by rw [hv3]; rfl) hS (by repeat constructor)) rfl ?_
        rintro e w ⟨rfl, hS⟩
        refine ⟨_, rfl, ?_⟩
        refine t_q (q_as (.int _ _) rfl) ?_
        refine t_nil (c_seq (c_region ?_))
        refine t_q (q_assign) ?_
        refine t_nil (c_block ?_)
        refine c_loop [12, 13, 85, 86, 87, 88, 89, 90, 91, 92, 93, 94, 95, 96, 97, 98, 99, 100, 101, 102, 103, 104, 105] (fun k σ w => ∃ (j : Nat) (es : Sl EntV), σ 12 = .int .u64 (j : Int) ∧ es.l.map EntV.vw = (enk (m8 s0).2 j).1 ∧ (∀ e ∈ es.l, e.body.l.length ≤ e.body.c) ∧ es.l.length = j ∧ j ≤ (m8 s0).1 ∧ (m8 s0).1 - j ≤ k ∧ St w1 w [rdrA w1 145 g41 (enk (m8 s0).2 j).2, ceA g10 119 s0 ((m5 s0).1 : Int) ((m6 s0).1 : Int) ((m7 s0).1 : Int) (false) (.slice es.A es.l.length es.c) (.slice none 0 0) 0 0 (.slice none 0 0), rowA 174 3 es.A es.l.length es.c (es.l.flatMap EntV.cells), rdsA (es.l.map EntV.rp)]) ((m8 s0).1) rfl (⟨0, sl0, rfl, rfl, (fun e he => by cases he), rfl, by omega, by omega, (((((hS.rds0.nilrow 174 3).pick (A := rdsA []) (by repeat constructor)).pick (A := rowA 174 3 none 0 0 []) (by repeat constructor)).pick (A := blkA g10 119 _) (by repeat constructor)).pick (A := rdrA w1 145 g41 _) (by repeat constructor))⟩) ?_
        skip
        rintro k σ w ⟨j, es, h12, hes, hec, hel, hj8, hk, hS⟩
        refine c_know 12 h12 ?_
        clear h12
        refine c_seq (c_seq (c_region ?_))
        refine t_q (q_mv (.int _ _) rfl) ?_
        refine t_q (q_mv (.int _ _) rfl) ?_
        refine t_q (q_lss rfl rfl) ?_
        refine t_nil ?_
        refine c_cond rfl ?_ ?_
        ·
         intro hc30
         have hc30d := of_decide_eq_true hc30
         refine c_skip (c_seq (c_block (c_seq (c_region ?_))))
         refine t_alloc Try.zeroValue174 rfl hS (fun g13 w hS => ?_)
         refine t_nil (c_seq (c_region ?_))
         refine t_q (q_mv (.pointer _) rfl) ?_
         refine t_call Try.call75 (qen1 (s := (enk (m8 s0).2 j).2) hS (by repeat constructor)) rfl ?_
         rintro e w ⟨rfl, hS⟩
         refine ⟨_, rfl, ?_⟩
         refine t_q (q_fieldAddr 0 Try.runUnderlying174 rfl Try.sizeOf43 (by decide) rfl rfl) ?_
         refine t_store (v := (.int _ _)) Try.sizeOf43 hS (by repeat constructor) rfl rfl rfl rfl rfl rfl (fun w hS => ?_)
         replace hS := hS.recast (show blkA g13 174 _ = blkA g13 174 [.int .u64 ((en1 (enk (m8 s0).2 j).2).1 : Int), .int .u64 0, .slice none 0 0] from rfl)
         refine t_nil (c_seq (c_region ?_))
         refine t_q (q_mv (.pointer _) rfl) ?_
         refine t_call Try.call75 (qen2 (s := (enk (m8 s0).2 j).2) hS (by repeat constructor)) rfl ?_
         rintro e w ⟨rfl, hS⟩
         refine ⟨_, rfl, ?_⟩
         refine t_q (q_fieldAddr 1 Try.runUnderlying174 rfl Try.sizeOf43 (by decide) rfl rfl) ?_
         refine t_store (v := (.int _ _)) Try.sizeOf43 hS (by repeat constructor) rfl rfl rfl rfl rfl rfl (fun w hS => ?_)
         replace hS := hS.recast (show blkA g13 174 _ = blkA g13 174 [.int .u64 ((en1 (enk (m8 s0).2 j).2).1 : Int), .int .u64 ((en2 (enk (m8 s0).2 j).2).1 : Int), .slice none 0 0] from rfl)
         refine t_nil (c_seq (c_region ?_))
         refine t_q (q_mv (.pointer _) rfl) ?_
         refine t_call Try.call121 (qen3 (s := (enk (m8 s0).2 j).2) hS (by repeat constructor)) rfl ?_
         rintro e w ⟨rfl, hS⟩
         refine ⟨_, rfl, ?_⟩
         refine t_bytes Try.underlying9 Try.underlying25 Try.underlying5 hS rfl (fun g98 k98 m98 w hS => ?_)
         replace hS := hS.recast (show blkA g98 5 _ (m98, m98 + 1) = blkA g98 5 (((en3 (enk (m8 s0).2 j).2).1).map bv ++ List.replicate k98 (.int .u8 0)) (m98, m98 + 1) from by simp)
         refine t_q (q_fieldAddr 2 Try.runUnderlying174 rfl Try.sizeOf25 (by decide) rfl rfl) ?_
         refine t_store (v := (.slice _ _ _)) Try.sizeOf25 hS (by repeat constructor) rfl rfl rfl rfl rfl rfl (fun w hS => ?_)
         replace hS := hS.recast (show blkA g13 174 _ = blkA g13 174 [.int .u64 ((en1 (enk (m8 s0).2 j).2).1 : Int), .int .u64 ((en2 (enk (m8 s0).2 j).2).1 : Int), .slice (some ⟨g98, 0, none⟩) (en3 (enk (m8 s0).2 j).2).1.length ((en3 (enk (m8 s0).2 j).2).1.length + k98)] from rfl)
         refine t_nil (c_region ?_)
         refine t_q (q_fieldAddr 8 Try.runUnderlying119 rfl Try.sizeOf117 (by decide) rfl rfl) ?_
         refine t_q (q_load1 Try.isAgg117 rfl (hS.cell (by repeat constructor) rfl)) ?_
         refine t_q (q_load_blk Try.isAgg174 Try.sizeOf174 rfl (hS.blk (by repeat constructor)) rfl) ?_
         refine t_buildSlice Try.runUnderlying117 Try.sizeOf174 Try.zeroValue174 rfl rfl (by intro v hv; simp at hv; try (first | (subst hv; rfl) | (rcases hv with rfl | rfl <;> rfl))) (by decide) (by decide) hS (fun g103 w hS => ?_)
         refine t_append_own (size := 3) (bytes := 40) Try.underlying117 (info_of Try.type174) rfl rfl rfl rfl (by decide) hS (by repeat constructor) (by repeat constructor) rfl rfl (by first | exact allOne_bv _ | exact allOne_ints _ _ | rfl) (by unfold maxLen; omega) (by omega) (fun A104 c104 w hS => ?_)
         refine t_q (q_fieldAddr 8 Try.runUnderlying119 rfl Try.sizeOf117 (by decide) rfl rfl) ?_
         refine t_store (v := (.slice _ _ _)) Try.sizeOf117 hS (by repeat constructor) rfl rfl rfl rfl rfl rfl (fun w hS => ?_)
         replace hS := hS.recast (show blkA g10 119 _ = ceA g10 119 s0 ((m5 s0).1 : Int) ((m6 s0).1 : Int) ((m7 s0).1 : Int) (false) (.slice A104 (es.l.length + 1) c104) (.slice none 0 0) 0 0 (.slice none 0 0) from rfl)
         refine t_nil (c_region ?_)
         refine t_q (q_mv (.int _ _) rfl) ?_
         refine t_q (q_add_u64 rfl rfl (by omega)) ?_
         refine t_q (q_as (.int _ _) rfl) ?_
         refine t_nil ?_
         have hl2 : (⟨A104, c104, es.l ++ [(⟨((en1 (enk (m8 s0).2 j).2).1 : Int), ((en2 (enk (m8 s0).2 j).2).1 : Int), ⟨some ⟨g98, 0, none⟩, (en3 (enk (m8 s0).2 j).2).1.length + k98, (en3 (enk (m8 s0).2 j).2).1⟩⟩ : EntV)]⟩ : Sl EntV).l.length = es.l.length + 1 := List.length_append
         replace hS := (hS.pick (A := ceA g10 119 s0 ((m5 s0).1 : Int) ((m6 s0).1 : Int) ((m7 s0).1 : Int) (false) (.slice A104 (es.l.length + 1) c104) (.slice none 0 0) 0 0 (.slice none 0 0)) (by repeat constructor)).recast (show _ = ceA g10 119 s0 ((m5 s0).1 : Int) ((m6 s0).1 : Int) ((m7 s0).1 : Int) (false) (.slice (⟨A104, c104, es.l ++ [(⟨((en1 (enk (m8 s0).2 j).2).1 : Int), ((en2 (enk (m8 s0).2 j).2).1 : Int), ⟨some ⟨g98, 0, none⟩, (en3 (enk (m8 s0).2 j).2).1.length + k98, (en3 (enk (m8 s0).2 j).2).1⟩⟩ : EntV)]⟩ : Sl EntV).A (⟨A104, c104, es.l ++ [(⟨((en1 (enk (m8 s0).2 j).2).1 : Int), ((en2 (enk (m8 s0).2 j).2).1 : Int), ⟨some ⟨g98, 0, none⟩, (en3 (enk (m8 s0).2 j).2).1.length + k98, (en3 (enk (m8 s0).2 j).2).1⟩⟩ : EntV)]⟩ : Sl EntV).l.length (⟨A104, c104, es.l ++ [(⟨((en1 (enk (m8 s0).2 j).2).1 : Int), ((en2 (enk (m8 s0).2 j).2).1 : Int), ⟨some ⟨g98, 0, none⟩, (en3 (enk (m8 s0).2 j).2).1.length + k98, (en3 (enk (m8 s0).2 j).2).1⟩⟩ : EntV)]⟩ : Sl EntV).c) (.slice none 0 0) 0 0 (.slice none 0 0) from by rw [hl2])
         have h1 := (hS.pick (A := rowA 174 3 A104 _ c104 _) (by repeat constructor)).recast (show _ = rowA 174 3 (⟨A104, c104, es.l ++ [(⟨((en1 (enk (m8 s0).2 j).2).1 : Int), ((en2 (enk (m8 s0).2 j).2).1 : Int), ⟨some ⟨g98, 0, none⟩, (en3 (enk (m8 s0).2 j).2).1.length + k98, (en3 (enk (m8 s0).2 j).2).1⟩⟩ : EntV)]⟩ : Sl EntV).A (⟨A104, c104, es.l ++ [(⟨((en1 (enk (m8 s0).2 j).2).1 : Int), ((en2 (enk (m8 s0).2 j).2).1 : Int), ⟨some ⟨g98, 0, none⟩, (en3 (enk (m8 s0).2 j).2).1.length + k98, (en3 (enk (m8 s0).2 j).2).1⟩⟩ : EntV)]⟩ : Sl EntV).l.length (⟨A104, c104, es.l ++ [(⟨((en1 (enk (m8 s0).2 j).2).1 : Int), ((en2 (enk (m8 s0).2 j).2).1 : Int), ⟨some ⟨g98, 0, none⟩, (en3 (enk (m8 s0).2 j).2).1.length + k98, (en3 (enk (m8 s0).2 j).2).1⟩⟩ : EntV)]⟩ : Sl EntV).c ((⟨A104, c104, es.l ++ [(⟨((en1 (enk (m8 s0).2 j).2).1 : Int), ((en2 (enk (m8 s0).2 j).2).1 : Int), ⟨some ⟨g98, 0, none⟩, (en3 (enk (m8 s0).2 j).2).1.length + k98, (en3 (enk (m8 s0).2 j).2).1⟩⟩ : EntV)]⟩ : Sl EntV).l.flatMap EntV.cells) from by rw [List.flatMap_append, List.length_append, List.flatMap_cons, List.flatMap_nil, List.append_nil]; rfl)
         have h2 := (((h1.pick (A := rdsA (es.l.map EntV.rp)) (by repeat constructor)).pick (A := blkA g98 5 _ (m98, m98 + 1)) (by repeat constructor))).frz_add
         refine ⟨k - 1, by omega, j + 1, (⟨A104, c104, es.l ++ [(⟨((en1 (enk (m8 s0).2 j).2).1 : Int), ((en2 (enk (m8 s0).2 j).2).1 : Int), ⟨some ⟨g98, 0, none⟩, (en3 (enk (m8 s0).2 j).2).1.length + k98, (en3 (enk (m8 s0).2 j).2).1⟩⟩ : EntV)]⟩ : Sl EntV), rfl, ?_, ?_, ?_, by omega, by omega, (((((St.ent_add (es := es.l) (e := (⟨((en1 (enk (m8 s0).2 j).2).1 : Int), ((en2 (enk (m8 s0).2 j).2).1 : Int), ⟨some ⟨g98, 0, none⟩, (en3 (enk (m8 s0).2 j).2).1.length + k98, (en3 (enk (m8 s0).2 j).2).1⟩⟩ : EntV)) h2).pick (A := rdsA _) (by repeat constructor)).pick (A := rowA 174 3 (⟨A104, c104, es.l ++ [(⟨((en1 (enk (m8 s0).2 j).2).1 : Int), ((en2 (enk (m8 s0).2 j).2).1 : Int), ⟨some ⟨g98, 0, none⟩, (en3 (enk (m8 s0).2 j).2).1.length + k98, (en3 (enk (m8 s0).2 j).2).1⟩⟩ : EntV)]⟩ : Sl EntV).A (⟨A104, c104, es.l ++ [(⟨((en1 (enk (m8 s0).2 j).2).1 : Int), ((en2 (enk (m8 s0).2 j).2).1 : Int), ⟨some ⟨g98, 0, none⟩, (en3 (enk (m8 s0).2 j).2).1.length + k98, (en3 (enk (m8 s0).2 j).2).1⟩⟩ : EntV)]⟩ : Sl EntV).l.length (⟨A104, c104, es.l ++ [(⟨((en1 (enk (m8 s0).2 j).2).1 : Int), ((en2 (enk (m8 s0).2 j).2).1 : Int), ⟨some ⟨g98, 0, none⟩, (en3 (enk (m8 s0).2 j).2).1.length + k98, (en3 (enk (m8 s0).2 j).2).1⟩⟩ : EntV)]⟩ : Sl EntV).c ((⟨A104, c104, es.l ++ [(⟨((en1 (enk (m8 s0).2 j).2).1 : Int), ((en2 (enk (m8 s0).2 j).2).1 : Int), ⟨some ⟨g98, 0, none⟩, (en3 (enk (m8 s0).2 j).2).1.length + k98, (en3 (enk (m8 s0).2 j).2).1⟩⟩ : EntV)]⟩ : Sl EntV).l.flatMap EntV.cells)) (by repeat constructor)).pick (A := blkA g10 119 _) (by repeat constructor)).pick (A := rdrA w1 145 g41 _) (by repeat constructor)).front4⟩
         · show List.map EntV.vw (es.l ++ [_]) = _
           rw [List.map_append, hes, enk]
           rfl
         · intro e he
           rcases List.mem_append.1 he with h | h
           · exact hec e h
           · rw [List.mem_singleton.1 h]; exact Nat.le_add_right _ _
         · show (es.l ++ [_]).length = _
           rw [List.length_append, hel]
           rfl
        ·
         intro hc30
         have hc30d := of_decide_eq_false hc30
         obtain rfl : j = (m8 s0).1 := by omega
         refine c_exit ?_
         refine ite_t rfl ?_
         first
           | (have hz3 := hv3
              replace hS := (hS.pick (A := rdrA w1 145 g41 (enk (m8 s0).2 (m8 s0).1).2) (by repeat constructor)).recast (show _ = rdrA w1 145 g41 (m9 s0).2 from rfl)
              replace hS := (hS.pick (A := rdrA w1 145 g41 (m9 s0).2) (by repeat constructor)).recast (show _ = rdrA w1 145 g41 (m13 s0).2 from by rw [e13, e12, e11, e10])
              replace hS := (hS.pick (A := blkA g10 119 _) (by repeat constructor)).recast (show ceA g10 119 s0 ((m5 s0).1 : Int) ((m6 s0).1 : Int) ((m7 s0).1 : Int) (false) (.slice es.A es.l.length es.c) (.slice none 0 0) 0 0 (.slice none 0 0) = ceA g10 119 s0 ((m5 s0).1 : Int) ((m6 s0).1 : Int) ((m7 s0).1 : Int) (decide ((m4 s0).1 = 1)) (.slice es.A es.l.length es.c) (.slice (sl0 : Sl UInt8).A (sl0 : Sl UInt8).l.length (sl0 : Sl UInt8).c) ((m11 s0).1 : Int) ((m12 s0).1 : Int) (.slice (sl0 : Sl Ev).A (sl0 : Sl Ev).l.length (sl0 : Sl Ev).c) from by unfold ceA; rw [e4, e11, e12]; rfl)
              exact ⟨es, (sl0 : Sl UInt8), (sl0 : Sl Ev), (m13 s0).2, .inl ⟨⟨hes, hec, (by rw [e10]; rfl), Nat.le_refl _, (by rw [e13]; rfl)⟩, rfl⟩, (((((((hS.pick (A := rdsA (es.l.map EntV.rp)) (by repeat constructor)).rds_none 1 (bsf [])).rds_none 12 (evf [])).pick (A := rdsA _) (by repeat constructor)).pick (A := rowA 174 3 _ _ _ _) (by repeat constructor)).pick (A := blkA g10 119 _) (by repeat constructor)).pick (A := rdrA w1 145 g41 _) (by repeat constructor))⟩)
       ·
        intro hc24
        have hc24d := of_decide_eq_false hc24
        refine c_seq (c_region ?_)
        refine t_q (q_eql rfl rfl) ?_
        refine t_q (q_as (.bool _) rfl) ?_
        refine t_nil ?_
        refine c_cond rfl ?_ ?_
        ·
         intro hc35
         have hc35d := of_decide_eq_true hc35
         have hk4 : ((m0 s0).1 : Int) = 4 := of_decide_eq_true hc35
         have hv4 : mv s0 = 3 := by unfold mv; rw [hk4]; rfl
         have e6 : m6 s0 = (0, (m5 s0).2) := by unfold m6 oqN; rw [hv4]; rfl
         have e7 : m7 s0 = (0, (m6 s0).2) := by unfold m7 oqN; rw [hv4]; rfl
         have e8 : m8 s0 = (0, (m7 s0).2) := by unfold m8 oqN; rw [hv4]; rfl
         have e9 : m9 s0 = ([], (m8 s0).2) := by unfold m9; rw [e8]; rfl
         have e10 : m10 s0 = ([], (m9 s0).2) := by unfold m10 oqT; rw [hv4]; rfl
         have e11 : m11 s0 = (0, (m10 s0).2) := by unfold m11 oqN; rw [hv4]; rfl
         have e12 : m12 s0 = (0, (m11 s0).2) := by unfold m12 oqN; rw [hv4]; rfl
         have e13 : m13 s0 = ([], (m12 s0).2) := by unfold m13 oqE; rw [hv4]; rfl
         refine c_seq (c_region ?_)
         refine t_q (q_mv (.pointer _) rfl) ?_
         refine t_call Try.call120 (qm4 (s := s0) (by rw [hv4]; rfl) hS (by repeat constructor)) rfl ?_
         rintro e w ⟨rfl, hS⟩
         refine ⟨_, rfl, ?_⟩
         refine t_q (q_fieldAddr 7 Try.runUnderlying119 rfl Try.sizeOf4 (by decide) rfl rfl) ?_
         refine t_store (v := (.bool _)) Try.sizeOf4 hS (by repeat constructor) rfl rfl rfl rfl rfl rfl (fun w hS => ?_)
         replace hS := hS.recast (show blkA g10 119 _ = ceA g10 119 s0 0 0 0 (decide ((m4 s0).1 = 1)) (.slice none 0 0) (.slice none 0 0) 0 0 (.slice none 0 0) from rfl)
         refine t_nil (c_region ?_)
         refine t_q (q_mv (.pointer _) rfl) ?_
         refine t_call Try.call75 (qm5 (s := s0) (by rw [hv4]; rfl) hS (by repeat constructor)) rfl ?_
         rintro e w ⟨rfl, hS⟩
         refine ⟨_, rfl, ?_⟩
         refine t_q (q_fieldAddr 4 Try.runUnderlying119 rfl Try.sizeOf43 (by decide) rfl rfl) ?_
         refine t_store (v := (.int _ _)) Try.sizeOf43 hS (by repeat constructor) rfl rfl rfl rfl rfl rfl (fun w hS => ?_)
         replace hS := hS.recast (show blkA g10 119 _ = ceA g10 119 s0 ((m5 s0).1 : Int) 0 0 (decide ((m4 s0).1 = 1)) (.slice none 0 0) (.slice none 0 0) 0 0 (.slice none 0 0) from rfl)
         refine t_nil ?_
         first
           | (have hz4 := hv4
              replace hS := (hS.pick (A := rdrA w1 145 g41 (m5 s0).2) (by repeat constructor)).recast (show _ = rdrA w1 145 g41 (m13 s0).2 from by rw [e13, e12, e11, e10, e9, e8, e7, e6])
              replace hS := (hS.pick (A := blkA g10 119 _) (by repeat constructor)).recast (show ceA g10 119 s0 ((m5 s0).1 : Int) 0 0 (decide ((m4 s0).1 = 1)) (.slice none 0 0) (.slice none 0 0) 0 0 (.slice none 0 0) = ceA g10 119 s0 ((m5 s0).1 : Int) ((m6 s0).1 : Int) ((m7 s0).1 : Int) (decide ((m4 s0).1 = 1)) (.slice (sl0 : Sl EntV).A (sl0 : Sl EntV).l.length (sl0 : Sl EntV).c) (.slice (sl0 : Sl UInt8).A (sl0 : Sl UInt8).l.length (sl0 : Sl UInt8).c) ((m11 s0).1 : Int) ((m12 s0).1 : Int) (.slice (sl0 : Sl Ev).A (sl0 : Sl Ev).l.length (sl0 : Sl Ev).c) from by unfold ceA; rw [e6, e7, e11, e12]; rfl)
              exact ⟨(sl0 : Sl EntV), (sl0 : Sl UInt8), (sl0 : Sl Ev), (m13 s0).2, .inl ⟨⟨(by rw [e9]; rfl), (fun e he => by cases he), (by rw [e10]; rfl), Nat.le_refl _, (by rw [e13]; rfl)⟩, rfl⟩, (((((((hS.rds0.rds_none 1 (bsf [])).rds_none 12 (evf [])).nilrow 174 3).pick (A := rdsA _) (by repeat constructor)).pick (A := rowA 174 3 _ _ _ _) (by repeat constructor)).pick (A := blkA g10 119 _) (by repeat constructor)).pick (A := rdrA w1 145 g41 _) (by repeat constructor))⟩)
        ·
         intro hc35
         have hc35d := of_decide_eq_false hc35
         refine c_seq (c_region ?_)
         refine t_q (q_eql rfl rfl) ?_
         refine t_q (q_as (.bool _) rfl) ?_
         refine t_nil ?_
         refine c_cond rfl ?_ ?_
         ·
          intro hc39
          have hc39d := of_decide_eq_true hc39
          have hk5 : ((m0 s0).1 : Int) = 5 := of_decide_eq_true hc39
          have hv5 : mv s0 = 38 := by unfold mv; rw [hk5]; rfl
          have e4 : m4 s0 = (0, (m3 s0).2) := by unfold m4 oqN; rw [hv5]; rfl
          have e7 : m7 s0 = (0, (m6 s0).2) := by unfold m7 oqN; rw [hv5]; rfl
          have e8 : m8 s0 = (0, (m7 s0).2) := by unfold m8 oqN; rw [hv5]; rfl
          have e9 : m9 s0 = ([], (m8 s0).2) := by unfold m9; rw [e8]; rfl
          have e11 : m11 s0 = (0, (m10 s0).2) := by unfold m11 oqN; rw [hv5]; rfl
          have e12 : m12 s0 = (0, (m11 s0).2) := by unfold m12 oqN; rw [hv5]; rfl
          have e13 : m13 s0 = ([], (m12 s0).2) := by unfold m13 oqE; rw [hv5]; rfl
          refine c_seq (c_region ?_)
          refine t_q (q_mv (.pointer _) rfl) ?_
          have hskip := True.intro
          replace hS := (hS.pick (A := rdrA w1 145 g41 (m3 s0).2) (by repeat constructor)).recast (show _ = rdrA w1 145 g41 (m4 s0).2 from by rw [e4])
          refine t_call Try.call75 (qm5 (s := s0) (by rw [hv5]; rfl) hS (by repeat constructor)) rfl ?_
          rintro e w ⟨rfl, hS⟩
          refine ⟨_, rfl, ?_⟩
          refine t_q (q_fieldAddr 4 Try.runUnderlying119 rfl Try.sizeOf43 (by decide) rfl rfl) ?_
          refine t_store (v := (.int _ _)) Try.sizeOf43 hS (by repeat constructor) rfl rfl rfl rfl rfl rfl (fun w hS => ?_)
          replace hS := hS.recast (show blkA g10 119 _ = ceA g10 119 s0 ((m5 s0).1 : Int) 0 0 (false) (.slice none 0 0) (.slice none 0 0) 0 0 (.slice none 0 0) from rfl)
          refine t_nil (c_seq (c_region ?_))
          refine t_q (q_mv (.pointer _) rfl) ?_
          refine t_call Try.call75 (qm6 (s := s0) (by rw [hv5]; rfl) hS (by repeat constructor)) rfl ?_
          rintro e w ⟨rfl, hS⟩
          refine ⟨_, rfl, ?_⟩
          refine t_q (q_fieldAddr 5 Try.runUnderlying119 rfl Try.sizeOf43 (by decide) rfl rfl) ?_
          refine t_store (v := (.int _ _)) Try.sizeOf43 hS (by repeat constructor) rfl rfl rfl rfl rfl rfl (fun w hS => ?_)
          replace hS := hS.recast (show blkA g10 119 _ = ceA g10 119 s0 ((m5 s0).1 : Int) ((m6 s0).1 : Int) 0 (false) (.slice none 0 0) (.slice none 0 0) 0 0 (.slice none 0 0) from rfl)
          refine t_nil (c_region ?_)
          refine t_q (q_mv (.pointer _) rfl) ?_
          have hskip := True.intro
          replace hS := (hS.pick (A := rdrA w1 145 g41 (m6 s0).2) (by repeat constructor)).recast (show _ = rdrA w1 145 g41 (m9 s0).2 from by rw [e9, e8, e7])
          refine t_call Try.call121 (qm10 (s := s0) (by rw [hv5]; rfl) hS (by repeat constructor)) rfl ?_
          rintro e w ⟨rfl, hS⟩
          refine ⟨_, rfl, ?_⟩
          refine t_bytes Try.underlying9 Try.underlying25 Try.underlying5 hS rfl (fun g124 k124 m124 w hS => ?_)
          replace hS := hS.recast (show blkA g124 5 _ (m124, m124 + 1) = blkA g124 5 (((m10 s0).1).map bv ++ List.replicate k124 (.int .u8 0)) (m124, m124 + 1) from by simp)
          refine t_q (q_fieldAddr 9 Try.runUnderlying119 rfl Try.sizeOf25 (by decide) rfl rfl) ?_
          refine t_store (v := (.slice _ _ _)) Try.sizeOf25 hS (by repeat constructor) rfl rfl rfl rfl rfl rfl (fun w hS => ?_)
          replace hS := hS.recast (show blkA g10 119 _ = ceA g10 119 s0 ((m5 s0).1 : Int) ((m6 s0).1 : Int) 0 (false) (.slice none 0 0) (.slice (⟨some ⟨g124, 0, none⟩, (m10 s0).1.length + k124, (m10 s0).1⟩ : Sl UInt8).A (⟨some ⟨g124, 0, none⟩, (m10 s0).1.length + k124, (m10 s0).1⟩ : Sl UInt8).l.length (⟨some ⟨g124, 0, none⟩, (m10 s0).1.length + k124, (m10 s0).1⟩ : Sl UInt8).c) 0 0 (.slice none 0 0) from rfl)
          refine t_nil ?_
          first
            | (have hz5 := hv5
               replace hS := (hS.pick (A := rdrA w1 145 g41 (m10 s0).2) (by repeat constructor)).recast (show _ = rdrA w1 145 g41 (m13 s0).2 from by rw [e13, e12, e11])
               replace hS := (hS.pick (A := blkA g10 119 _) (by repeat constructor)).recast (show ceA g10 119 s0 ((m5 s0).1 : Int) ((m6 s0).1 : Int) 0 (false) (.slice none 0 0) (.slice (⟨some ⟨g124, 0, none⟩, (m10 s0).1.length + k124, (m10 s0).1⟩ : Sl UInt8).A (⟨some ⟨g124, 0, none⟩, (m10 s0).1.length + k124, (m10 s0).1⟩ : Sl UInt8).l.length (⟨some ⟨g124, 0, none⟩, (m10 s0).1.length + k124, (m10 s0).1⟩ : Sl UInt8).c) 0 0 (.slice none 0 0) = ceA g10 119 s0 ((m5 s0).1 : Int) ((m6 s0).1 : Int) ((m7 s0).1 : Int) (decide ((m4 s0).1 = 1)) (.slice (sl0 : Sl EntV).A (sl0 : Sl EntV).l.length (sl0 : Sl EntV).c) (.slice (⟨some ⟨g124, 0, none⟩, (m10 s0).1.length + k124, (m10 s0).1⟩ : Sl UInt8).A (⟨some ⟨g124, 0, none⟩, (m10 s0).1.length + k124, (m10 s0).1⟩ : Sl UInt8).l.length (⟨some ⟨g124, 0, none⟩, (m10 s0).1.length + k124, (m10 s0).1⟩ : Sl UInt8).c) ((m11 s0).1 : Int) ((m12 s0).1 : Int) (.slice (sl0 : Sl Ev).A (sl0 : Sl Ev).l.length (sl0 : Sl Ev).c) from by unfold ceA; rw [e4, e7, e11, e12]; rfl)
               exact ⟨(sl0 : Sl EntV), (⟨some ⟨g124, 0, none⟩, (m10 s0).1.length + k124, (m10 s0).1⟩ : Sl UInt8), (sl0 : Sl Ev), (m13 s0).2, .inl ⟨⟨(by rw [e9]; rfl), (fun e he => by cases he), rfl, Nat.le_add_right _ _, (by rw [e13]; rfl)⟩, rfl⟩, (((((((((hS.rds0.pick (A := rdsA []) (by repeat constructor)).pick (A := blkA g124 5 _ (m124, m124 + 1)) (by repeat constructor))).frz_add.rds_none 12 (evf [])).nilrow 174 3).pick (A := rdsA _) (by repeat constructor)).pick (A := rowA 174 3 _ _ _ _) (by repeat constructor)).pick (A := blkA g10 119 _) (by repeat constructor)).pick (A := rdrA w1 145 g41 _) (by repeat constructor))⟩)
         ·
          intro hc39
          have hc39d := of_decide_eq_false hc39
          refine c_seq (c_region ?_)
          refine t_q (q_eql rfl rfl) ?_
          refine t_q (q_as (.bool _) rfl) ?_
          refine t_nil ?_
          refine c_cond rfl ?_ ?_
          ·
           intro hc44
           have hc44d := of_decide_eq_true hc44
           have hk6 : ((m0 s0).1 : Int) = 6 := of_decide_eq_true hc44
           have hv6 : mv s0 = 2 := by unfold mv; rw [hk6]; rfl
           have e4 : m4 s0 = (0, (m3 s0).2) := by unfold m4 oqN; rw [hv6]; rfl
           have e6 : m6 s0 = (0, (m5 s0).2) := by unfold m6 oqN; rw [hv6]; rfl
           have e7 : m7 s0 = (0, (m6 s0).2) := by unfold m7 oqN; rw [hv6]; rfl
           have e8 : m8 s0 = (0, (m7 s0).2) := by unfold m8 oqN; rw [hv6]; rfl
           have e9 : m9 s0 = ([], (m8 s0).2) := by unfold m9; rw [e8]; rfl
           have e10 : m10 s0 = ([], (m9 s0).2) := by unfold m10 oqT; rw [hv6]; rfl
           have e11 : m11 s0 = (0, (m10 s0).2) := by unfold m11 oqN; rw [hv6]; rfl
           have e12 : m12 s0 = (0, (m11 s0).2) := by unfold m12 oqN; rw [hv6]; rfl
           have e13 : m13 s0 = ([], (m12 s0).2) := by unfold m13 oqE; rw [hv6]; rfl
           refine c_region ?_
           refine t_q (q_mv (.pointer _) rfl) ?_
           have hskip := True.intro
           replace hS := (hS.pick (A := rdrA w1 145 g41 (m3 s0).2) (by repeat constructor)).recast (show _ = rdrA w1 145 g41 (m4 s0).2 from by rw [e4])
           refine t_call Try.call75 (qm5 (s := s0) (by rw [hv6]; rfl) hS (by repeat constructor)) rfl ?_
           rintro e w ⟨rfl, hS⟩
           refine ⟨_, rfl, ?_⟩
           refine t_q (q_fieldAddr 4 Try.runUnderlying119 rfl Try.sizeOf43 (by decide) rfl rfl) ?_
           refine t_store (v := (.int _ _)) Try.sizeOf43 hS (by repeat constructor) rfl rfl rfl rfl rfl rfl (fun w hS => ?_)
           replace hS := hS.recast (show blkA g10 119 _ = ceA g10 119 s0 ((m5 s0).1 : Int) 0 0 (false) (.slice none 0 0) (.slice none 0 0) 0 0 (.slice none 0 0) from rfl)
           refine t_nil ?_
           first
             | (have hz6 := hv6
                replace hS := (hS.pick (A := rdrA w1 145 g41 (m5 s0).2) (by repeat constructor)).recast (show _ = rdrA w1 145 g41 (m13 s0).2 from by rw [e13, e12, e11, e10, e9, e8, e7, e6])
                replace hS := (hS.pick (A := blkA g10 119 _) (by repeat constructor)).recast (show ceA g10 119 s0 ((m5 s0).1 : Int) 0 0 (false) (.slice none 0 0) (.slice none 0 0) 0 0 (.slice none 0 0) = ceA g10 119 s0 ((m5 s0).1 : Int) ((m6 s0).1 : Int) ((m7 s0).1 : Int) (decide ((m4 s0).1 = 1)) (.slice (sl0 : Sl EntV).A (sl0 : Sl EntV).l.length (sl0 : Sl EntV).c) (.slice (sl0 : Sl UInt8).A (sl0 : Sl UInt8).l.length (sl0 : Sl UInt8).c) ((m11 s0).1 : Int) ((m12 s0).1 : Int) (.slice (sl0 : Sl Ev).A (sl0 : Sl Ev).l.length (sl0 : Sl Ev).c) from by unfold ceA; rw [e4, e6, e7, e11, e12]; rfl)
                exact ⟨(sl0 : Sl EntV), (sl0 : Sl UInt8), (sl0 : Sl Ev), (m13 s0).2, .inl ⟨⟨(by rw [e9]; rfl), (fun e he => by cases he), (by rw [e10]; rfl), Nat.le_refl _, (by rw [e13]; rfl)⟩, rfl⟩, (((((((hS.rds0.rds_none 1 (bsf [])).rds_none 12 (evf [])).nilrow 174 3).pick (A := rdsA _) (by repeat constructor)).pick (A := rowA 174 3 _ _ _ _) (by repeat constructor)).pick (A := blkA g10 119 _) (by repeat constructor)).pick (A := rdrA w1 145 g41 _) (by repeat constructor))⟩)
          ·
           intro hc44
           have hc44d := of_decide_eq_false hc44
           refine c_seq (c_region ?_)
           refine t_q (q_eql rfl rfl) ?_
           refine t_q (q_as (.bool _) rfl) ?_
           refine t_nil ?_
           refine c_cond rfl ?_ ?_
           ·
            intro hc47
            have hc47d := of_decide_eq_true hc47
            have hk7 : ((m0 s0).1 : Int) = 7 := of_decide_eq_true hc47
            have hv7 : mv s0 = 32 := by unfold mv; rw [hk7]; rfl
            have e4 : m4 s0 = (0, (m3 s0).2) := by unfold m4 oqN; rw [hv7]; rfl
            have e5 : m5 s0 = (0, (m4 s0).2) := by unfold m5 oqN; rw [hv7]; rfl
            have e6 : m6 s0 = (0, (m5 s0).2) := by unfold m6 oqN; rw [hv7]; rfl
            have e7 : m7 s0 = (0, (m6 s0).2) := by unfold m7 oqN; rw [hv7]; rfl
            have e8 : m8 s0 = (0, (m7 s0).2) := by unfold m8 oqN; rw [hv7]; rfl
            have e9 : m9 s0 = ([], (m8 s0).2) := by unfold m9; rw [e8]; rfl
            have e11 : m11 s0 = (0, (m10 s0).2) := by unfold m11 oqN; rw [hv7]; rfl
            have e12 : m12 s0 = (0, (m11 s0).2) := by unfold m12 oqN; rw [hv7]; rfl
            have e13 : m13 s0 = ([], (m12 s0).2) := by unfold m13 oqE; rw [hv7]; rfl
            refine c_region ?_
            refine t_q (q_mv (.pointer _) rfl) ?_
            have hskip := True.intro
            replace hS := (hS.pick (A := rdrA w1 145 g41 (m3 s0).2) (by repeat constructor)).recast (show _ = rdrA w1 145 g41 (m9 s0).2 from by rw [e9, e8, e7, e6, e5, e4])
            refine t_call Try.call121 (qText (s := (m9 s0).2) (most := 512) hS (by repeat constructor) (by decide)) rfl ?_
            rintro e w ⟨rfl, hS⟩
            refine ⟨_, rfl, ?_⟩
            refine t_bytes Try.underlying9 Try.underlying25 Try.underlying5 hS rfl (fun g135 k135 m135 w hS => ?_)
            replace hS := hS.recast (show blkA g135 5 _ (m135, m135 + 1) = blkA g135 5 ((((m9 s0).2.text 512).1).map bv ++ List.replicate k135 (.int .u8 0)) (m135, m135 + 1) from by simp)
            refine t_q (q_fieldAddr 9 Try.runUnderlying119 rfl Try.sizeOf25 (by decide) rfl rfl) ?_
            refine t_store (v := (.slice _ _ _)) Try.sizeOf25 hS (by repeat constructor) rfl rfl rfl rfl rfl rfl (fun w hS => ?_)
            replace hS := hS.recast (show blkA g10 119 _ = ceA g10 119 s0 0 0 0 (false) (.slice none 0 0) (.slice (⟨some ⟨g135, 0, none⟩, ((m9 s0).2.text 512).1.length + k135, ((m9 s0).2.text 512).1⟩ : Sl UInt8).A (⟨some ⟨g135, 0, none⟩, ((m9 s0).2.text 512).1.length + k135, ((m9 s0).2.text 512).1⟩ : Sl UInt8).l.length (⟨some ⟨g135, 0, none⟩, ((m9 s0).2.text 512).1.length + k135, ((m9 s0).2.text 512).1⟩ : Sl UInt8).c) 0 0 (.slice none 0 0) from rfl)
            refine t_nil ?_
            first
              | (have hz7 := hv7
                 replace hS := (hS.pick (A := blkA g10 119 _) (by repeat constructor)).recast (show ceA g10 119 s0 0 0 0 (false) (.slice none 0 0) (.slice (⟨some ⟨g135, 0, none⟩, ((m9 s0).2.text 512).1.length + k135, ((m9 s0).2.text 512).1⟩ : Sl UInt8).A (⟨some ⟨g135, 0, none⟩, ((m9 s0).2.text 512).1.length + k135, ((m9 s0).2.text 512).1⟩ : Sl UInt8).l.length (⟨some ⟨g135, 0, none⟩, ((m9 s0).2.text 512).1.length + k135, ((m9 s0).2.text 512).1⟩ : Sl UInt8).c) 0 0 (.slice none 0 0) = ceA g10 119 s0 ((m5 s0).1 : Int) ((m6 s0).1 : Int) ((m7 s0).1 : Int) (decide ((m4 s0).1 = 1)) (.slice (sl0 : Sl EntV).A (sl0 : Sl EntV).l.length (sl0 : Sl EntV).c) (.slice (⟨some ⟨g135, 0, none⟩, ((m9 s0).2.text 512).1.length + k135, ((m9 s0).2.text 512).1⟩ : Sl UInt8).A (⟨some ⟨g135, 0, none⟩, ((m9 s0).2.text 512).1.length + k135, ((m9 s0).2.text 512).1⟩ : Sl UInt8).l.length (⟨some ⟨g135, 0, none⟩, ((m9 s0).2.text 512).1.length + k135, ((m9 s0).2.text 512).1⟩ : Sl UInt8).c) ((m11 s0).1 : Int) ((m12 s0).1 : Int) (.slice (sl0 : Sl Ev).A (sl0 : Sl Ev).l.length (sl0 : Sl Ev).c) from by unfold ceA; rw [e4, e5, e6, e7, e11, e12]; rfl)
                 have e10y : m10 s0 = (m9 s0).2.text 524288 := by unfold m10 oqT; rw [hv7]; rfl
                 rcases text_512 (s := (m9 s0).2) with ⟨hb, ht⟩ | ⟨hb, ht⟩
                 · rw [ht] at e10y
                   replace hS := (hS.pick (A := rdrA w1 145 g41 ((m9 s0).2.text 512).2) (by repeat constructor)).recast (show _ = rdrA w1 145 g41 (m13 s0).2 from by rw [e13, e12, e11, e10y])
                   exact ⟨(sl0 : Sl EntV), (⟨some ⟨g135, 0, none⟩, ((m9 s0).2.text 512).1.length + k135, ((m9 s0).2.text 512).1⟩ : Sl UInt8), (sl0 : Sl Ev), (m13 s0).2, .inl ⟨⟨(by rw [e9]; rfl), (fun e he => by cases he), (by rw [e10y]), Nat.le_add_right _ _, (by rw [e13]; rfl)⟩, rfl⟩, (((((((((hS.rds0.pick (A := rdsA []) (by repeat constructor)).pick (A := blkA g135 5 _ (m135, m135 + 1)) (by repeat constructor))).frz_add.rds_none 12 (evf [])).nilrow 174 3).pick (A := rdsA _) (by repeat constructor)).pick (A := rowA 174 3 _ _ _ _) (by repeat constructor)).pick (A := blkA g10 119 _) (by repeat constructor)).pick (A := rdrA w1 145 g41 _) (by repeat constructor))⟩
                 · exact ⟨(sl0 : Sl EntV), (⟨some ⟨g135, 0, none⟩, ((m9 s0).2.text 512).1.length + k135, ((m9 s0).2.text 512).1⟩ : Sl UInt8), (sl0 : Sl Ev), ((m9 s0).2.text 512).2, .inr ⟨hb, bad_seven hk7 (by rw [e10y]; exact ht)⟩, (((((((((hS.rds0.pick (A := rdsA []) (by repeat constructor)).pick (A := blkA g135 5 _ (m135, m135 + 1)) (by repeat constructor))).frz_add.rds_none 12 (evf [])).nilrow 174 3).pick (A := rdsA _) (by repeat constructor)).pick (A := rowA 174 3 _ _ _ _) (by repeat constructor)).pick (A := blkA g10 119 _) (by repeat constructor)).pick (A := rdrA w1 145 g41 _) (by repeat constructor))⟩)
           ·
            intro hc47
            have hc47d := of_decide_eq_false hc47
            refine c_seq (c_region ?_)
            refine t_q (q_eql rfl rfl) ?_
            refine t_q (q_as (.bool _) rfl) ?_
            refine t_nil ?_
            refine c_cond rfl ?_ ?_
            ·
             intro hc50
             have hc50d := of_decide_eq_true hc50
             have hk8 : ((m0 s0).1 : Int) = 8 := of_decide_eq_true hc50
             have hv8 : mv s0 = 64 := by unfold mv; rw [hk8]; rfl
             have e4 : m4 s0 = (0, (m3 s0).2) := by unfold m4 oqN; rw [hv8]; rfl
             have e5 : m5 s0 = (0, (m4 s0).2) := by unfold m5 oqN; rw [hv8]; rfl
             have e6 : m6 s0 = (0, (m5 s0).2) := by unfold m6 oqN; rw [hv8]; rfl
             have e7 : m7 s0 = (0, (m6 s0).2) := by unfold m7 oqN; rw [hv8]; rfl
             have e8 : m8 s0 = (0, (m7 s0).2) := by unfold m8 oqN; rw [hv8]; rfl
             have e9 : m9 s0 = ([], (m8 s0).2) := by unfold m9; rw [e8]; rfl
             have e10 : m10 s0 = ([], (m9 s0).2) := by unfold m10 oqT; rw [hv8]; rfl
             refine c_seq (c_region ?_)
             refine t_q (q_mv (.pointer _) rfl) ?_
             have hskip := True.intro
             replace hS := (hS.pick (A := rdrA w1 145 g41 (m3 s0).2) (by repeat constructor)).recast (show _ = rdrA w1 145 g41 (m10 s0).2 from by rw [e10, e9, e8, e7, e6, e5, e4])
             refine t_call Try.call75 (qm11 (s := s0) (by rw [hv8]; rfl) hS (by repeat constructor)) rfl ?_
             rintro e w ⟨rfl, hS⟩
             refine ⟨_, rfl, ?_⟩
             refine t_q (q_fieldAddr 10 Try.runUnderlying119 rfl Try.sizeOf43 (by decide) rfl rfl) ?_
             refine t_store (v := (.int _ _)) Try.sizeOf43 hS (by repeat constructor) rfl rfl rfl rfl rfl rfl (fun w hS => ?_)
             replace hS := hS.recast (show blkA g10 119 _ = ceA g10 119 s0 0 0 0 (false) (.slice none 0 0) (.slice none 0 0) ((m11 s0).1 : Int) 0 (.slice none 0 0) from rfl)
             refine t_nil (c_seq (c_region ?_))
             refine t_q (q_mv (.pointer _) rfl) ?_
             refine t_call Try.call75 (qm12 (s := s0) (by rw [hv8]; rfl) hS (by repeat constructor)) rfl ?_
             rintro e w ⟨rfl, hS⟩
             refine ⟨_, rfl, ?_⟩
             refine t_q (q_fieldAddr 11 Try.runUnderlying119 rfl Try.sizeOf43 (by decide) rfl rfl) ?_
             refine t_store (v := (.int _ _)) Try.sizeOf43 hS (by repeat constructor) rfl rfl rfl rfl rfl rfl (fun w hS => ?_)
             replace hS := hS.recast (show blkA g10 119 _ = ceA g10 119 s0 0 0 0 (false) (.slice none 0 0) (.slice none 0 0) ((m11 s0).1 : Int) ((m12 s0).1 : Int) (.slice none 0 0) from rfl)
             refine t_nil (c_seq (c_region ?_))
             refine t_q (q_mv (.pointer _) rfl) ?_
             refine t_call Try.call122 (qeread_calls (s := (m12 s0).2) hS (by repeat constructor)) rfl ?_
             rintro e w ⟨A147, n147, c147, rfl, hn147, hS⟩
             refine ⟨_, rfl, ?_⟩
             subst hn147
             refine t_q (q_mv (.tuple _) rfl) ?_
             refine t_q (q_extract rfl rfl) ?_
             refine t_q (q_extract rfl rfl) ?_
             refine t_q (q_as (.slice _ _ _) rfl) ?_
             refine t_q (q_as (.bool _) rfl) ?_
             refine t_nil (c_seq (c_region ?_))
             refine t_q (q_mv (.slice _ _ _) rfl) ?_
             refine t_q (q_fieldAddr 12 Try.runUnderlying119 rfl Try.sizeOf112 (by decide) rfl rfl) ?_
             refine t_store (v := (.slice _ _ _)) Try.sizeOf112 hS (by repeat constructor) rfl rfl rfl rfl rfl rfl (fun w hS => ?_)
             replace hS := hS.recast (show blkA g10 119 _ = ceA g10 119 s0 0 0 0 (false) (.slice none 0 0) (.slice none 0 0) ((m11 s0).1 : Int) ((m12 s0).1 : Int) (.slice (⟨A147, c147, evL (m12 s0).2⟩ : Sl Ev).A (⟨A147, c147, evL (m12 s0).2⟩ : Sl Ev).l.length (⟨A147, c147, evL (m12 s0).2⟩ : Sl Ev).c) from rfl)
             refine t_nil (c_seq (c_region ?_))
             refine t_q (q_mv (.bool _) rfl) ?_
             refine t_q (q_not rfl) ?_
             refine t_nil ?_
             refine c_cond rfl ?_ ?_
             ·
              intro hc56
              have hno : RdOut bs zV 20 := by
                refine .inr ⟨rfl, rfl, fun Z' hj' he y hy => ?_⟩
                obtain ⟨rfl, _⟩ := hZu Z' hj'
                rw [← hs0] at he
                exfalso
                have e13y : m13 s0 = (evL (m12 s0).2, evS (m12 s0).2) := by unfold m13 oqE; rw [hv8]; rfl
                rw [e13y] at he
                have hbad : (evS (m12 s0).2).bad = true := by unfold evS; rw [bnt hc56]; rfl
                rw [(endOk_z he).1] at hbad
                cases hbad
              refine c_seq ?_
              have hS : St W w (_ :: _) := hS0.lift hS
              refine c_region ?_
              refine t_q (q_build (qs := [(0, 1), (1, 1), (2, 1), (3, 1), (4, 1), (5, 1), (6, 1), (7, 1), (8, 1), (9, 1), (10, 1), (11, 1), (12, 1)]) [(.int _ _), (.int _ _), (.int _ _), (.int _ _), (.int _ _), (.int _ _), (.int _ _), (.bool _), (.slice _ _ _), (.slice _ _ _), (.int _ _), (.int _ _), (.slice _ _ _)] Try.zeroValue119 Try.runUnderlying119 ⟨rfl, Try.sizeOf3, rfl, Try.sizeOf3, rfl, Try.sizeOf3, rfl, Try.sizeOf43, rfl, Try.sizeOf43, rfl, Try.sizeOf43, rfl, Try.sizeOf43, rfl, Try.sizeOf4, rfl, Try.sizeOf117, rfl, Try.sizeOf25, rfl, Try.sizeOf43, rfl, Try.sizeOf43, rfl, Try.sizeOf112, trivial⟩ rfl rfl) ?_
              refine t_store (v := (.agg _)) Try.sizeOf119 hS (by repeat constructor) rfl rfl rfl rfl rfl rfl (fun w hS => ?_)
              refine t_q (q_assign) ?_
              refine t_nil (c_ret ?_)
              refine r_two rfl (res1_cellN Try.isAgg119 Try.sizeOf119 rfl (hS.blk (by repeat constructor)) rfl) rfl ?_
              first
                | exact ⟨zV, 20, rfl, zV_by, hno, zV_rds hS⟩
                | exact ⟨(mkX s0 es bd ev), 0, rfl, mkX_by hok.1, hyes, mkX_rds hS (by repeat constructor) (by repeat constructor)⟩
             ·
              intro hc56
              refine c_skip ?_
              first
                | (have hz8 := hv8
                   have e13y : m13 s0 = (evL (m12 s0).2, evS (m12 s0).2) := by unfold m13 oqE; rw [hv8]; rfl
                   replace hS := (hS.pick (A := rdrA w1 145 g41 (evS (m12 s0).2)) (by repeat constructor)).recast (show _ = rdrA w1 145 g41 (m13 s0).2 from by rw [e13y])
                   replace hS := (hS.pick (A := blkA g10 119 _) (by repeat constructor)).recast (show ceA g10 119 s0 0 0 0 (false) (.slice none 0 0) (.slice none 0 0) ((m11 s0).1 : Int) ((m12 s0).1 : Int) (.slice (⟨A147, c147, evL (m12 s0).2⟩ : Sl Ev).A (⟨A147, c147, evL (m12 s0).2⟩ : Sl Ev).l.length (⟨A147, c147, evL (m12 s0).2⟩ : Sl Ev).c) = ceA g10 119 s0 ((m5 s0).1 : Int) ((m6 s0).1 : Int) ((m7 s0).1 : Int) (decide ((m4 s0).1 = 1)) (.slice (sl0 : Sl EntV).A (sl0 : Sl EntV).l.length (sl0 : Sl EntV).c) (.slice (sl0 : Sl UInt8).A (sl0 : Sl UInt8).l.length (sl0 : Sl UInt8).c) ((m11 s0).1 : Int) ((m12 s0).1 : Int) (.slice (⟨A147, c147, evL (m12 s0).2⟩ : Sl Ev).A (⟨A147, c147, evL (m12 s0).2⟩ : Sl Ev).l.length (⟨A147, c147, evL (m12 s0).2⟩ : Sl Ev).c) from by unfold ceA; rw [e4, e5, e6, e7]; rfl)
                   exact ⟨(sl0 : Sl EntV), (sl0 : Sl UInt8), (⟨A147, c147, evL (m12 s0).2⟩ : Sl Ev), (m13 s0).2, .inl ⟨⟨(by rw [e9]; rfl), (fun e he => by cases he), (by rw [e10]; rfl), Nat.le_refl _, (by rw [e13y])⟩, rfl⟩, ((((((((((hS.rds0.rds_none 1 (bsf [])).pick (A := rdsA _) (by repeat constructor)).pick (A := rowA 206 12 A147 _ c147 _) (by repeat constructor))).rds_add (f := evf (evL (m12 s0).2)) (rowRdE hS (by repeat constructor) rfl)).nilrow 174 3).pick (A := rdsA _) (by repeat constructor)).pick (A := rowA 174 3 _ _ _ _) (by repeat constructor)).pick (A := blkA g10 119 _) (by repeat constructor)).pick (A := rdrA w1 145 g41 _) (by repeat constructor))⟩)
            ·
             intro hc50
             have hc50d := of_decide_eq_false hc50
             have hk0 : ((m0 s0).1 : Int) = 0 := by omega
             have hv0 : mv s0 = 0 := by unfold mv; rw [hk0]; rfl
             have e4 : m4 s0 = (0, (m3 s0).2) := by unfold m4 oqN; rw [hv0]; rfl
             have e5 : m5 s0 = (0, (m4 s0).2) := by unfold m5 oqN; rw [hv0]; rfl
             have e6 : m6 s0 = (0, (m5 s0).2) := by unfold m6 oqN; rw [hv0]; rfl
             have e7 : m7 s0 = (0, (m6 s0).2) := by unfold m7 oqN; rw [hv0]; rfl
             have e8 : m8 s0 = (0, (m7 s0).2) := by unfold m8 oqN; rw [hv0]; rfl
             have e9 : m9 s0 = ([], (m8 s0).2) := by unfold m9; rw [e8]; rfl
             have e10 : m10 s0 = ([], (m9 s0).2) := by unfold m10 oqT; rw [hv0]; rfl
             have e11 : m11 s0 = (0, (m10 s0).2) := by unfold m11 oqN; rw [hv0]; rfl
             have e12 : m12 s0 = (0, (m11 s0).2) := by unfold m12 oqN; rw [hv0]; rfl
             have e13 : m13 s0 = ([], (m12 s0).2) := by unfold m13 oqE; rw [hv0]; rfl
             refine c_skip ?_
             first
               | (have hz0 := hv0
                  replace hS := (hS.pick (A := rdrA w1 145 g41 (m3 s0).2) (by repeat constructor)).recast (show _ = rdrA w1 145 g41 (m13 s0).2 from by rw [e13, e12, e11, e10, e9, e8, e7, e6, e5, e4])
                  replace hS := (hS.pick (A := blkA g10 119 _) (by repeat constructor)).recast (show ceA g10 119 s0 0 0 0 (false) (.slice none 0 0) (.slice none 0 0) 0 0 (.slice none 0 0) = ceA g10 119 s0 ((m5 s0).1 : Int) ((m6 s0).1 : Int) ((m7 s0).1 : Int) (decide ((m4 s0).1 = 1)) (.slice (sl0 : Sl EntV).A (sl0 : Sl EntV).l.length (sl0 : Sl EntV).c) (.slice (sl0 : Sl UInt8).A (sl0 : Sl UInt8).l.length (sl0 : Sl UInt8).c) ((m11 s0).1 : Int) ((m12 s0).1 : Int) (.slice (sl0 : Sl Ev).A (sl0 : Sl Ev).l.length (sl0 : Sl Ev).c) from by unfold ceA; rw [e4, e5, e6, e7, e11, e12]; rfl)
                  exact ⟨(sl0 : Sl EntV), (sl0 : Sl UInt8), (sl0 : Sl Ev), (m13 s0).2, .inl ⟨⟨(by rw [e9]; rfl), (fun e he => by cases he), (by rw [e10]; rfl), Nat.le_refl _, (by rw [e13]; rfl)⟩, rfl⟩, (((((((hS.rds0.rds_none 1 (bsf [])).rds_none 12 (evf [])).nilrow 174 3).pick (A := rdsA _) (by repeat constructor)).pick (A := rowA 174 3 _ _ _ _) (by repeat constructor)).pick (A := blkA g10 119 _) (by repeat constructor)).pick (A := rdrA w1 145 g41 _) (by repeat constructor))⟩)
    ·
     rintro σ w ⟨es, bd, ev, t, hq, hS⟩
     refine c_seq (c_seq (c_region ?_))
     refine t_q (q_mv (.slice _ _ _) rfl) ?_
     refine t_q (q_len_slice Try.runUnderlying25 rfl) ?_
     refine t_q (q_gtr rfl rfl) ?_
     refine t_q (q_mv (.bool _) rfl) ?_
     refine t_case 158 rfl ?_ ?_
     ·
      intro hg58
      have hg58d := of_decide_eq_true hg58
      refine t_no rfl rfl (by rw [hg58]; decide) ?_
      refine t_no rfl rfl (by rw [hg58]; decide) ?_
      refine t_no rfl rfl (by rw [hg58]; decide) ?_
      refine t_q (q_pick_t rfl hg58) ?_
      refine t_q (q_mv (.bool _) rfl) ?_
      refine t_no rfl rfl (by decide) ?_
      refine t_no rfl rfl (by decide) ?_
      refine t_no rfl rfl (by decide) ?_
      refine t_q (q_pick_t rfl rfl) ?_
      refine t_nil ?_
      refine c_cond_t rfl rfl ?_
      first | replace hS : St W w (_ :: _) := hS0.lift hS | skip
      have hno : RdOut bs zV 20 := by
        refine .inr ⟨rfl, rfl, fun Z' hj' he y hy => ?_⟩
        obtain ⟨rfl, hN⟩ := hZu Z' hj'
        rw [← hs0] at he hy
        first
          | (exfalso; rw [List.length_drop] at *; omega)
          | (rcases hq with h | h
             · rw [← h.2] at he
               exfalso
               omega
             · exact h.2 he y hy)
          | (rw [soundB_vw (hy.trans (mkX_vw hok.1).symm)]; exact bnt (by assumption))
      refine c_seq (c_region ?_)
      refine t_q (q_build (qs := [(0, 1), (1, 1), (2, 1), (3, 1), (4, 1), (5, 1), (6, 1), (7, 1), (8, 1), (9, 1), (10, 1), (11, 1), (12, 1)]) [(.int _ _), (.int _ _), (.int _ _), (.int _ _), (.int _ _), (.int _ _), (.int _ _), (.bool _), (.slice _ _ _), (.slice _ _ _), (.int _ _), (.int _ _), (.slice _ _ _)] Try.zeroValue119 Try.runUnderlying119 ⟨rfl, Try.sizeOf3, rfl, Try.sizeOf3, rfl, Try.sizeOf3, rfl, Try.sizeOf43, rfl, Try.sizeOf43, rfl, Try.sizeOf43, rfl, Try.sizeOf43, rfl, Try.sizeOf4, rfl, Try.sizeOf117, rfl, Try.sizeOf25, rfl, Try.sizeOf43, rfl, Try.sizeOf43, rfl, Try.sizeOf112, trivial⟩ rfl rfl) ?_
      refine t_store (v := (.agg _)) Try.sizeOf119 hS (by repeat constructor) rfl rfl rfl rfl rfl rfl (fun w hS => ?_)
      refine t_q (q_assign) ?_
      refine t_nil (c_ret ?_)
      refine r_two rfl (res1_cellN Try.isAgg119 Try.sizeOf119 rfl (hS.blk (by repeat constructor)) rfl) rfl ?_
      first
        | exact ⟨zV, 20, rfl, zV_by, hno, zV_rds hS⟩
        | exact ⟨(mkX s0 es bd ev), 0, rfl, mkX_by hok.1, hyes, mkX_rds hS (by repeat constructor) (by repeat constructor)⟩
     ·
      intro hg58
      have hg58d := of_decide_eq_false hg58
      refine t_yes rfl rfl hg58 ?_
      refine t_q (q_mv (.pointer _) rfl) ?_
      refine t_yes rfl rfl hg58 ?_
      refine t_call Try.call89 (qEnd hS (by repeat constructor)) rfl ?_
      rintro e w ⟨rfl, hS⟩
      refine ⟨_, rfl, ?_⟩
      have hS : St W w (_ :: _) := hS0.lift hS
      refine t_yes rfl rfl hg58 ?_
      refine t_q (q_neq rfl rfl) ?_
      refine t_q (q_pick_f rfl hg58) ?_
      refine t_q (q_mv (.bool _) rfl) ?_
      refine t_case 163 rfl ?_ ?_
      ·
       intro hg61
       have hg61d := of_decide_eq_true hg61
       refine t_no rfl rfl (by rw [hg61]; decide) ?_
       refine t_no rfl rfl (by rw [hg61]; decide) ?_
       refine t_no rfl rfl (by rw [hg61]; decide) ?_
       refine t_q (q_pick_t rfl hg61) ?_
       refine t_nil ?_
       refine c_cond_t rfl rfl ?_
       first | replace hS : St W w (_ :: _) := hS0.lift hS | skip
       have hno : RdOut bs zV 20 := by
         refine .inr ⟨rfl, rfl, fun Z' hj' he y hy => ?_⟩
         obtain ⟨rfl, hN⟩ := hZu Z' hj'
         rw [← hs0] at he hy
         first
           | (exfalso; rw [List.length_drop] at *; omega)
           | (rcases hq with h | h
              · rw [← h.2] at he
                exfalso
                omega
              · exact h.2 he y hy)
           | (rw [soundB_vw (hy.trans (mkX_vw hok.1).symm)]; exact bnt (by assumption))
       refine c_seq (c_region ?_)
       refine t_q (q_build (qs := [(0, 1), (1, 1), (2, 1), (3, 1), (4, 1), (5, 1), (6, 1), (7, 1), (8, 1), (9, 1), (10, 1), (11, 1), (12, 1)]) [(.int _ _), (.int _ _), (.int _ _), (.int _ _), (.int _ _), (.int _ _), (.int _ _), (.bool _), (.slice _ _ _), (.slice _ _ _), (.int _ _), (.int _ _), (.slice _ _ _)] Try.zeroValue119 Try.runUnderlying119 ⟨rfl, Try.sizeOf3, rfl, Try.sizeOf3, rfl, Try.sizeOf3, rfl, Try.sizeOf43, rfl, Try.sizeOf43, rfl, Try.sizeOf43, rfl, Try.sizeOf43, rfl, Try.sizeOf4, rfl, Try.sizeOf117, rfl, Try.sizeOf25, rfl, Try.sizeOf43, rfl, Try.sizeOf43, rfl, Try.sizeOf112, trivial⟩ rfl rfl) ?_
       refine t_store (v := (.agg _)) Try.sizeOf119 hS (by repeat constructor) rfl rfl rfl rfl rfl rfl (fun w hS => ?_)
       refine t_q (q_assign) ?_
       refine t_nil (c_ret ?_)
       refine r_two rfl (res1_cellN Try.isAgg119 Try.sizeOf119 rfl (hS.blk (by repeat constructor)) rfl) rfl ?_
       first
         | exact ⟨zV, 20, rfl, zV_by, hno, zV_rds hS⟩
         | exact ⟨(mkX s0 es bd ev), 0, rfl, mkX_by hok.1, hyes, mkX_rds hS (by repeat constructor) (by repeat constructor)⟩
      ·
       intro hg61
       have hg61d := of_decide_eq_false hg61
       refine t_yes rfl rfl hg61 ?_
       refine t_q (q_cast (v' := .agg (mkX s0 es bd ev).cells.toArray) (q_load_blk Try.isAgg119 Try.sizeOf119 rfl (hS.blk (by repeat constructor)) rfl) (by rfl)) ?_
       refine t_yes rfl rfl hg61 ?_
       have hok : PtOk s0 es bd ev ∧ t = (m13 s0).2 := by
         rcases hq with h | h
         · exact h
         · have hz := (endOk_z (s := t) (by omega)).1
           rw [hz] at h
           cases h.1
       have hXg : (mkX s0 es bd ev).Gd w := mkX_gd hok.1 hS (by repeat constructor) (by repeat constructor)
       refine t_call Try.call60 (qwsound_calls (x := (mkX s0 es bd ev)) hXg) rfl ?_
       rintro e w ⟨rfl, hT⟩
       refine ⟨_, rfl, ?_⟩
       replace hS := hS.after hT
       refine t_yes rfl rfl hg61 ?_
       refine t_q (q_not rfl) ?_
       refine t_q (q_pick_f rfl hg61) ?_
       refine t_nil ?_
       refine c_cond rfl ?_ ?_
       ·
        intro hc63
        first | replace hS : St W w (_ :: _) := hS0.lift hS | skip
        have hno : RdOut bs zV 20 := by
          refine .inr ⟨rfl, rfl, fun Z' hj' he y hy => ?_⟩
          obtain ⟨rfl, hN⟩ := hZu Z' hj'
          rw [← hs0] at he hy
          first
            | (exfalso; rw [List.length_drop] at *; omega)
            | (rcases hq with h | h
               · rw [← h.2] at he
                 exfalso
                 omega
               · exact h.2 he y hy)
            | (rw [soundB_vw (hy.trans (mkX_vw hok.1).symm)]; exact bnt (by assumption))
        refine c_seq (c_region ?_)
        refine t_q (q_build (qs := [(0, 1), (1, 1), (2, 1), (3, 1), (4, 1), (5, 1), (6, 1), (7, 1), (8, 1), (9, 1), (10, 1), (11, 1), (12, 1)]) [(.int _ _), (.int _ _), (.int _ _), (.int _ _), (.int _ _), (.int _ _), (.int _ _), (.bool _), (.slice _ _ _), (.slice _ _ _), (.int _ _), (.int _ _), (.slice _ _ _)] Try.zeroValue119 Try.runUnderlying119 ⟨rfl, Try.sizeOf3, rfl, Try.sizeOf3, rfl, Try.sizeOf3, rfl, Try.sizeOf43, rfl, Try.sizeOf43, rfl, Try.sizeOf43, rfl, Try.sizeOf43, rfl, Try.sizeOf4, rfl, Try.sizeOf117, rfl, Try.sizeOf25, rfl, Try.sizeOf43, rfl, Try.sizeOf43, rfl, Try.sizeOf112, trivial⟩ rfl rfl) ?_
        refine t_store (v := (.agg _)) Try.sizeOf119 hS (by repeat constructor) rfl rfl rfl rfl rfl rfl (fun w hS => ?_)
        refine t_q (q_assign) ?_
        refine t_nil (c_ret ?_)
        refine r_two rfl (res1_cellN Try.isAgg119 Try.sizeOf119 rfl (hS.blk (by repeat constructor)) rfl) rfl ?_
        first
          | exact ⟨zV, 20, rfl, zV_by, hno, zV_rds hS⟩
          | exact ⟨(mkX s0 es bd ev), 0, rfl, mkX_by hok.1, hyes, mkX_rds hS (by repeat constructor) (by repeat constructor)⟩
       ·
        intro hc63
        have hyes : RdOut bs (mkX s0 es bd ev) 0 := .inl ⟨rfl, Z, by rw [hJ, if_pos (by rw [List.length_drop] at *; omega)], by rw [← hs0]; exact mkX_vw hok.1, by rw [← hs0, ← hok.2]; omega, bnf (by assumption)⟩
        refine c_skip (c_seq (c_region ?_))
        refine t_q (q_cast (v' := .agg (mkX s0 es bd ev).cells.toArray) (q_load_blk Try.isAgg119 Try.sizeOf119 rfl (hS.blk (by repeat constructor)) rfl) (by rfl)) ?_
        refine t_store (v := (.agg _)) Try.sizeOf119 hS (by repeat constructor) rfl rfl rfl rfl rfl rfl (fun w hS => ?_)
        refine t_q (q_assign) ?_
        refine t_nil (c_ret ?_)
        refine r_two rfl (res1_cellN Try.isAgg119 Try.sizeOf119 rfl (hS.blk (by repeat constructor)) rfl) rfl ?_
        first
          | exact ⟨zV, 20, rfl, zV_by, hno, zV_rds hS⟩
          | exact ⟨(mkX s0 es bd ev), 0, rfl, mkX_by hok.1, hyes, mkX_rds hS (by repeat constructor) (by repeat constructor)⟩
   ·
    intro hc11
    have hc11d := of_decide_eq_false hc11
    refine c_skip ?_
    have h32 := ((((hS.pick (A := blkA g2 119 [.int .i64 0, .int .i64 0, .int .i64 0, .int .u64 0, .int .u64 0, .int .u64 0, .int .u64 0, .bool false, .slice none 0 0, .slice none 0 0, .int .u64 0, .int .u64 0, .slice none 0 0]) (by repeat constructor)).pick (A := rowA 5 1 A32 _ c32 _) (by repeat constructor))).front2).recast (show _ = rowA 5 1 A32 (X ++ tkL left).length c32 ((X ++ tkL left).map bv) from by rw [List.map_append, List.length_append])
    refine ⟨left.length - tkN left, by omega, left.drop (tkN left), _, _, X ++ tkL left, A32, c32, rfl, (congrArg (fun n => Value.slice A32 n c32) (List.length_append).symm), drop_rd hB (by omega) ⟨hcl.1, by omega⟩, ⟨by rw [List.length_drop]; omega, by rw [List.length_append, List.length_drop]; omega⟩, ?_, by rw [List.length_drop]; omega, h32⟩
    rw [← hX, jn_more he0 hk7 (by omega), Option.map_map]
    exact congrArg (fun g => Option.map g (jn (left.drop (tkN left)))) (funext fun y => List.append_assoc X (tkL left) y)
end Go.Proofs.Ytlppgpidakfnlaa
