/- The chapter's example, read. -/
import Derived.Test.YtlppgpidakfnlaaXh
namespace Go.Proofs.Ytlppgpidakfnlaa
open Go Go.RowKit Go.Lib
variable {W : World}
theorem tk_more2 {k : UInt8} {body : List UInt8} (hb : body.length ≤ 65536) (hk : k ≠ 0) (rest : List UInt8) : tkK (parB k body ++ rest) = k ∧ tkL (parB k body ++ rest) = body ∧ (parB k body ++ rest).drop (tkN (parB k body ++ rest)) = rest := by
  obtain ⟨h0, hN⟩ := tk_more hb hk rest
  obtain ⟨e1, e2, _⟩ := tk_ok h0
  have e : parB k body ++ rest = (k :: enc body.length) ++ (body ++ (four (crc (preB k body)) ++ rest)) := by rw [par_form]; simp
  obtain ⟨h1, h2⟩ := sz_form (k := k) (r := body ++ (four (crc (preB k body)) ++ rest)) hb
  have e' : k :: (enc body.length ++ (body ++ (four (crc (preB k body)) ++ rest))) = parB k body ++ rest := by rw [e]; rfl
  rw [e'] at h1 h2
  have hf : tkFrom (parB k body ++ rest) = (k :: enc body.length).length := by
    unfold tkFrom
    rw [h1, e]
    simp only [List.length_append]
    omega
  refine ⟨by rw [e1, ← e']; rfl, ?_, by rw [hN, List.drop_left]⟩
  rw [e2, hf, h2, e, List.drop_left, List.take_left]
def tT : MsgV := ⟨6, 1, 0, 3, 9, 0, 0, false, sl0, sl0, 0, 0, sl0⟩
def tTB : List UInt8 := enc 6 ++ (enc 1 ++ (enc 0 ++ (enc 3 ++ enc 9)))
theorem tT_sound : soundB tT = true := by decide
theorem tT_gd {w : World} : tT.Gd w := ⟨by decide, by decide, by decide, by decide, by decide, by decide, by decide, by decide, by decide, Rd.none_ _ _ _ _, (fun e he => by cases he), by decide, Rd.none_ _ _ _ _, ⟨by decide, by decide⟩, Rd.none_ _ _ _ _, (fun e he => by cases he), by decide⟩
theorem tTB_eq : tTB = [6, 1, 0, 3, 9] := by unfold tTB; rw [enc_small (by decide), enc_small (by decide), enc_small (by decide), enc_small (by decide), enc_small (by decide)]; rfl
theorem tT_wb : wb8 (fl tT.kind) tT = tTB := by
  show wb8 2 tT = tTB
  have e0 : wb0 tT = enc 6 ++ (enc 1 ++ (enc 0 ++ enc 3)) := rfl
  have e : wb8 2 tT = (wb0 tT ++ enc 9) ++ [] := rfl
  rw [e, e0]
  simp [tTB]
theorem tT_bytes : wbE tT = 0 ∧ wbL tT = parB 7 tTB := by
  unfold wbE wbL
  rw [tT_sound, tT_wb]
  refine ⟨rfl, ?_⟩
  show wm tTB = _
  exact wm_small (by rw [tTB_eq]; decide)
attribute [local irreducible] blkA rowA rdrA
set_option maxRecDepth 100000 in
theorem join_one {A : Option Addr} {c : Nat} {bs body : List UInt8} (hR : RdB W A bs) (hc : bs.length ≤ c ∧ bs.length ≤ 100000) (hb : bs = parB 7 body) (hl : body.length < 65536) : Calls Try.prog 116 #[.slice A bs.length c] W fun e w' => ∃ A' c', e = .returned (.tuple #[.slice A' body.length c', .bool true]) ∧ St W w' [rowA 5 1 A' body.length c' ((body).map bv)] := by
 have hS := St.init W
 obtain ⟨a1, a2⟩ := tk_more (k := 7) (body := body) (by omega) (by decide) []
 obtain ⟨b1, b2, _⟩ := tk_more2 (k := 7) (body := body) (by omega) (by decide) []
 rw [List.append_nil, ← hb] at a1 a2 b1 b2
 have hk7 : ((tkK bs).toNat : Int) = 7 := by rw [b1]; rfl
 have htm : tkM bs = (bs.length : Int) := by rw [(tk_ok a1).2.2, a2]
 refine calls_of_wpE (args := [_]) Try.func116 rfl rfl rfl ?_
 refine c_seq ?_
 refine c_region ?_
 refine t_q (q_assign) ?_
 refine t_q (q_assign) ?_
 refine t_nil ?_
 refine c_block ?_
 refine c_loop [0, 2, 3, 4, 5, 6, 7, 8, 9, 10, 11, 12, 13, 14, 15, 16, 17, 18, 19, 20, 21, 22, 23, 24, 25, 26, 27, 28, 29, 30, 31, 32, 33] (fun k σ w => σ 0 = .slice A bs.length c ∧ σ 2 = .slice none 0 0 ∧ St W w [rowA 5 1 none 0 0 ((([] : List UInt8)).map bv)]) (0) rfl (⟨rfl, rfl, hS.nilrow 5 1⟩) ?_
 skip
 rintro k σ w ⟨h0, h2, hS⟩
 refine c_know 0 h0 ?_
 refine c_know 2 h2 ?_
 clear h0 h2
 refine c_block ?_
 refine c_seq ?_
 refine c_region ?_
 refine t_q (q_mv (.slice _ _ _) rfl) ?_
 refine t_call Try.call68 (take_calls (hR.st hS) ⟨hc.1, by omega⟩) rfl ?_
 rintro e w ⟨A10, m10, c10, rfl, hm10, hT⟩
 refine ⟨_, rfl, ?_⟩
 have hS : St W w (_ :: _) := hS.lift hT
 subst hm10
 rw [b2] at hS
 rw [b2]
 refine t_q (q_mv (.tuple _) rfl) ?_
 refine t_q (q_extract rfl rfl) ?_
 refine t_q (q_extract rfl rfl) ?_
 refine t_q (q_extract rfl rfl) ?_
 refine t_q (q_extract rfl rfl) ?_
 refine t_q (q_as (.int _ _) rfl) ?_
 refine t_q (q_as (.slice _ _ _) rfl) ?_
 refine t_q (q_as (.int _ _) rfl) ?_
 refine t_q (q_as (.int _ _) rfl) ?_
 refine t_nil ?_
 refine c_seq ?_
 refine c_seq ?_
 refine c_region ?_
 refine t_q (q_mv (.int _ _) rfl) ?_
 refine t_q (q_neq rfl rfl) ?_
 refine t_q (q_mv (.bool _) rfl) ?_
 refine t_case 17 rfl ?_ ?_
 ·
  intro hg7
  have hg7d := of_decide_eq_true hg7
  refine t_no rfl rfl (by rw [hg7]; decide) ?_
  refine t_no rfl rfl (by rw [hg7]; decide) ?_
  refine t_q (q_pick_t rfl hg7) ?_
  refine t_nil ?_
  refine c_cond_t rfl rfl ?_
  exfalso; omega
 ·
  intro hg7
  have hg7d := of_decide_eq_false hg7
  refine t_yes rfl rfl hg7 ?_
  refine t_q (q_mv (.int _ _) rfl) ?_
  refine t_yes rfl rfl hg7 ?_
  refine t_q (q_neq rfl rfl) ?_
  refine t_q (q_pick_f rfl hg7) ?_
  refine t_nil ?_
  refine c_cond rfl ?_ ?_
  ·
   intro hc9
   have hc9d := of_decide_eq_true hc9
   exfalso; omega
  ·
   intro hc9
   have hc9d := of_decide_eq_false hc9
   refine c_skip ?_
   refine c_seq ?_
   refine c_draw ?_
   refine d_free 8 [0, 1, 2, 3, 4, 5, 6, 7] [0, 1, 2, 3, 4, 5, 6, 7] hS rfl (by kernel_rfl) (by kernel_rfl) (by kernel_rfl) (by kernel_rfl) (fun hap hsel w hS => ?_)
   refine p_q hap hsel 0 rfl rfl ⟨_, hS⟩ (fun w hI => q_mv (.slice _ _ _) rfl) ?_
   refine p_q hap hsel 1 rfl rfl ⟨_, hS⟩ (fun w hI => q_mv (.slice _ _ _) rfl) ?_
   refine p_q hap hsel 3 rfl rfl ⟨_, hS⟩ (fun w hI => q_mv (.slice _ _ _) rfl) ?_
   refine p_q hap hsel 4 rfl rfl ⟨_, hS⟩ (fun w hI => (q_cast (v' := .int .i64 (bs.length : Int)) (q_mv (.int _ _) rfl) (by rw [htm]))) ?_
   refine p_q hap hsel 5 rfl rfl ⟨_, hS⟩ (fun w hI => q_slice Try.runUnderlying25 Try.sizeOf5 rfl rfl ⟨_, _, rfl, by omega, by omega, rfl⟩) ?_
   refine p_one 2 rfl (by kernel_rfl) ?_
   refine t_append_own (size := 1) (bytes := 1) Try.underlying25 (info_of Try.type5) rfl rfl rfl rfl (by decide) hS (by repeat first|exact .here _ _|assumption|apply Pick.there) (by repeat first|exact .here _ _|assumption|apply Pick.there) rfl rfl (by first | exact allOne_bv _ | exact allOne_ints _ _ | rfl) (by unfold maxLen; omega) (by omega) (fun A23 c23 w hS => ?_)
   refine t_nil ?_
   refine ⟨.inr ⟨_, hS⟩, ?_⟩
   refine p_q hap hsel 6 rfl rfl ⟨_, hS⟩ (fun w hI => q_as (.slice _ _ _) rfl) ?_
   refine p_q hap hsel 7 rfl rfl ⟨_, hS⟩ (fun w hI => q_as (.slice _ _ _) rfl) ?_
   refine p_end (by kernel_rfl) ?_
   refine c_seq ?_
   refine c_region ?_
   refine t_q (q_mv (.slice _ _ _) rfl) ?_
   refine t_q (q_len_slice Try.runUnderlying25 rfl) ?_
   refine t_q (q_lss rfl rfl) ?_
   refine t_nil ?_
   refine c_cond rfl ?_ ?_
   ·
    intro hc11
    have hc11d := of_decide_eq_true hc11
    refine c_seq ?_
    refine c_region ?_
    refine t_q (q_mv (.slice _ _ _) rfl) ?_
    refine t_q (q_mv (.slice _ _ _) rfl) ?_
    refine t_q (q_len_slice Try.runUnderlying25 rfl) ?_
    refine t_q (q_cast (v' := .bool true) (q_eql rfl rfl) (congrArg Value.bool (decide_eq_true (by omega)))) ?_
    refine t_q (q_as (.slice _ _ _) rfl) ?_
    refine t_q (q_as (.bool _) rfl) ?_
    refine t_nil ?_
    refine c_ret ?_
    refine r_two rfl rfl rfl ?_
    have h0 : 0 + body.length = body.length := Nat.zero_add _
    have h := ((hS.pick (A := rowA 5 1 A23 _ c23 _) (by repeat first|exact .here _ _|assumption|apply Pick.there)).front1).recast (show _ = rowA 5 1 A23 body.length c23 ((body).map bv) from by rw [h0]; simp)
    refine ⟨A23, c23, ?_, h⟩
    show Ending.returned (.tuple #[.slice A23 (0 + body.length) c23, .bool true]) = _
    rw [h0]
   ·
    intro hc11
    have hc11d := of_decide_eq_false hc11
    exfalso; omega
set_option maxRecDepth 100000 in
theorem rnum_no {w : World} {L R : List Asn} {g8 g6 : Nat} {v m n : Int} (h : decide (IntKind.i64.wrap (BitVec.ofInt IntKind.i64.bits v &&& BitVec.ofInt IntKind.i64.bits m).toNat = 0) = true) (hS : St W w L) (pk : Pick L (blkA g8 3 [.int .i64 v]) R) : Calls Try.prog 117 #[.int .i64 m, .int .u64 n, .pointer (some ⟨g8, 0, none⟩), .pointer (some ⟨g6, 0, none⟩)] w fun e w' => e = .returned (.int .u64 0) ∧ St W w' (blkA g8 3 [.int .i64 v] :: R) := by
 replace hS := hS.pick pk
 clear pk
 refine calls_of_wpE (args := [_, _, _, _]) Try.func117 rfl rfl rfl ?_
 refine c_seq ?_
 refine c_region ?_
 refine t_q (q_assign) ?_
 refine t_nil ?_
 refine c_seq ?_
 refine c_seq ?_
 refine c_region ?_
 refine t_q (q_load1 Try.isAgg3 rfl (hS.cell (by repeat first|exact .here _ _|assumption|apply Pick.there) rfl)) ?_
 refine t_q (q_mv (.int _ _) rfl) ?_
 refine t_q (q_and rfl rfl) ?_
 refine t_q (q_eql rfl rfl) ?_
 refine t_nil ?_
 refine c_cond_t rfl h ?_
 refine c_seq ?_
 refine c_region ?_
 refine t_q (q_assign) ?_
 refine t_nil ?_
 refine c_ret ?_
 refine r_one rfl rfl ?_
 exact ⟨rfl, hS⟩
set_option maxRecDepth 100000 in
theorem rnum_yes {V w : World} {R : List Asn} {g g8 g6 : Nat} {v m most : Int} {n : Nat} {rest : List UInt8} {b : Bool} (h : decide (IntKind.i64.wrap (BitVec.ofInt IntKind.i64.bits v &&& BitVec.ofInt IntKind.i64.bits m).toNat = 0) = false) (hS : St V w (rdrA V 197 g ⟨enc n ++ rest, b⟩ :: blkA g6 150 [.pointer (some ⟨g, 0, none⟩)] :: blkA g8 3 [.int .i64 v] :: R)) (hn : (n : Int) ≤ most) (hm : most < 18446744073709551616) : Calls Try.prog 117 #[.int .i64 m, .int .u64 most, .pointer (some ⟨g8, 0, none⟩), .pointer (some ⟨g6, 0, none⟩)] w fun e w' => e = .returned (.int .u64 (n : Int)) ∧ St V w' (rdrA V 197 g ⟨rest, b⟩ :: blkA g6 150 [.pointer (some ⟨g, 0, none⟩)] :: blkA g8 3 [.int .i64 v] :: R) := by
 refine calls_of_wpE (args := [_, _, _, _]) Try.func117 rfl rfl rfl ?_
 refine c_seq ?_
 refine c_region ?_
 refine t_q (q_assign) ?_
 refine t_nil ?_
 refine c_seq ?_
 refine c_seq ?_
 refine c_region ?_
 refine t_q (q_load1 Try.isAgg3 rfl (hS.cell (by repeat first|exact .here _ _|assumption|apply Pick.there) rfl)) ?_
 refine t_q (q_mv (.int _ _) rfl) ?_
 refine t_q (q_and rfl rfl) ?_
 refine t_q (q_eql rfl rfl) ?_
 refine t_nil ?_
 refine c_cond_f rfl h ?_
 refine c_skip ?_
 refine c_seq ?_
 refine c_region ?_
 refine t_q (q_load1 Try.isAgg150 rfl (hS.cell (by repeat first|exact .here _ _|assumption|apply Pick.there) rfl)) ?_
 refine t_q (q_mv (.int _ _) rfl) ?_
 refine t_call Try.call82 (rNat_enc (n := (n : Int)) hS (by repeat first|exact .here _ _|assumption|apply Pick.there) (by omega) hn hm) rfl ?_
 rintro e w ⟨rfl, hS⟩
 refine ⟨_, rfl, ?_⟩
 refine t_q (q_as (.int _ _) rfl) ?_
 refine t_nil ?_
 refine c_ret ?_
 refine r_one rfl rfl ?_
 exact ⟨rfl, hS⟩
set_option maxHeartbeats 2000000 in
set_option maxRecDepth 100000 in
theorem read_took {A : Option Addr} {c : Nat} {bs : List UInt8} (hR : RdB W A bs) (hc : bs.length ≤ c ∧ bs.length ≤ 100000) (hb : bs = parB 7 tTB) : Calls Try.prog 66 #[.slice A bs.length c] W fun e w' => e = .returned (.tuple #[.agg tT.cells.toArray, .int .i64 0]) ∧ St W w' [] := by
 have hS := St.init W
 refine calls_of_wpE (args := [_]) Try.func66 rfl rfl rfl ?_
 refine c_seq ?_
 refine c_region ?_
 refine t_alloc Try.zeroValue114 rfl hS (fun g2 w hS => ?_)
 refine t_q (q_assign) ?_
 refine t_nil ?_
 refine c_seq ?_
 refine c_region ?_
 refine t_q (q_mv (.slice _ _ _) rfl) ?_
 refine t_call Try.call116 (join_one (hR.st hS) hc hb (by rw [tTB_eq]; decide)) rfl ?_
 rintro e w ⟨A12, c12, rfl, hT⟩
 refine ⟨_, rfl, ?_⟩
 have hS : St W w (_ :: _) := hS.lift hT
 have hle12 := hS.row_le (t := 5) (size := 1) (A := A12) (c := c12) (by repeat first|exact .here _ _|assumption|apply Pick.there)
 have hb1 := hS.rowRd (A := A12) (c := c12) (bs := tTB) (by repeat first|exact .here _ _|assumption|apply Pick.there) rfl
 have hS0 := hS
 obtain ⟨w1, hw1⟩ : ∃ x, x = w := ⟨_, rfl⟩
 subst hw1
 replace hS := St.init w1
 refine t_q (q_mv (.tuple _) rfl) ?_
 refine t_q (q_extract rfl rfl) ?_
 refine t_q (q_extract rfl rfl) ?_
 refine t_q (q_as (.slice _ _ _) rfl) ?_
 refine t_q (q_as (.bool _) rfl) ?_
 refine t_nil ?_
 refine c_seq ?_
 refine c_seq ?_
 refine c_region ?_
 refine t_q (q_mv (.bool _) rfl) ?_
 refine t_q (q_cast (v' := .bool false) (q_not rfl) (by rfl)) ?_
 refine t_nil ?_
 refine c_cond_f rfl rfl ?_
 refine c_skip ?_
 refine c_seq ?_
 refine c_region ?_
 refine t_q (q_mv (.slice _ _ _) rfl) ?_
 refine t_call Try.call81 (Open_calls (bs := tTB) hS (Rd.st hb1 hS) ⟨hle12, by rw [tTB_eq]; decide⟩) rfl ?_
 rintro e w ⟨g19, rfl, hS⟩
 refine ⟨_, rfl, ?_⟩
 refine t_alloc Try.zeroValue150 rfl hS (fun g6 w hS => ?_)
 refine t_store (v := (.pointer _)) Try.sizeOf150 hS (by repeat first|exact .here _ _|assumption|apply Pick.there) rfl rfl rfl rfl rfl rfl (fun w hS => ?_)
 replace hS := hS.recast (show blkA g6 150 _ = blkA g6 150 [.pointer (some ⟨g19, 0, none⟩)] from rfl)
 refine t_nil ?_
 refine c_seq ?_
 refine c_draw ?_
 refine d_keep (blkA g6 150 [.pointer (some ⟨g19, 0, none⟩)]) 14 [0, 1, 2, 3, 4, 5, 6, 7, 8, 9, 10, 11, 12, 13] [0, 1, 2, 3, 4, 5, 6, 7, 8, 9, 10, 11, 12, 13] hS rfl (by kernel_rfl) (by kernel_rfl) (by kernel_rfl) (by kernel_rfl) (fun hap hsel w hS => ?_)
 refine p_q hap hsel 0 rfl rfl ⟨_, hS.pick (by repeat first|exact .here _ _|assumption|apply Pick.there)⟩ (fun w hI => q_load1 Try.isAgg150 rfl (hI.choose_spec.cell (by repeat first|exact .here _ _|assumption|apply Pick.there) rfl)) ?_
 refine p_q hap hsel 3 rfl rfl ⟨_, hS.pick (by repeat first|exact .here _ _|assumption|apply Pick.there)⟩ (fun w hI => q_load1 Try.isAgg150 rfl (hI.choose_spec.cell (by repeat first|exact .here _ _|assumption|apply Pick.there) rfl)) ?_
 refine p_q hap hsel 6 rfl rfl ⟨_, hS.pick (by repeat first|exact .here _ _|assumption|apply Pick.there)⟩ (fun w hI => q_load1 Try.isAgg150 rfl (hI.choose_spec.cell (by repeat first|exact .here _ _|assumption|apply Pick.there) rfl)) ?_
 refine p_q hap hsel 9 rfl rfl ⟨_, hS.pick (by repeat first|exact .here _ _|assumption|apply Pick.there)⟩ (fun w hI => q_load1 Try.isAgg150 rfl (hI.choose_spec.cell (by repeat first|exact .here _ _|assumption|apply Pick.there) rfl)) ?_
 refine p_two 1 12 rfl rfl (by kernel_rfl) ?_ ?_
 ·
  refine t_call Try.call82 (rNat_enc (n := 6) (rest := enc 1 ++ (enc 0 ++ (enc 3 ++ enc 9))) (b := false) (most := 8) hS (by repeat first|exact .here _ _|assumption|apply Pick.there) (by decide) (by decide) (by decide)) rfl ?_
  rintro e w ⟨rfl, hS⟩
  refine ⟨_, rfl, ?_⟩
  refine t_nil ?_
  refine ⟨.inr ⟨_, hS.pick (by repeat first|exact .here _ _|assumption|apply Pick.there)⟩, ?_⟩
  refine p_q hap hsel 2 rfl rfl ⟨_, hS.pick (by repeat first|exact .here _ _|assumption|apply Pick.there)⟩ (fun w hI => q_conv_i64 Try.runUnderlying43 Try.runUnderlying3 rfl (by omega)) ?_
  refine p_two 4 12 rfl rfl (by kernel_rfl) ?_ ?_
  ·
   refine t_call Try.call82 (rNat_enc (n := 1) (rest := enc 0 ++ (enc 3 ++ enc 9)) (b := false) (most := 15) hS (by repeat first|exact .here _ _|assumption|apply Pick.there) (by decide) (by decide) (by decide)) rfl ?_
   rintro e w ⟨rfl, hS⟩
   refine ⟨_, rfl, ?_⟩
   refine t_nil ?_
   refine ⟨.inr ⟨_, hS.pick (by repeat first|exact .here _ _|assumption|apply Pick.there)⟩, ?_⟩
   refine p_q hap hsel 5 rfl rfl ⟨_, hS.pick (by repeat first|exact .here _ _|assumption|apply Pick.there)⟩ (fun w hI => q_conv_i64 Try.runUnderlying43 Try.runUnderlying3 rfl (by omega)) ?_
   refine p_two 7 12 rfl rfl (by kernel_rfl) ?_ ?_
   ·
    refine t_call Try.call82 (rNat_enc (n := 0) (rest := enc 3 ++ enc 9) (b := false) (most := 15) hS (by repeat first|exact .here _ _|assumption|apply Pick.there) (by decide) (by decide) (by decide)) rfl ?_
    rintro e w ⟨rfl, hS⟩
    refine ⟨_, rfl, ?_⟩
    refine t_nil ?_
    refine ⟨.inr ⟨_, hS.pick (by repeat first|exact .here _ _|assumption|apply Pick.there)⟩, ?_⟩
    refine p_q hap hsel 8 rfl rfl ⟨_, hS.pick (by repeat first|exact .here _ _|assumption|apply Pick.there)⟩ (fun w hI => q_conv_i64 Try.runUnderlying43 Try.runUnderlying3 rfl (by omega)) ?_
    refine p_two 10 12 rfl rfl (by kernel_rfl) ?_ ?_
    ·
     refine t_call Try.call82 (rNat_enc (n := 3) (rest := enc 9) (b := false) (most := 4611686018427387904) hS (by repeat first|exact .here _ _|assumption|apply Pick.there) (by decide) (by decide) (by decide)) rfl ?_
     rintro e w ⟨rfl, hS⟩
     refine ⟨_, rfl, ?_⟩
     refine t_nil ?_
     refine ⟨.inr ⟨_, hS.pick (by repeat first|exact .here _ _|assumption|apply Pick.there)⟩, ?_⟩
     refine p_q hap hsel 11 rfl rfl ⟨_, hS.pick (by repeat first|exact .here _ _|assumption|apply Pick.there)⟩ (fun w hI => q_build (qs := [(0, 1), (1, 1), (2, 1), (3, 1), (4, 1), (5, 1), (6, 1), (7, 1), (8, 1), (9, 1), (10, 1), (11, 1), (12, 1)]) [(.int _ _), (.int _ _), (.int _ _), (.int _ _), (.int _ _), (.int _ _), (.int _ _), (.bool _), (.slice _ _ _), (.slice _ _ _), (.int _ _), (.int _ _), (.slice _ _ _)] Try.zeroValue114 Try.runUnderlying114 ⟨rfl, Try.sizeOf3, rfl, Try.sizeOf3, rfl, Try.sizeOf3, rfl, Try.sizeOf43, rfl, Try.sizeOf43, rfl, Try.sizeOf43, rfl, Try.sizeOf43, rfl, Try.sizeOf4, rfl, Try.sizeOf111, rfl, Try.sizeOf25, rfl, Try.sizeOf43, rfl, Try.sizeOf43, rfl, Try.sizeOf112, trivial⟩ rfl rfl) ?_
     refine p_one 12 rfl (by kernel_rfl) ?_
     refine t_alloc Try.zeroValue114 rfl hS (fun g7 w hS => ?_)
     refine t_nil ?_
     refine ⟨.inr ⟨_, hS.pick (by repeat first|exact .here _ _|assumption|apply Pick.there)⟩, ?_⟩
     refine p_one 13 rfl (by kernel_rfl) ?_
     refine t_store (v := (.agg _)) Try.sizeOf114 hS (by repeat first|exact .here _ _|assumption|apply Pick.there) rfl rfl rfl rfl rfl rfl (fun w hS => ?_)
     replace hS := hS.recast (show blkA g7 114 _ = blkA g7 114 [.int .i64 6, .int .i64 1, .int .i64 0, .int .u64 3, .int .u64 0, .int .u64 0, .int .u64 0, .bool false, .slice none 0 0, .slice none 0 0, .int .u64 0, .int .u64 0, .slice none 0 0] from rfl)
     refine t_nil ?_
     refine ⟨.inl (by kernel_rfl), ?_⟩
     refine p_end (by kernel_rfl) ?_
     refine c_seq ?_
     refine c_region ?_
     refine t_q (q_fieldAddr 0 Try.runUnderlying114 rfl Try.sizeOf3 (by decide) rfl rfl) ?_
     refine t_q (q_cast (v' := .int .i64 6) (q_load1 Try.isAgg3 rfl (hS.cell (by repeat first|exact .here _ _|assumption|apply Pick.there) rfl)) (by rfl)) ?_
     refine t_call Try.call102 (fields_6) rfl ?_
     rintro e w ⟨rfl, hT⟩
     refine ⟨_, rfl, ?_⟩
     replace hS := hS.after hT
     refine t_alloc Try.zeroValue3 rfl hS (fun g8 w hS => ?_)
     refine t_store (v := (.int _ _)) Try.sizeOf3 hS (by repeat first|exact .here _ _|assumption|apply Pick.there) rfl rfl rfl rfl rfl rfl (fun w hS => ?_)
     replace hS := hS.recast (show blkA g8 3 _ = blkA g8 3 [.int .i64 2] from rfl)
     refine t_nil ?_
     refine c_seq ?_
     refine c_region ?_
     refine t_q (q_makeFunc rfl) ?_
     refine t_q (q_as (.func _ _ _) rfl) ?_
     refine t_nil ?_
     refine c_seq ?_
     refine c_region ?_
     refine t_q (q_mv (.func _ _ _) rfl) ?_
     refine t_callv Try.call117 rfl (rnum_no (v := 2) (m := 1) (n := 1) (by decide) hS (by repeat first|exact .here _ _|assumption|apply Pick.there)) rfl ?_
     rintro e w ⟨rfl, hS⟩
     refine ⟨_, rfl, ?_⟩
     refine t_q (q_cast (v' := .bool false) (q_eql rfl rfl) (by rfl)) ?_
     refine t_q (q_fieldAddr 7 Try.runUnderlying114 rfl Try.sizeOf4 (by decide) rfl rfl) ?_
     refine t_store (v := (.bool _)) Try.sizeOf4 hS (by repeat first|exact .here _ _|assumption|apply Pick.there) rfl rfl rfl rfl rfl rfl (fun w hS => ?_)
     replace hS := hS.recast (show blkA g7 114 _ = blkA g7 114 [.int .i64 6, .int .i64 1, .int .i64 0, .int .u64 3, .int .u64 0, .int .u64 0, .int .u64 0, .bool false, .slice none 0 0, .slice none 0 0, .int .u64 0, .int .u64 0, .slice none 0 0] from rfl)
     refine t_nil ?_
     refine c_seq ?_
     refine c_region ?_
     refine t_q (q_mv (.func _ _ _) rfl) ?_
     refine t_callv Try.call117 rfl (rnum_yes (v := 2) (m := 2) (most := 4611686018427387904) (n := 9) (rest := []) (b := false) (by decide) ((((((hS.pick (A := rdrA w1 197 g19 ⟨enc 9, false⟩) (by repeat first|exact .here _ _|assumption|apply Pick.there)).recast (show _ = rdrA w1 197 g19 ⟨enc 9 ++ [], false⟩ from by rw [List.append_nil])).pick (A := blkA g8 3 [.int .i64 2]) (by repeat first|exact .here _ _|assumption|apply Pick.there)).pick (A := blkA g6 150 [.pointer (some ⟨g19, 0, none⟩)]) (by repeat first|exact .here _ _|assumption|apply Pick.there)).pick (A := rdrA w1 197 g19 ⟨enc 9 ++ [], false⟩) (by repeat first|exact .here _ _|assumption|apply Pick.there))) (by decide) (by decide)) rfl ?_
     rintro e w ⟨rfl, hS⟩
     refine ⟨_, rfl, ?_⟩
     refine t_q (q_mv (.func _ _ _) rfl) ?_
     refine t_callv Try.call117 rfl (rnum_no (v := 2) (m := 4) (n := 4611686018427387904) (by decide) hS (by repeat first|exact .here _ _|assumption|apply Pick.there)) rfl ?_
     rintro e w ⟨rfl, hS⟩
     refine ⟨_, rfl, ?_⟩
     refine t_q (q_mv (.func _ _ _) rfl) ?_
     refine t_callv Try.call117 rfl (rnum_no (v := 2) (m := 8) (n := 4611686018427387904) (by decide) hS (by repeat first|exact .here _ _|assumption|apply Pick.there)) rfl ?_
     rintro e w ⟨rfl, hS⟩
     refine ⟨_, rfl, ?_⟩
     refine t_q (q_fieldAddr 4 Try.runUnderlying114 rfl Try.sizeOf43 (by decide) rfl rfl) ?_
     refine t_store (v := (.int _ _)) Try.sizeOf43 hS (by repeat first|exact .here _ _|assumption|apply Pick.there) rfl rfl rfl rfl rfl rfl (fun w hS => ?_)
     replace hS := hS.recast (show blkA g7 114 _ = blkA g7 114 [.int .i64 6, .int .i64 1, .int .i64 0, .int .u64 3, .int .u64 9, .int .u64 0, .int .u64 0, .bool false, .slice none 0 0, .slice none 0 0, .int .u64 0, .int .u64 0, .slice none 0 0] from rfl)
     refine t_q (q_fieldAddr 5 Try.runUnderlying114 rfl Try.sizeOf43 (by decide) rfl rfl) ?_
     refine t_store (v := (.int _ _)) Try.sizeOf43 hS (by repeat first|exact .here _ _|assumption|apply Pick.there) rfl rfl rfl rfl rfl rfl (fun w hS => ?_)
     replace hS := hS.recast (show blkA g7 114 _ = blkA g7 114 [.int .i64 6, .int .i64 1, .int .i64 0, .int .u64 3, .int .u64 9, .int .u64 0, .int .u64 0, .bool false, .slice none 0 0, .slice none 0 0, .int .u64 0, .int .u64 0, .slice none 0 0] from rfl)
     refine t_q (q_fieldAddr 6 Try.runUnderlying114 rfl Try.sizeOf43 (by decide) rfl rfl) ?_
     refine t_store (v := (.int _ _)) Try.sizeOf43 hS (by repeat first|exact .here _ _|assumption|apply Pick.there) rfl rfl rfl rfl rfl rfl (fun w hS => ?_)
     replace hS := hS.recast (show blkA g7 114 _ = blkA g7 114 [.int .i64 6, .int .i64 1, .int .i64 0, .int .u64 3, .int .u64 9, .int .u64 0, .int .u64 0, .bool false, .slice none 0 0, .slice none 0 0, .int .u64 0, .int .u64 0, .slice none 0 0] from rfl)
     refine t_nil ?_
     refine c_seq ?_
     refine c_seq ?_
     refine c_region ?_
     refine t_q (q_mv (.func _ _ _) rfl) ?_
     refine t_callv Try.call117 rfl (rnum_no (v := 2) (m := 16) (n := 32) (by decide) hS (by repeat first|exact .here _ _|assumption|apply Pick.there)) rfl ?_
     rintro e w ⟨rfl, hS⟩
     refine ⟨_, rfl, ?_⟩
     refine t_q (q_move) ?_
     refine t_nil ?_
     refine c_block ?_
     refine c_loop [51, 52, 53, 54, 55, 56, 57, 58, 59, 60, 61, 62, 63, 64, 65, 66] (fun k σ w => σ 51 = .int .u64 0 ∧ St w1 w [rdrA w1 197 g19 ⟨[], false⟩, blkA g6 150 [.pointer (some ⟨g19, 0, none⟩)], blkA g8 3 [.int .i64 2], blkA g7 114 [.int .i64 6, .int .i64 1, .int .i64 0, .int .u64 3, .int .u64 9, .int .u64 0, .int .u64 0, .bool false, .slice none 0 0, .slice none 0 0, .int .u64 0, .int .u64 0, .slice none 0 0]]) (0) rfl (⟨rfl, (((((hS.pick (A := blkA g7 114 _) (by repeat first|exact .here _ _|assumption|apply Pick.there)).pick (A := blkA g8 3 [.int .i64 2]) (by repeat first|exact .here _ _|assumption|apply Pick.there)).pick (A := blkA g6 150 [.pointer (some ⟨g19, 0, none⟩)]) (by repeat first|exact .here _ _|assumption|apply Pick.there)).pick (A := rdrA w1 197 g19 ⟨[], false⟩) (by repeat first|exact .here _ _|assumption|apply Pick.there)))⟩) ?_
     skip
     rintro k σ w ⟨h51, hS⟩
     refine c_know 51 h51 ?_
     clear h51
     refine c_seq ?_
     refine c_region ?_
     refine t_q (q_lss rfl rfl) ?_
     refine t_nil ?_
     refine c_seq ?_
     refine c_cond rfl ?_ ?_
     ·
      intro hc17
      have hc17d := of_decide_eq_true hc17
      exfalso; omega
     ·
      intro hc17
      have hc17d := of_decide_eq_false hc17
      refine c_exit ?_
      refine ite_t rfl ?_
      refine c_seq ?_
      refine c_seq ?_
      refine c_region ?_
      refine t_q (q_load1 Try.isAgg3 rfl (hS.cell (by repeat first|exact .here _ _|assumption|apply Pick.there) rfl)) ?_
      refine t_q (q_cast (v' := .int .i64 0) (q_and rfl rfl) (by rfl)) ?_
      refine t_q (q_neq rfl rfl) ?_
      refine t_nil ?_
      refine c_cond_f rfl rfl ?_
      refine c_skip ?_
      refine c_seq ?_
      refine c_region ?_
      refine t_q (q_mv (.func _ _ _) rfl) ?_
      refine t_callv Try.call117 rfl (rnum_no (v := 2) (m := 64) (n := 8) (by decide) hS (by repeat first|exact .here _ _|assumption|apply Pick.there)) rfl ?_
      rintro e w ⟨rfl, hS⟩
      refine ⟨_, rfl, ?_⟩
      refine t_q (q_mv (.func _ _ _) rfl) ?_
      refine t_callv Try.call117 rfl (rnum_no (v := 2) (m := 64) (n := 18446744073709551615) (by decide) hS (by repeat first|exact .here _ _|assumption|apply Pick.there)) rfl ?_
      rintro e w ⟨rfl, hS⟩
      refine ⟨_, rfl, ?_⟩
      refine t_q (q_fieldAddr 10 Try.runUnderlying114 rfl Try.sizeOf43 (by decide) rfl rfl) ?_
      refine t_store (v := (.int _ _)) Try.sizeOf43 hS (by repeat first|exact .here _ _|assumption|apply Pick.there) rfl rfl rfl rfl rfl rfl (fun w hS => ?_)
      replace hS := hS.recast (show blkA g7 114 _ = blkA g7 114 [.int .i64 6, .int .i64 1, .int .i64 0, .int .u64 3, .int .u64 9, .int .u64 0, .int .u64 0, .bool false, .slice none 0 0, .slice none 0 0, .int .u64 0, .int .u64 0, .slice none 0 0] from rfl)
      refine t_q (q_fieldAddr 11 Try.runUnderlying114 rfl Try.sizeOf43 (by decide) rfl rfl) ?_
      refine t_store (v := (.int _ _)) Try.sizeOf43 hS (by repeat first|exact .here _ _|assumption|apply Pick.there) rfl rfl rfl rfl rfl rfl (fun w hS => ?_)
      replace hS := hS.recast (show blkA g7 114 _ = blkA g7 114 [.int .i64 6, .int .i64 1, .int .i64 0, .int .u64 3, .int .u64 9, .int .u64 0, .int .u64 0, .bool false, .slice none 0 0, .slice none 0 0, .int .u64 0, .int .u64 0, .slice none 0 0] from rfl)
      refine t_nil ?_
      refine c_seq ?_
      refine c_seq ?_
      refine c_region ?_
      refine t_q (q_load1 Try.isAgg3 rfl (hS.cell (by repeat first|exact .here _ _|assumption|apply Pick.there) rfl)) ?_
      refine t_q (q_cast (v' := .int .i64 0) (q_and rfl rfl) (by rfl)) ?_
      refine t_q (q_neq rfl rfl) ?_
      refine t_nil ?_
      refine c_cond_f rfl rfl ?_
      refine c_skip ?_
      refine c_seq ?_
      refine c_seq ?_
      refine c_region ?_
      refine t_q (q_load1 Try.isAgg150 rfl (hS.cell (by repeat first|exact .here _ _|assumption|apply Pick.there) rfl)) ?_
      refine t_call Try.call83 (rEnd hS (by repeat first|exact .here _ _|assumption|apply Pick.there)) rfl ?_
      rintro e w ⟨rfl, hS⟩
      refine ⟨_, rfl, ?_⟩
      have hS : St W w (_ :: _) := hS0.lift hS
      refine t_q (q_cast (v' := .bool false) (q_neq rfl rfl) (by rfl)) ?_
      refine t_q (q_mv (.bool _) rfl) ?_
      refine t_yes rfl rfl rfl ?_
      refine t_q (q_cast (v' := .agg tT.cells.toArray) (q_load_blk Try.isAgg114 Try.sizeOf114 rfl (hS.blk (by repeat first|exact .here _ _|assumption|apply Pick.there)) rfl) (by rfl)) ?_
      refine t_yes rfl rfl rfl ?_
      refine t_call Try.call59 (wsound_calls (x := tT) tT_gd) rfl ?_
      rintro e w ⟨rfl, hT⟩
      refine ⟨_, rfl, ?_⟩
      replace hS := hS.after hT
      rw [tT_sound]
      refine t_yes rfl rfl rfl ?_
      refine t_q (q_cast (v' := .bool false) (q_not rfl) (by rfl)) ?_
      refine t_q (q_pick_f rfl rfl) ?_
      refine t_nil ?_
      refine c_cond_f rfl rfl ?_
      refine c_skip ?_
      refine c_seq ?_
      refine c_region ?_
      refine t_q (q_load_blk Try.isAgg114 Try.sizeOf114 rfl (hS.blk (by repeat first|exact .here _ _|assumption|apply Pick.there)) rfl) ?_
      refine t_store (v := (.agg _)) Try.sizeOf114 hS (by repeat first|exact .here _ _|assumption|apply Pick.there) rfl rfl rfl rfl rfl rfl (fun w hS => ?_)
      refine t_q (q_assign) ?_
      refine t_nil ?_
      refine c_ret ?_
      refine r_two rfl (res1_cellN Try.isAgg114 Try.sizeOf114 rfl (hS.blk (by repeat first|exact .here _ _|assumption|apply Pick.there)) rfl) rfl ?_
      exact ⟨rfl, hS.nil⟩
    ·
     refine t_alloc Try.zeroValue114 rfl hS (fun g7 w hS => ?_)
     refine t_nil ?_
     refine ⟨.inr ⟨_, hS.pick (by repeat first|exact .here _ _|assumption|apply Pick.there)⟩, ?_⟩
     refine p_one 10 rfl (by kernel_rfl) ?_
     refine t_call Try.call82 (rNat_enc (n := 3) (rest := enc 9) (b := false) (most := 4611686018427387904) hS (by repeat first|exact .here _ _|assumption|apply Pick.there) (by decide) (by decide) (by decide)) rfl ?_
     rintro e w ⟨rfl, hS⟩
     refine ⟨_, rfl, ?_⟩
     refine t_nil ?_
     refine ⟨.inr ⟨_, hS.pick (by repeat first|exact .here _ _|assumption|apply Pick.there)⟩, ?_⟩
     refine p_q hap hsel 11 rfl rfl ⟨_, hS.pick (by repeat first|exact .here _ _|assumption|apply Pick.there)⟩ (fun w hI => q_build (qs := [(0, 1), (1, 1), (2, 1), (3, 1), (4, 1), (5, 1), (6, 1), (7, 1), (8, 1), (9, 1), (10, 1), (11, 1), (12, 1)]) [(.int _ _), (.int _ _), (.int _ _), (.int _ _), (.int _ _), (.int _ _), (.int _ _), (.bool _), (.slice _ _ _), (.slice _ _ _), (.int _ _), (.int _ _), (.slice _ _ _)] Try.zeroValue114 Try.runUnderlying114 ⟨rfl, Try.sizeOf3, rfl, Try.sizeOf3, rfl, Try.sizeOf3, rfl, Try.sizeOf43, rfl, Try.sizeOf43, rfl, Try.sizeOf43, rfl, Try.sizeOf43, rfl, Try.sizeOf4, rfl, Try.sizeOf111, rfl, Try.sizeOf25, rfl, Try.sizeOf43, rfl, Try.sizeOf43, rfl, Try.sizeOf112, trivial⟩ rfl rfl) ?_
     refine p_one 13 rfl (by kernel_rfl) ?_
     refine t_store (v := (.agg _)) Try.sizeOf114 hS (by repeat first|exact .here _ _|assumption|apply Pick.there) rfl rfl rfl rfl rfl rfl (fun w hS => ?_)
     replace hS := hS.recast (show blkA g7 114 _ = blkA g7 114 [.int .i64 6, .int .i64 1, .int .i64 0, .int .u64 3, .int .u64 0, .int .u64 0, .int .u64 0, .bool false, .slice none 0 0, .slice none 0 0, .int .u64 0, .int .u64 0, .slice none 0 0] from rfl)
     refine t_nil ?_
     refine ⟨.inl (by kernel_rfl), ?_⟩
     refine p_end (by kernel_rfl) ?_
     refine c_seq ?_
     refine c_region ?_
     refine t_q (q_fieldAddr 0 Try.runUnderlying114 rfl Try.sizeOf3 (by decide) rfl rfl) ?_
     refine t_q (q_cast (v' := .int .i64 6) (q_load1 Try.isAgg3 rfl (hS.cell (by repeat first|exact .here _ _|assumption|apply Pick.there) rfl)) (by rfl)) ?_
     refine t_call Try.call102 (fields_6) rfl ?_
     rintro e w ⟨rfl, hT⟩
     refine ⟨_, rfl, ?_⟩
     replace hS := hS.after hT
     refine t_alloc Try.zeroValue3 rfl hS (fun g8 w hS => ?_)
     refine t_store (v := (.int _ _)) Try.sizeOf3 hS (by repeat first|exact .here _ _|assumption|apply Pick.there) rfl rfl rfl rfl rfl rfl (fun w hS => ?_)
     replace hS := hS.recast (show blkA g8 3 _ = blkA g8 3 [.int .i64 2] from rfl)
     refine t_nil ?_
     refine c_seq ?_
     refine c_region ?_
     refine t_q (q_makeFunc rfl) ?_
     refine t_q (q_as (.func _ _ _) rfl) ?_
     refine t_nil ?_
     refine c_seq ?_
     refine c_region ?_
     refine t_q (q_mv (.func _ _ _) rfl) ?_
     refine t_callv Try.call117 rfl (rnum_no (v := 2) (m := 1) (n := 1) (by decide) hS (by repeat first|exact .here _ _|assumption|apply Pick.there)) rfl ?_
     rintro e w ⟨rfl, hS⟩
     refine ⟨_, rfl, ?_⟩
     refine t_q (q_cast (v' := .bool false) (q_eql rfl rfl) (by rfl)) ?_
     refine t_q (q_fieldAddr 7 Try.runUnderlying114 rfl Try.sizeOf4 (by decide) rfl rfl) ?_
     refine t_store (v := (.bool _)) Try.sizeOf4 hS (by repeat first|exact .here _ _|assumption|apply Pick.there) rfl rfl rfl rfl rfl rfl (fun w hS => ?_)
     replace hS := hS.recast (show blkA g7 114 _ = blkA g7 114 [.int .i64 6, .int .i64 1, .int .i64 0, .int .u64 3, .int .u64 0, .int .u64 0, .int .u64 0, .bool false, .slice none 0 0, .slice none 0 0, .int .u64 0, .int .u64 0, .slice none 0 0] from rfl)
     refine t_nil ?_
     refine c_seq ?_
     refine c_region ?_
     refine t_q (q_mv (.func _ _ _) rfl) ?_
     refine t_callv Try.call117 rfl (rnum_yes (v := 2) (m := 2) (most := 4611686018427387904) (n := 9) (rest := []) (b := false) (by decide) ((((((hS.pick (A := rdrA w1 197 g19 ⟨enc 9, false⟩) (by repeat first|exact .here _ _|assumption|apply Pick.there)).recast (show _ = rdrA w1 197 g19 ⟨enc 9 ++ [], false⟩ from by rw [List.append_nil])).pick (A := blkA g8 3 [.int .i64 2]) (by repeat first|exact .here _ _|assumption|apply Pick.there)).pick (A := blkA g6 150 [.pointer (some ⟨g19, 0, none⟩)]) (by repeat first|exact .here _ _|assumption|apply Pick.there)).pick (A := rdrA w1 197 g19 ⟨enc 9 ++ [], false⟩) (by repeat first|exact .here _ _|assumption|apply Pick.there))) (by decide) (by decide)) rfl ?_
     rintro e w ⟨rfl, hS⟩
     refine ⟨_, rfl, ?_⟩
     refine t_q (q_mv (.func _ _ _) rfl) ?_
     refine t_callv Try.call117 rfl (rnum_no (v := 2) (m := 4) (n := 4611686018427387904) (by decide) hS (by repeat first|exact .here _ _|assumption|apply Pick.there)) rfl ?_
     rintro e w ⟨rfl, hS⟩
     refine ⟨_, rfl, ?_⟩
     refine t_q (q_mv (.func _ _ _) rfl) ?_
     refine t_callv Try.call117 rfl (rnum_no (v := 2) (m := 8) (n := 4611686018427387904) (by decide) hS (by repeat first|exact .here _ _|assumption|apply Pick.there)) rfl ?_
     rintro e w ⟨rfl, hS⟩
     refine ⟨_, rfl, ?_⟩
     refine t_q (q_fieldAddr 4 Try.runUnderlying114 rfl Try.sizeOf43 (by decide) rfl rfl) ?_
     refine t_store (v := (.int _ _)) Try.sizeOf43 hS (by repeat first|exact .here _ _|assumption|apply Pick.there) rfl rfl rfl rfl rfl rfl (fun w hS => ?_)
     replace hS := hS.recast (show blkA g7 114 _ = blkA g7 114 [.int .i64 6, .int .i64 1, .int .i64 0, .int .u64 3, .int .u64 9, .int .u64 0, .int .u64 0, .bool false, .slice none 0 0, .slice none 0 0, .int .u64 0, .int .u64 0, .slice none 0 0] from rfl)
     refine t_q (q_fieldAddr 5 Try.runUnderlying114 rfl Try.sizeOf43 (by decide) rfl rfl) ?_
     refine t_store (v := (.int _ _)) Try.sizeOf43 hS (by repeat first|exact .here _ _|assumption|apply Pick.there) rfl rfl rfl rfl rfl rfl (fun w hS => ?_)
     replace hS := hS.recast (show blkA g7 114 _ = blkA g7 114 [.int .i64 6, .int .i64 1, .int .i64 0, .int .u64 3, .int .u64 9, .int .u64 0, .int .u64 0, .bool false, .slice none 0 0, .slice none 0 0, .int .u64 0, .int .u64 0, .slice none 0 0] from rfl)
     refine t_q (q_fieldAddr 6 Try.runUnderlying114 rfl Try.sizeOf43 (by decide) rfl rfl) ?_
     refine t_store (v := (.int _ _)) Try.sizeOf43 hS (by repeat first|exact .here _ _|assumption|apply Pick.there) rfl rfl rfl rfl rfl rfl (fun w hS => ?_)
     replace hS := hS.recast (show blkA g7 114 _ = blkA g7 114 [.int .i64 6, .int .i64 1, .int .i64 0, .int .u64 3, .int .u64 9, .int .u64 0, .int .u64 0, .bool false, .slice none 0 0, .slice none 0 0, .int .u64 0, .int .u64 0, .slice none 0 0] from rfl)
     refine t_nil ?_
     refine c_seq ?_
     refine c_seq ?_
     refine c_region ?_
     refine t_q (q_mv (.func _ _ _) rfl) ?_
     refine t_callv Try.call117 rfl (rnum_no (v := 2) (m := 16) (n := 32) (by decide) hS (by repeat first|exact .here _ _|assumption|apply Pick.there)) rfl ?_
     rintro e w ⟨rfl, hS⟩
     refine ⟨_, rfl, ?_⟩
     refine t_q (q_move) ?_
     refine t_nil ?_
     refine c_block ?_
     refine c_loop [51, 52, 53, 54, 55, 56, 57, 58, 59, 60, 61, 62, 63, 64, 65, 66] (fun k σ w => σ 51 = .int .u64 0 ∧ St w1 w [rdrA w1 197 g19 ⟨[], false⟩, blkA g6 150 [.pointer (some ⟨g19, 0, none⟩)], blkA g8 3 [.int .i64 2], blkA g7 114 [.int .i64 6, .int .i64 1, .int .i64 0, .int .u64 3, .int .u64 9, .int .u64 0, .int .u64 0, .bool false, .slice none 0 0, .slice none 0 0, .int .u64 0, .int .u64 0, .slice none 0 0]]) (0) rfl (⟨rfl, (((((hS.pick (A := blkA g7 114 _) (by repeat first|exact .here _ _|assumption|apply Pick.there)).pick (A := blkA g8 3 [.int .i64 2]) (by repeat first|exact .here _ _|assumption|apply Pick.there)).pick (A := blkA g6 150 [.pointer (some ⟨g19, 0, none⟩)]) (by repeat first|exact .here _ _|assumption|apply Pick.there)).pick (A := rdrA w1 197 g19 ⟨[], false⟩) (by repeat first|exact .here _ _|assumption|apply Pick.there)))⟩) ?_
     skip
     rintro k σ w ⟨h51, hS⟩
     refine c_know 51 h51 ?_
     clear h51
     refine c_seq ?_
     refine c_region ?_
     refine t_q (q_lss rfl rfl) ?_
     refine t_nil ?_
     refine c_seq ?_
     refine c_cond rfl ?_ ?_
     ·
      intro hc34
      have hc34d := of_decide_eq_true hc34
      exfalso; omega
     ·
      intro hc34
      have hc34d := of_decide_eq_false hc34
      refine c_exit ?_
      refine ite_t rfl ?_
      refine c_seq ?_
      refine c_seq ?_
      refine c_region ?_
      refine t_q (q_load1 Try.isAgg3 rfl (hS.cell (by repeat first|exact .here _ _|assumption|apply Pick.there) rfl)) ?_
      refine t_q (q_cast (v' := .int .i64 0) (q_and rfl rfl) (by rfl)) ?_
      refine t_q (q_neq rfl rfl) ?_
      refine t_nil ?_
      refine c_cond_f rfl rfl ?_
      refine c_skip ?_
      refine c_seq ?_
      refine c_region ?_
      refine t_q (q_mv (.func _ _ _) rfl) ?_
      refine t_callv Try.call117 rfl (rnum_no (v := 2) (m := 64) (n := 8) (by decide) hS (by repeat first|exact .here _ _|assumption|apply Pick.there)) rfl ?_
      rintro e w ⟨rfl, hS⟩
      refine ⟨_, rfl, ?_⟩
      refine t_q (q_mv (.func _ _ _) rfl) ?_
      refine t_callv Try.call117 rfl (rnum_no (v := 2) (m := 64) (n := 18446744073709551615) (by decide) hS (by repeat first|exact .here _ _|assumption|apply Pick.there)) rfl ?_
      rintro e w ⟨rfl, hS⟩
      refine ⟨_, rfl, ?_⟩
      refine t_q (q_fieldAddr 10 Try.runUnderlying114 rfl Try.sizeOf43 (by decide) rfl rfl) ?_
      refine t_store (v := (.int _ _)) Try.sizeOf43 hS (by repeat first|exact .here _ _|assumption|apply Pick.there) rfl rfl rfl rfl rfl rfl (fun w hS => ?_)
      replace hS := hS.recast (show blkA g7 114 _ = blkA g7 114 [.int .i64 6, .int .i64 1, .int .i64 0, .int .u64 3, .int .u64 9, .int .u64 0, .int .u64 0, .bool false, .slice none 0 0, .slice none 0 0, .int .u64 0, .int .u64 0, .slice none 0 0] from rfl)
      refine t_q (q_fieldAddr 11 Try.runUnderlying114 rfl Try.sizeOf43 (by decide) rfl rfl) ?_
      refine t_store (v := (.int _ _)) Try.sizeOf43 hS (by repeat first|exact .here _ _|assumption|apply Pick.there) rfl rfl rfl rfl rfl rfl (fun w hS => ?_)
      replace hS := hS.recast (show blkA g7 114 _ = blkA g7 114 [.int .i64 6, .int .i64 1, .int .i64 0, .int .u64 3, .int .u64 9, .int .u64 0, .int .u64 0, .bool false, .slice none 0 0, .slice none 0 0, .int .u64 0, .int .u64 0, .slice none 0 0] from rfl)
      refine t_nil ?_
      refine c_seq ?_
      refine c_seq ?_
      refine c_region ?_
      refine t_q (q_load1 Try.isAgg3 rfl (hS.cell (by repeat first|exact .here _ _|assumption|apply Pick.there) rfl)) ?_
      refine t_q (q_cast (v' := .int .i64 0) (q_and rfl rfl) (by rfl)) ?_
      refine t_q (q_neq rfl rfl) ?_
      refine t_nil ?_
      refine c_cond_f rfl rfl ?_
      refine c_skip ?_
      refine c_seq ?_
      refine c_seq ?_
      refine c_region ?_
      refine t_q (q_load1 Try.isAgg150 rfl (hS.cell (by repeat first|exact .here _ _|assumption|apply Pick.there) rfl)) ?_
      refine t_call Try.call83 (rEnd hS (by repeat first|exact .here _ _|assumption|apply Pick.there)) rfl ?_
      rintro e w ⟨rfl, hS⟩
      refine ⟨_, rfl, ?_⟩
      have hS : St W w (_ :: _) := hS0.lift hS
      refine t_q (q_cast (v' := .bool false) (q_neq rfl rfl) (by rfl)) ?_
      refine t_q (q_mv (.bool _) rfl) ?_
      refine t_yes rfl rfl rfl ?_
      refine t_q (q_cast (v' := .agg tT.cells.toArray) (q_load_blk Try.isAgg114 Try.sizeOf114 rfl (hS.blk (by repeat first|exact .here _ _|assumption|apply Pick.there)) rfl) (by rfl)) ?_
      refine t_yes rfl rfl rfl ?_
      refine t_call Try.call59 (wsound_calls (x := tT) tT_gd) rfl ?_
      rintro e w ⟨rfl, hT⟩
      refine ⟨_, rfl, ?_⟩
      replace hS := hS.after hT
      rw [tT_sound]
      refine t_yes rfl rfl rfl ?_
      refine t_q (q_cast (v' := .bool false) (q_not rfl) (by rfl)) ?_
      refine t_q (q_pick_f rfl rfl) ?_
      refine t_nil ?_
      refine c_cond_f rfl rfl ?_
      refine c_skip ?_
      refine c_seq ?_
      refine c_region ?_
      refine t_q (q_load_blk Try.isAgg114 Try.sizeOf114 rfl (hS.blk (by repeat first|exact .here _ _|assumption|apply Pick.there)) rfl) ?_
      refine t_store (v := (.agg _)) Try.sizeOf114 hS (by repeat first|exact .here _ _|assumption|apply Pick.there) rfl rfl rfl rfl rfl rfl (fun w hS => ?_)
      refine t_q (q_assign) ?_
      refine t_nil ?_
      refine c_ret ?_
      refine r_two rfl (res1_cellN Try.isAgg114 Try.sizeOf114 rfl (hS.blk (by repeat first|exact .here _ _|assumption|apply Pick.there)) rfl) rfl ?_
      exact ⟨rfl, hS.nil⟩
   ·
    refine t_alloc Try.zeroValue114 rfl hS (fun g7 w hS => ?_)
    refine t_nil ?_
    refine ⟨.inr ⟨_, hS.pick (by repeat first|exact .here _ _|assumption|apply Pick.there)⟩, ?_⟩
    refine p_one 7 rfl (by kernel_rfl) ?_
    refine t_call Try.call82 (rNat_enc (n := 0) (rest := enc 3 ++ enc 9) (b := false) (most := 15) hS (by repeat first|exact .here _ _|assumption|apply Pick.there) (by decide) (by decide) (by decide)) rfl ?_
    rintro e w ⟨rfl, hS⟩
    refine ⟨_, rfl, ?_⟩
    refine t_nil ?_
    refine ⟨.inr ⟨_, hS.pick (by repeat first|exact .here _ _|assumption|apply Pick.there)⟩, ?_⟩
    refine p_q hap hsel 8 rfl rfl ⟨_, hS.pick (by repeat first|exact .here _ _|assumption|apply Pick.there)⟩ (fun w hI => q_conv_i64 Try.runUnderlying43 Try.runUnderlying3 rfl (by omega)) ?_
    refine p_one 10 rfl (by kernel_rfl) ?_
    refine t_call Try.call82 (rNat_enc (n := 3) (rest := enc 9) (b := false) (most := 4611686018427387904) hS (by repeat first|exact .here _ _|assumption|apply Pick.there) (by decide) (by decide) (by decide)) rfl ?_
    rintro e w ⟨rfl, hS⟩
    refine ⟨_, rfl, ?_⟩
    refine t_nil ?_
    refine ⟨.inr ⟨_, hS.pick (by repeat first|exact .here _ _|assumption|apply Pick.there)⟩, ?_⟩
    refine p_q hap hsel 11 rfl rfl ⟨_, hS.pick (by repeat first|exact .here _ _|assumption|apply Pick.there)⟩ (fun w hI => q_build (qs := [(0, 1), (1, 1), (2, 1), (3, 1), (4, 1), (5, 1), (6, 1), (7, 1), (8, 1), (9, 1), (10, 1), (11, 1), (12, 1)]) [(.int _ _), (.int _ _), (.int _ _), (.int _ _), (.int _ _), (.int _ _), (.int _ _), (.bool _), (.slice _ _ _), (.slice _ _ _), (.int _ _), (.int _ _), (.slice _ _ _)] Try.zeroValue114 Try.runUnderlying114 ⟨rfl, Try.sizeOf3, rfl, Try.sizeOf3, rfl, Try.sizeOf3, rfl, Try.sizeOf43, rfl, Try.sizeOf43, rfl, Try.sizeOf43, rfl, Try.sizeOf43, rfl, Try.sizeOf4, rfl, Try.sizeOf111, rfl, Try.sizeOf25, rfl, Try.sizeOf43, rfl, Try.sizeOf43, rfl, Try.sizeOf112, trivial⟩ rfl rfl) ?_
    refine p_one 13 rfl (by kernel_rfl) ?_
    refine t_store (v := (.agg _)) Try.sizeOf114 hS (by repeat first|exact .here _ _|assumption|apply Pick.there) rfl rfl rfl rfl rfl rfl (fun w hS => ?_)
    replace hS := hS.recast (show blkA g7 114 _ = blkA g7 114 [.int .i64 6, .int .i64 1, .int .i64 0, .int .u64 3, .int .u64 0, .int .u64 0, .int .u64 0, .bool false, .slice none 0 0, .slice none 0 0, .int .u64 0, .int .u64 0, .slice none 0 0] from rfl)
    refine t_nil ?_
    refine ⟨.inl (by kernel_rfl), ?_⟩
    refine p_end (by kernel_rfl) ?_
    refine c_seq ?_
    refine c_region ?_
    refine t_q (q_fieldAddr 0 Try.runUnderlying114 rfl Try.sizeOf3 (by decide) rfl rfl) ?_
    refine t_q (q_cast (v' := .int .i64 6) (q_load1 Try.isAgg3 rfl (hS.cell (by repeat first|exact .here _ _|assumption|apply Pick.there) rfl)) (by rfl)) ?_
    refine t_call Try.call102 (fields_6) rfl ?_
    rintro e w ⟨rfl, hT⟩
    refine ⟨_, rfl, ?_⟩
    replace hS := hS.after hT
    refine t_alloc Try.zeroValue3 rfl hS (fun g8 w hS => ?_)
    refine t_store (v := (.int _ _)) Try.sizeOf3 hS (by repeat first|exact .here _ _|assumption|apply Pick.there) rfl rfl rfl rfl rfl rfl (fun w hS => ?_)
    replace hS := hS.recast (show blkA g8 3 _ = blkA g8 3 [.int .i64 2] from rfl)
    refine t_nil ?_
    refine c_seq ?_
    refine c_region ?_
    refine t_q (q_makeFunc rfl) ?_
    refine t_q (q_as (.func _ _ _) rfl) ?_
    refine t_nil ?_
    refine c_seq ?_
    refine c_region ?_
    refine t_q (q_mv (.func _ _ _) rfl) ?_
    refine t_callv Try.call117 rfl (rnum_no (v := 2) (m := 1) (n := 1) (by decide) hS (by repeat first|exact .here _ _|assumption|apply Pick.there)) rfl ?_
    rintro e w ⟨rfl, hS⟩
    refine ⟨_, rfl, ?_⟩
    refine t_q (q_cast (v' := .bool false) (q_eql rfl rfl) (by rfl)) ?_
    refine t_q (q_fieldAddr 7 Try.runUnderlying114 rfl Try.sizeOf4 (by decide) rfl rfl) ?_
    refine t_store (v := (.bool _)) Try.sizeOf4 hS (by repeat first|exact .here _ _|assumption|apply Pick.there) rfl rfl rfl rfl rfl rfl (fun w hS => ?_)
    replace hS := hS.recast (show blkA g7 114 _ = blkA g7 114 [.int .i64 6, .int .i64 1, .int .i64 0, .int .u64 3, .int .u64 0, .int .u64 0, .int .u64 0, .bool false, .slice none 0 0, .slice none 0 0, .int .u64 0, .int .u64 0, .slice none 0 0] from rfl)
    refine t_nil ?_
    refine c_seq ?_
    refine c_region ?_
    refine t_q (q_mv (.func _ _ _) rfl) ?_
    refine t_callv Try.call117 rfl (rnum_yes (v := 2) (m := 2) (most := 4611686018427387904) (n := 9) (rest := []) (b := false) (by decide) ((((((hS.pick (A := rdrA w1 197 g19 ⟨enc 9, false⟩) (by repeat first|exact .here _ _|assumption|apply Pick.there)).recast (show _ = rdrA w1 197 g19 ⟨enc 9 ++ [], false⟩ from by rw [List.append_nil])).pick (A := blkA g8 3 [.int .i64 2]) (by repeat first|exact .here _ _|assumption|apply Pick.there)).pick (A := blkA g6 150 [.pointer (some ⟨g19, 0, none⟩)]) (by repeat first|exact .here _ _|assumption|apply Pick.there)).pick (A := rdrA w1 197 g19 ⟨enc 9 ++ [], false⟩) (by repeat first|exact .here _ _|assumption|apply Pick.there))) (by decide) (by decide)) rfl ?_
    rintro e w ⟨rfl, hS⟩
    refine ⟨_, rfl, ?_⟩
    refine t_q (q_mv (.func _ _ _) rfl) ?_
    refine t_callv Try.call117 rfl (rnum_no (v := 2) (m := 4) (n := 4611686018427387904) (by decide) hS (by repeat first|exact .here _ _|assumption|apply Pick.there)) rfl ?_
    rintro e w ⟨rfl, hS⟩
    refine ⟨_, rfl, ?_⟩
    refine t_q (q_mv (.func _ _ _) rfl) ?_
    refine t_callv Try.call117 rfl (rnum_no (v := 2) (m := 8) (n := 4611686018427387904) (by decide) hS (by repeat first|exact .here _ _|assumption|apply Pick.there)) rfl ?_
    rintro e w ⟨rfl, hS⟩
    refine ⟨_, rfl, ?_⟩
    refine t_q (q_fieldAddr 4 Try.runUnderlying114 rfl Try.sizeOf43 (by decide) rfl rfl) ?_
    refine t_store (v := (.int _ _)) Try.sizeOf43 hS (by repeat first|exact .here _ _|assumption|apply Pick.there) rfl rfl rfl rfl rfl rfl (fun w hS => ?_)
    replace hS := hS.recast (show blkA g7 114 _ = blkA g7 114 [.int .i64 6, .int .i64 1, .int .i64 0, .int .u64 3, .int .u64 9, .int .u64 0, .int .u64 0, .bool false, .slice none 0 0, .slice none 0 0, .int .u64 0, .int .u64 0, .slice none 0 0] from rfl)
    refine t_q (q_fieldAddr 5 Try.runUnderlying114 rfl Try.sizeOf43 (by decide) rfl rfl) ?_
    refine t_store (v := (.int _ _)) Try.sizeOf43 hS (by repeat first|exact .here _ _|assumption|apply Pick.there) rfl rfl rfl rfl rfl rfl (fun w hS => ?_)
    replace hS := hS.recast (show blkA g7 114 _ = blkA g7 114 [.int .i64 6, .int .i64 1, .int .i64 0, .int .u64 3, .int .u64 9, .int .u64 0, .int .u64 0, .bool false, .slice none 0 0, .slice none 0 0, .int .u64 0, .int .u64 0, .slice none 0 0] from rfl)
    refine t_q (q_fieldAddr 6 Try.runUnderlying114 rfl Try.sizeOf43 (by decide) rfl rfl) ?_
    refine t_store (v := (.int _ _)) Try.sizeOf43 hS (by repeat first|exact .here _ _|assumption|apply Pick.there) rfl rfl rfl rfl rfl rfl (fun w hS => ?_)
    replace hS := hS.recast (show blkA g7 114 _ = blkA g7 114 [.int .i64 6, .int .i64 1, .int .i64 0, .int .u64 3, .int .u64 9, .int .u64 0, .int .u64 0, .bool false, .slice none 0 0, .slice none 0 0, .int .u64 0, .int .u64 0, .slice none 0 0] from rfl)
    refine t_nil ?_
    refine c_seq ?_
    refine c_seq ?_
    refine c_region ?_
    refine t_q (q_mv (.func _ _ _) rfl) ?_
    refine t_callv Try.call117 rfl (rnum_no (v := 2) (m := 16) (n := 32) (by decide) hS (by repeat first|exact .here _ _|assumption|apply Pick.there)) rfl ?_
    rintro e w ⟨rfl, hS⟩
    refine ⟨_, rfl, ?_⟩
    refine t_q (q_move) ?_
    refine t_nil ?_
    refine c_block ?_
    refine c_loop [51, 52, 53, 54, 55, 56, 57, 58, 59, 60, 61, 62, 63, 64, 65, 66] (fun k σ w => σ 51 = .int .u64 0 ∧ St w1 w [rdrA w1 197 g19 ⟨[], false⟩, blkA g6 150 [.pointer (some ⟨g19, 0, none⟩)], blkA g8 3 [.int .i64 2], blkA g7 114 [.int .i64 6, .int .i64 1, .int .i64 0, .int .u64 3, .int .u64 9, .int .u64 0, .int .u64 0, .bool false, .slice none 0 0, .slice none 0 0, .int .u64 0, .int .u64 0, .slice none 0 0]]) (0) rfl (⟨rfl, (((((hS.pick (A := blkA g7 114 _) (by repeat first|exact .here _ _|assumption|apply Pick.there)).pick (A := blkA g8 3 [.int .i64 2]) (by repeat first|exact .here _ _|assumption|apply Pick.there)).pick (A := blkA g6 150 [.pointer (some ⟨g19, 0, none⟩)]) (by repeat first|exact .here _ _|assumption|apply Pick.there)).pick (A := rdrA w1 197 g19 ⟨[], false⟩) (by repeat first|exact .here _ _|assumption|apply Pick.there)))⟩) ?_
    skip
    rintro k σ w ⟨h51, hS⟩
    refine c_know 51 h51 ?_
    clear h51
    refine c_seq ?_
    refine c_region ?_
    refine t_q (q_lss rfl rfl) ?_
    refine t_nil ?_
    refine c_seq ?_
    refine c_cond rfl ?_ ?_
    ·
     intro hc52
     have hc52d := of_decide_eq_true hc52
     exfalso; omega
    ·
     intro hc52
     have hc52d := of_decide_eq_false hc52
     refine c_exit ?_
     refine ite_t rfl ?_
     refine c_seq ?_
     refine c_seq ?_
     refine c_region ?_
     refine t_q (q_load1 Try.isAgg3 rfl (hS.cell (by repeat first|exact .here _ _|assumption|apply Pick.there) rfl)) ?_
     refine t_q (q_cast (v' := .int .i64 0) (q_and rfl rfl) (by rfl)) ?_
     refine t_q (q_neq rfl rfl) ?_
     refine t_nil ?_
     refine c_cond_f rfl rfl ?_
     refine c_skip ?_
     refine c_seq ?_
     refine c_region ?_
     refine t_q (q_mv (.func _ _ _) rfl) ?_
     refine t_callv Try.call117 rfl (rnum_no (v := 2) (m := 64) (n := 8) (by decide) hS (by repeat first|exact .here _ _|assumption|apply Pick.there)) rfl ?_
     rintro e w ⟨rfl, hS⟩
     refine ⟨_, rfl, ?_⟩
     refine t_q (q_mv (.func _ _ _) rfl) ?_
     refine t_callv Try.call117 rfl (rnum_no (v := 2) (m := 64) (n := 18446744073709551615) (by decide) hS (by repeat first|exact .here _ _|assumption|apply Pick.there)) rfl ?_
     rintro e w ⟨rfl, hS⟩
     refine ⟨_, rfl, ?_⟩
     refine t_q (q_fieldAddr 10 Try.runUnderlying114 rfl Try.sizeOf43 (by decide) rfl rfl) ?_
     refine t_store (v := (.int _ _)) Try.sizeOf43 hS (by repeat first|exact .here _ _|assumption|apply Pick.there) rfl rfl rfl rfl rfl rfl (fun w hS => ?_)
     replace hS := hS.recast (show blkA g7 114 _ = blkA g7 114 [.int .i64 6, .int .i64 1, .int .i64 0, .int .u64 3, .int .u64 9, .int .u64 0, .int .u64 0, .bool false, .slice none 0 0, .slice none 0 0, .int .u64 0, .int .u64 0, .slice none 0 0] from rfl)
     refine t_q (q_fieldAddr 11 Try.runUnderlying114 rfl Try.sizeOf43 (by decide) rfl rfl) ?_
     refine t_store (v := (.int _ _)) Try.sizeOf43 hS (by repeat first|exact .here _ _|assumption|apply Pick.there) rfl rfl rfl rfl rfl rfl (fun w hS => ?_)
     replace hS := hS.recast (show blkA g7 114 _ = blkA g7 114 [.int .i64 6, .int .i64 1, .int .i64 0, .int .u64 3, .int .u64 9, .int .u64 0, .int .u64 0, .bool false, .slice none 0 0, .slice none 0 0, .int .u64 0, .int .u64 0, .slice none 0 0] from rfl)
     refine t_nil ?_
     refine c_seq ?_
     refine c_seq ?_
     refine c_region ?_
     refine t_q (q_load1 Try.isAgg3 rfl (hS.cell (by repeat first|exact .here _ _|assumption|apply Pick.there) rfl)) ?_
     refine t_q (q_cast (v' := .int .i64 0) (q_and rfl rfl) (by rfl)) ?_
     refine t_q (q_neq rfl rfl) ?_
     refine t_nil ?_
     refine c_cond_f rfl rfl ?_
     refine c_skip ?_
     refine c_seq ?_
     refine c_seq ?_
     refine c_region ?_
     refine t_q (q_load1 Try.isAgg150 rfl (hS.cell (by repeat first|exact .here _ _|assumption|apply Pick.there) rfl)) ?_
     refine t_call Try.call83 (rEnd hS (by repeat first|exact .here _ _|assumption|apply Pick.there)) rfl ?_
     rintro e w ⟨rfl, hS⟩
     refine ⟨_, rfl, ?_⟩
     have hS : St W w (_ :: _) := hS0.lift hS
     refine t_q (q_cast (v' := .bool false) (q_neq rfl rfl) (by rfl)) ?_
     refine t_q (q_mv (.bool _) rfl) ?_
     refine t_yes rfl rfl rfl ?_
     refine t_q (q_cast (v' := .agg tT.cells.toArray) (q_load_blk Try.isAgg114 Try.sizeOf114 rfl (hS.blk (by repeat first|exact .here _ _|assumption|apply Pick.there)) rfl) (by rfl)) ?_
     refine t_yes rfl rfl rfl ?_
     refine t_call Try.call59 (wsound_calls (x := tT) tT_gd) rfl ?_
     rintro e w ⟨rfl, hT⟩
     refine ⟨_, rfl, ?_⟩
     replace hS := hS.after hT
     rw [tT_sound]
     refine t_yes rfl rfl rfl ?_
     refine t_q (q_cast (v' := .bool false) (q_not rfl) (by rfl)) ?_
     refine t_q (q_pick_f rfl rfl) ?_
     refine t_nil ?_
     refine c_cond_f rfl rfl ?_
     refine c_skip ?_
     refine c_seq ?_
     refine c_region ?_
     refine t_q (q_load_blk Try.isAgg114 Try.sizeOf114 rfl (hS.blk (by repeat first|exact .here _ _|assumption|apply Pick.there)) rfl) ?_
     refine t_store (v := (.agg _)) Try.sizeOf114 hS (by repeat first|exact .here _ _|assumption|apply Pick.there) rfl rfl rfl rfl rfl rfl (fun w hS => ?_)
     refine t_q (q_assign) ?_
     refine t_nil ?_
     refine c_ret ?_
     refine r_two rfl (res1_cellN Try.isAgg114 Try.sizeOf114 rfl (hS.blk (by repeat first|exact .here _ _|assumption|apply Pick.there)) rfl) rfl ?_
     exact ⟨rfl, hS.nil⟩
  ·
   refine t_alloc Try.zeroValue114 rfl hS (fun g7 w hS => ?_)
   refine t_nil ?_
   refine ⟨.inr ⟨_, hS.pick (by repeat first|exact .here _ _|assumption|apply Pick.there)⟩, ?_⟩
   refine p_one 4 rfl (by kernel_rfl) ?_
   refine t_call Try.call82 (rNat_enc (n := 1) (rest := enc 0 ++ (enc 3 ++ enc 9)) (b := false) (most := 15) hS (by repeat first|exact .here _ _|assumption|apply Pick.there) (by decide) (by decide) (by decide)) rfl ?_
   rintro e w ⟨rfl, hS⟩
   refine ⟨_, rfl, ?_⟩
   refine t_nil ?_
   refine ⟨.inr ⟨_, hS.pick (by repeat first|exact .here _ _|assumption|apply Pick.there)⟩, ?_⟩
   refine p_q hap hsel 5 rfl rfl ⟨_, hS.pick (by repeat first|exact .here _ _|assumption|apply Pick.there)⟩ (fun w hI => q_conv_i64 Try.runUnderlying43 Try.runUnderlying3 rfl (by omega)) ?_
   refine p_one 7 rfl (by kernel_rfl) ?_
   refine t_call Try.call82 (rNat_enc (n := 0) (rest := enc 3 ++ enc 9) (b := false) (most := 15) hS (by repeat first|exact .here _ _|assumption|apply Pick.there) (by decide) (by decide) (by decide)) rfl ?_
   rintro e w ⟨rfl, hS⟩
   refine ⟨_, rfl, ?_⟩
   refine t_nil ?_
   refine ⟨.inr ⟨_, hS.pick (by repeat first|exact .here _ _|assumption|apply Pick.there)⟩, ?_⟩
   refine p_q hap hsel 8 rfl rfl ⟨_, hS.pick (by repeat first|exact .here _ _|assumption|apply Pick.there)⟩ (fun w hI => q_conv_i64 Try.runUnderlying43 Try.runUnderlying3 rfl (by omega)) ?_
   refine p_one 10 rfl (by kernel_rfl) ?_
   refine t_call Try.call82 (rNat_enc (n := 3) (rest := enc 9) (b := false) (most := 4611686018427387904) hS (by repeat first|exact .here _ _|assumption|apply Pick.there) (by decide) (by decide) (by decide)) rfl ?_
   rintro e w ⟨rfl, hS⟩
   refine ⟨_, rfl, ?_⟩
   refine t_nil ?_
   refine ⟨.inr ⟨_, hS.pick (by repeat first|exact .here _ _|assumption|apply Pick.there)⟩, ?_⟩
   refine p_q hap hsel 11 rfl rfl ⟨_, hS.pick (by repeat first|exact .here _ _|assumption|apply Pick.there)⟩ (fun w hI => q_build (qs := [(0, 1), (1, 1), (2, 1), (3, 1), (4, 1), (5, 1), (6, 1), (7, 1), (8, 1), (9, 1), (10, 1), (11, 1), (12, 1)]) [(.int _ _), (.int _ _), (.int _ _), (.int _ _), (.int _ _), (.int _ _), (.int _ _), (.bool _), (.slice _ _ _), (.slice _ _ _), (.int _ _), (.int _ _), (.slice _ _ _)] Try.zeroValue114 Try.runUnderlying114 ⟨rfl, Try.sizeOf3, rfl, Try.sizeOf3, rfl, Try.sizeOf3, rfl, Try.sizeOf43, rfl, Try.sizeOf43, rfl, Try.sizeOf43, rfl, Try.sizeOf43, rfl, Try.sizeOf4, rfl, Try.sizeOf111, rfl, Try.sizeOf25, rfl, Try.sizeOf43, rfl, Try.sizeOf43, rfl, Try.sizeOf112, trivial⟩ rfl rfl) ?_
   refine p_one 13 rfl (by kernel_rfl) ?_
   refine t_store (v := (.agg _)) Try.sizeOf114 hS (by repeat first|exact .here _ _|assumption|apply Pick.there) rfl rfl rfl rfl rfl rfl (fun w hS => ?_)
   replace hS := hS.recast (show blkA g7 114 _ = blkA g7 114 [.int .i64 6, .int .i64 1, .int .i64 0, .int .u64 3, .int .u64 0, .int .u64 0, .int .u64 0, .bool false, .slice none 0 0, .slice none 0 0, .int .u64 0, .int .u64 0, .slice none 0 0] from rfl)
   refine t_nil ?_
   refine ⟨.inl (by kernel_rfl), ?_⟩
   refine p_end (by kernel_rfl) ?_
   refine c_seq ?_
   refine c_region ?_
   refine t_q (q_fieldAddr 0 Try.runUnderlying114 rfl Try.sizeOf3 (by decide) rfl rfl) ?_
   refine t_q (q_cast (v' := .int .i64 6) (q_load1 Try.isAgg3 rfl (hS.cell (by repeat first|exact .here _ _|assumption|apply Pick.there) rfl)) (by rfl)) ?_
   refine t_call Try.call102 (fields_6) rfl ?_
   rintro e w ⟨rfl, hT⟩
   refine ⟨_, rfl, ?_⟩
   replace hS := hS.after hT
   refine t_alloc Try.zeroValue3 rfl hS (fun g8 w hS => ?_)
   refine t_store (v := (.int _ _)) Try.sizeOf3 hS (by repeat first|exact .here _ _|assumption|apply Pick.there) rfl rfl rfl rfl rfl rfl (fun w hS => ?_)
   replace hS := hS.recast (show blkA g8 3 _ = blkA g8 3 [.int .i64 2] from rfl)
   refine t_nil ?_
   refine c_seq ?_
   refine c_region ?_
   refine t_q (q_makeFunc rfl) ?_
   refine t_q (q_as (.func _ _ _) rfl) ?_
   refine t_nil ?_
   refine c_seq ?_
   refine c_region ?_
   refine t_q (q_mv (.func _ _ _) rfl) ?_
   refine t_callv Try.call117 rfl (rnum_no (v := 2) (m := 1) (n := 1) (by decide) hS (by repeat first|exact .here _ _|assumption|apply Pick.there)) rfl ?_
   rintro e w ⟨rfl, hS⟩
   refine ⟨_, rfl, ?_⟩
   refine t_q (q_cast (v' := .bool false) (q_eql rfl rfl) (by rfl)) ?_
   refine t_q (q_fieldAddr 7 Try.runUnderlying114 rfl Try.sizeOf4 (by decide) rfl rfl) ?_
   refine t_store (v := (.bool _)) Try.sizeOf4 hS (by repeat first|exact .here _ _|assumption|apply Pick.there) rfl rfl rfl rfl rfl rfl (fun w hS => ?_)
   replace hS := hS.recast (show blkA g7 114 _ = blkA g7 114 [.int .i64 6, .int .i64 1, .int .i64 0, .int .u64 3, .int .u64 0, .int .u64 0, .int .u64 0, .bool false, .slice none 0 0, .slice none 0 0, .int .u64 0, .int .u64 0, .slice none 0 0] from rfl)
   refine t_nil ?_
   refine c_seq ?_
   refine c_region ?_
   refine t_q (q_mv (.func _ _ _) rfl) ?_
   refine t_callv Try.call117 rfl (rnum_yes (v := 2) (m := 2) (most := 4611686018427387904) (n := 9) (rest := []) (b := false) (by decide) ((((((hS.pick (A := rdrA w1 197 g19 ⟨enc 9, false⟩) (by repeat first|exact .here _ _|assumption|apply Pick.there)).recast (show _ = rdrA w1 197 g19 ⟨enc 9 ++ [], false⟩ from by rw [List.append_nil])).pick (A := blkA g8 3 [.int .i64 2]) (by repeat first|exact .here _ _|assumption|apply Pick.there)).pick (A := blkA g6 150 [.pointer (some ⟨g19, 0, none⟩)]) (by repeat first|exact .here _ _|assumption|apply Pick.there)).pick (A := rdrA w1 197 g19 ⟨enc 9 ++ [], false⟩) (by repeat first|exact .here _ _|assumption|apply Pick.there))) (by decide) (by decide)) rfl ?_
   rintro e w ⟨rfl, hS⟩
   refine ⟨_, rfl, ?_⟩
   refine t_q (q_mv (.func _ _ _) rfl) ?_
   refine t_callv Try.call117 rfl (rnum_no (v := 2) (m := 4) (n := 4611686018427387904) (by decide) hS (by repeat first|exact .here _ _|assumption|apply Pick.there)) rfl ?_
   rintro e w ⟨rfl, hS⟩
   refine ⟨_, rfl, ?_⟩
   refine t_q (q_mv (.func _ _ _) rfl) ?_
   refine t_callv Try.call117 rfl (rnum_no (v := 2) (m := 8) (n := 4611686018427387904) (by decide) hS (by repeat first|exact .here _ _|assumption|apply Pick.there)) rfl ?_
   rintro e w ⟨rfl, hS⟩
   refine ⟨_, rfl, ?_⟩
   refine t_q (q_fieldAddr 4 Try.runUnderlying114 rfl Try.sizeOf43 (by decide) rfl rfl) ?_
   refine t_store (v := (.int _ _)) Try.sizeOf43 hS (by repeat first|exact .here _ _|assumption|apply Pick.there) rfl rfl rfl rfl rfl rfl (fun w hS => ?_)
   replace hS := hS.recast (show blkA g7 114 _ = blkA g7 114 [.int .i64 6, .int .i64 1, .int .i64 0, .int .u64 3, .int .u64 9, .int .u64 0, .int .u64 0, .bool false, .slice none 0 0, .slice none 0 0, .int .u64 0, .int .u64 0, .slice none 0 0] from rfl)
   refine t_q (q_fieldAddr 5 Try.runUnderlying114 rfl Try.sizeOf43 (by decide) rfl rfl) ?_
   refine t_store (v := (.int _ _)) Try.sizeOf43 hS (by repeat first|exact .here _ _|assumption|apply Pick.there) rfl rfl rfl rfl rfl rfl (fun w hS => ?_)
   replace hS := hS.recast (show blkA g7 114 _ = blkA g7 114 [.int .i64 6, .int .i64 1, .int .i64 0, .int .u64 3, .int .u64 9, .int .u64 0, .int .u64 0, .bool false, .slice none 0 0, .slice none 0 0, .int .u64 0, .int .u64 0, .slice none 0 0] from rfl)
   refine t_q (q_fieldAddr 6 Try.runUnderlying114 rfl Try.sizeOf43 (by decide) rfl rfl) ?_
   refine t_store (v := (.int _ _)) Try.sizeOf43 hS (by repeat first|exact .here _ _|assumption|apply Pick.there) rfl rfl rfl rfl rfl rfl (fun w hS => ?_)
   replace hS := hS.recast (show blkA g7 114 _ = blkA g7 114 [.int .i64 6, .int .i64 1, .int .i64 0, .int .u64 3, .int .u64 9, .int .u64 0, .int .u64 0, .bool false, .slice none 0 0, .slice none 0 0, .int .u64 0, .int .u64 0, .slice none 0 0] from rfl)
   refine t_nil ?_
   refine c_seq ?_
   refine c_seq ?_
   refine c_region ?_
   refine t_q (q_mv (.func _ _ _) rfl) ?_
   refine t_callv Try.call117 rfl (rnum_no (v := 2) (m := 16) (n := 32) (by decide) hS (by repeat first|exact .here _ _|assumption|apply Pick.there)) rfl ?_
   rintro e w ⟨rfl, hS⟩
   refine ⟨_, rfl, ?_⟩
   refine t_q (q_move) ?_
   refine t_nil ?_
   refine c_block ?_
   refine c_loop [51, 52, 53, 54, 55, 56, 57, 58, 59, 60, 61, 62, 63, 64, 65, 66] (fun k σ w => σ 51 = .int .u64 0 ∧ St w1 w [rdrA w1 197 g19 ⟨[], false⟩, blkA g6 150 [.pointer (some ⟨g19, 0, none⟩)], blkA g8 3 [.int .i64 2], blkA g7 114 [.int .i64 6, .int .i64 1, .int .i64 0, .int .u64 3, .int .u64 9, .int .u64 0, .int .u64 0, .bool false, .slice none 0 0, .slice none 0 0, .int .u64 0, .int .u64 0, .slice none 0 0]]) (0) rfl (⟨rfl, (((((hS.pick (A := blkA g7 114 _) (by repeat first|exact .here _ _|assumption|apply Pick.there)).pick (A := blkA g8 3 [.int .i64 2]) (by repeat first|exact .here _ _|assumption|apply Pick.there)).pick (A := blkA g6 150 [.pointer (some ⟨g19, 0, none⟩)]) (by repeat first|exact .here _ _|assumption|apply Pick.there)).pick (A := rdrA w1 197 g19 ⟨[], false⟩) (by repeat first|exact .here _ _|assumption|apply Pick.there)))⟩) ?_
   skip
   rintro k σ w ⟨h51, hS⟩
   refine c_know 51 h51 ?_
   clear h51
   refine c_seq ?_
   refine c_region ?_
   refine t_q (q_lss rfl rfl) ?_
   refine t_nil ?_
   refine c_seq ?_
   refine c_cond rfl ?_ ?_
   ·
    intro hc71
    have hc71d := of_decide_eq_true hc71
    exfalso; omega
   ·
    intro hc71
    have hc71d := of_decide_eq_false hc71
    refine c_exit ?_
    refine ite_t rfl ?_
    refine c_seq ?_
    refine c_seq ?_
    refine c_region ?_
    refine t_q (q_load1 Try.isAgg3 rfl (hS.cell (by repeat first|exact .here _ _|assumption|apply Pick.there) rfl)) ?_
    refine t_q (q_cast (v' := .int .i64 0) (q_and rfl rfl) (by rfl)) ?_
    refine t_q (q_neq rfl rfl) ?_
    refine t_nil ?_
    refine c_cond_f rfl rfl ?_
    refine c_skip ?_
    refine c_seq ?_
    refine c_region ?_
    refine t_q (q_mv (.func _ _ _) rfl) ?_
    refine t_callv Try.call117 rfl (rnum_no (v := 2) (m := 64) (n := 8) (by decide) hS (by repeat first|exact .here _ _|assumption|apply Pick.there)) rfl ?_
    rintro e w ⟨rfl, hS⟩
    refine ⟨_, rfl, ?_⟩
    refine t_q (q_mv (.func _ _ _) rfl) ?_
    refine t_callv Try.call117 rfl (rnum_no (v := 2) (m := 64) (n := 18446744073709551615) (by decide) hS (by repeat first|exact .here _ _|assumption|apply Pick.there)) rfl ?_
    rintro e w ⟨rfl, hS⟩
    refine ⟨_, rfl, ?_⟩
    refine t_q (q_fieldAddr 10 Try.runUnderlying114 rfl Try.sizeOf43 (by decide) rfl rfl) ?_
    refine t_store (v := (.int _ _)) Try.sizeOf43 hS (by repeat first|exact .here _ _|assumption|apply Pick.there) rfl rfl rfl rfl rfl rfl (fun w hS => ?_)
    replace hS := hS.recast (show blkA g7 114 _ = blkA g7 114 [.int .i64 6, .int .i64 1, .int .i64 0, .int .u64 3, .int .u64 9, .int .u64 0, .int .u64 0, .bool false, .slice none 0 0, .slice none 0 0, .int .u64 0, .int .u64 0, .slice none 0 0] from rfl)
    refine t_q (q_fieldAddr 11 Try.runUnderlying114 rfl Try.sizeOf43 (by decide) rfl rfl) ?_
    refine t_store (v := (.int _ _)) Try.sizeOf43 hS (by repeat first|exact .here _ _|assumption|apply Pick.there) rfl rfl rfl rfl rfl rfl (fun w hS => ?_)
    replace hS := hS.recast (show blkA g7 114 _ = blkA g7 114 [.int .i64 6, .int .i64 1, .int .i64 0, .int .u64 3, .int .u64 9, .int .u64 0, .int .u64 0, .bool false, .slice none 0 0, .slice none 0 0, .int .u64 0, .int .u64 0, .slice none 0 0] from rfl)
    refine t_nil ?_
    refine c_seq ?_
    refine c_seq ?_
    refine c_region ?_
    refine t_q (q_load1 Try.isAgg3 rfl (hS.cell (by repeat first|exact .here _ _|assumption|apply Pick.there) rfl)) ?_
    refine t_q (q_cast (v' := .int .i64 0) (q_and rfl rfl) (by rfl)) ?_
    refine t_q (q_neq rfl rfl) ?_
    refine t_nil ?_
    refine c_cond_f rfl rfl ?_
    refine c_skip ?_
    refine c_seq ?_
    refine c_seq ?_
    refine c_region ?_
    refine t_q (q_load1 Try.isAgg150 rfl (hS.cell (by repeat first|exact .here _ _|assumption|apply Pick.there) rfl)) ?_
    refine t_call Try.call83 (rEnd hS (by repeat first|exact .here _ _|assumption|apply Pick.there)) rfl ?_
    rintro e w ⟨rfl, hS⟩
    refine ⟨_, rfl, ?_⟩
    have hS : St W w (_ :: _) := hS0.lift hS
    refine t_q (q_cast (v' := .bool false) (q_neq rfl rfl) (by rfl)) ?_
    refine t_q (q_mv (.bool _) rfl) ?_
    refine t_yes rfl rfl rfl ?_
    refine t_q (q_cast (v' := .agg tT.cells.toArray) (q_load_blk Try.isAgg114 Try.sizeOf114 rfl (hS.blk (by repeat first|exact .here _ _|assumption|apply Pick.there)) rfl) (by rfl)) ?_
    refine t_yes rfl rfl rfl ?_
    refine t_call Try.call59 (wsound_calls (x := tT) tT_gd) rfl ?_
    rintro e w ⟨rfl, hT⟩
    refine ⟨_, rfl, ?_⟩
    replace hS := hS.after hT
    rw [tT_sound]
    refine t_yes rfl rfl rfl ?_
    refine t_q (q_cast (v' := .bool false) (q_not rfl) (by rfl)) ?_
    refine t_q (q_pick_f rfl rfl) ?_
    refine t_nil ?_
    refine c_cond_f rfl rfl ?_
    refine c_skip ?_
    refine c_seq ?_
    refine c_region ?_
    refine t_q (q_load_blk Try.isAgg114 Try.sizeOf114 rfl (hS.blk (by repeat first|exact .here _ _|assumption|apply Pick.there)) rfl) ?_
    refine t_store (v := (.agg _)) Try.sizeOf114 hS (by repeat first|exact .here _ _|assumption|apply Pick.there) rfl rfl rfl rfl rfl rfl (fun w hS => ?_)
    refine t_q (q_assign) ?_
    refine t_nil ?_
    refine c_ret ?_
    refine r_two rfl (res1_cellN Try.isAgg114 Try.sizeOf114 rfl (hS.blk (by repeat first|exact .here _ _|assumption|apply Pick.there)) rfl) rfl ?_
    exact ⟨rfl, hS.nil⟩
 ·
  refine t_alloc Try.zeroValue114 rfl hS (fun g7 w hS => ?_)
  refine t_nil ?_
  refine ⟨.inr ⟨_, hS.pick (by repeat first|exact .here _ _|assumption|apply Pick.there)⟩, ?_⟩
  refine p_one 1 rfl (by kernel_rfl) ?_
  refine t_call Try.call82 (rNat_enc (n := 6) (rest := enc 1 ++ (enc 0 ++ (enc 3 ++ enc 9))) (b := false) (most := 8) hS (by repeat first|exact .here _ _|assumption|apply Pick.there) (by decide) (by decide) (by decide)) rfl ?_
  rintro e w ⟨rfl, hS⟩
  refine ⟨_, rfl, ?_⟩
  refine t_nil ?_
  refine ⟨.inr ⟨_, hS.pick (by repeat first|exact .here _ _|assumption|apply Pick.there)⟩, ?_⟩
  refine p_q hap hsel 2 rfl rfl ⟨_, hS.pick (by repeat first|exact .here _ _|assumption|apply Pick.there)⟩ (fun w hI => q_conv_i64 Try.runUnderlying43 Try.runUnderlying3 rfl (by omega)) ?_
  refine p_one 4 rfl (by kernel_rfl) ?_
  refine t_call Try.call82 (rNat_enc (n := 1) (rest := enc 0 ++ (enc 3 ++ enc 9)) (b := false) (most := 15) hS (by repeat first|exact .here _ _|assumption|apply Pick.there) (by decide) (by decide) (by decide)) rfl ?_
  rintro e w ⟨rfl, hS⟩
  refine ⟨_, rfl, ?_⟩
  refine t_nil ?_
  refine ⟨.inr ⟨_, hS.pick (by repeat first|exact .here _ _|assumption|apply Pick.there)⟩, ?_⟩
  refine p_q hap hsel 5 rfl rfl ⟨_, hS.pick (by repeat first|exact .here _ _|assumption|apply Pick.there)⟩ (fun w hI => q_conv_i64 Try.runUnderlying43 Try.runUnderlying3 rfl (by omega)) ?_
  refine p_one 7 rfl (by kernel_rfl) ?_
  refine t_call Try.call82 (rNat_enc (n := 0) (rest := enc 3 ++ enc 9) (b := false) (most := 15) hS (by repeat first|exact .here _ _|assumption|apply Pick.there) (by decide) (by decide) (by decide)) rfl ?_
  rintro e w ⟨rfl, hS⟩
  refine ⟨_, rfl, ?_⟩
  refine t_nil ?_
  refine ⟨.inr ⟨_, hS.pick (by repeat first|exact .here _ _|assumption|apply Pick.there)⟩, ?_⟩
  refine p_q hap hsel 8 rfl rfl ⟨_, hS.pick (by repeat first|exact .here _ _|assumption|apply Pick.there)⟩ (fun w hI => q_conv_i64 Try.runUnderlying43 Try.runUnderlying3 rfl (by omega)) ?_
  refine p_one 10 rfl (by kernel_rfl) ?_
  refine t_call Try.call82 (rNat_enc (n := 3) (rest := enc 9) (b := false) (most := 4611686018427387904) hS (by repeat first|exact .here _ _|assumption|apply Pick.there) (by decide) (by decide) (by decide)) rfl ?_
  rintro e w ⟨rfl, hS⟩
  refine ⟨_, rfl, ?_⟩
  refine t_nil ?_
  refine ⟨.inr ⟨_, hS.pick (by repeat first|exact .here _ _|assumption|apply Pick.there)⟩, ?_⟩
  refine p_q hap hsel 11 rfl rfl ⟨_, hS.pick (by repeat first|exact .here _ _|assumption|apply Pick.there)⟩ (fun w hI => q_build (qs := [(0, 1), (1, 1), (2, 1), (3, 1), (4, 1), (5, 1), (6, 1), (7, 1), (8, 1), (9, 1), (10, 1), (11, 1), (12, 1)]) [(.int _ _), (.int _ _), (.int _ _), (.int _ _), (.int _ _), (.int _ _), (.int _ _), (.bool _), (.slice _ _ _), (.slice _ _ _), (.int _ _), (.int _ _), (.slice _ _ _)] Try.zeroValue114 Try.runUnderlying114 ⟨rfl, Try.sizeOf3, rfl, Try.sizeOf3, rfl, Try.sizeOf3, rfl, Try.sizeOf43, rfl, Try.sizeOf43, rfl, Try.sizeOf43, rfl, Try.sizeOf43, rfl, Try.sizeOf4, rfl, Try.sizeOf111, rfl, Try.sizeOf25, rfl, Try.sizeOf43, rfl, Try.sizeOf43, rfl, Try.sizeOf112, trivial⟩ rfl rfl) ?_
  refine p_one 13 rfl (by kernel_rfl) ?_
  refine t_store (v := (.agg _)) Try.sizeOf114 hS (by repeat first|exact .here _ _|assumption|apply Pick.there) rfl rfl rfl rfl rfl rfl (fun w hS => ?_)
  replace hS := hS.recast (show blkA g7 114 _ = blkA g7 114 [.int .i64 6, .int .i64 1, .int .i64 0, .int .u64 3, .int .u64 0, .int .u64 0, .int .u64 0, .bool false, .slice none 0 0, .slice none 0 0, .int .u64 0, .int .u64 0, .slice none 0 0] from rfl)
  refine t_nil ?_
  refine ⟨.inl (by kernel_rfl), ?_⟩
  refine p_end (by kernel_rfl) ?_
  refine c_seq ?_
  refine c_region ?_
  refine t_q (q_fieldAddr 0 Try.runUnderlying114 rfl Try.sizeOf3 (by decide) rfl rfl) ?_
  refine t_q (q_cast (v' := .int .i64 6) (q_load1 Try.isAgg3 rfl (hS.cell (by repeat first|exact .here _ _|assumption|apply Pick.there) rfl)) (by rfl)) ?_
  refine t_call Try.call102 (fields_6) rfl ?_
  rintro e w ⟨rfl, hT⟩
  refine ⟨_, rfl, ?_⟩
  replace hS := hS.after hT
  refine t_alloc Try.zeroValue3 rfl hS (fun g8 w hS => ?_)
  refine t_store (v := (.int _ _)) Try.sizeOf3 hS (by repeat first|exact .here _ _|assumption|apply Pick.there) rfl rfl rfl rfl rfl rfl (fun w hS => ?_)
  replace hS := hS.recast (show blkA g8 3 _ = blkA g8 3 [.int .i64 2] from rfl)
  refine t_nil ?_
  refine c_seq ?_
  refine c_region ?_
  refine t_q (q_makeFunc rfl) ?_
  refine t_q (q_as (.func _ _ _) rfl) ?_
  refine t_nil ?_
  refine c_seq ?_
  refine c_region ?_
  refine t_q (q_mv (.func _ _ _) rfl) ?_
  refine t_callv Try.call117 rfl (rnum_no (v := 2) (m := 1) (n := 1) (by decide) hS (by repeat first|exact .here _ _|assumption|apply Pick.there)) rfl ?_
  rintro e w ⟨rfl, hS⟩
  refine ⟨_, rfl, ?_⟩
  refine t_q (q_cast (v' := .bool false) (q_eql rfl rfl) (by rfl)) ?_
  refine t_q (q_fieldAddr 7 Try.runUnderlying114 rfl Try.sizeOf4 (by decide) rfl rfl) ?_
  refine t_store (v := (.bool _)) Try.sizeOf4 hS (by repeat first|exact .here _ _|assumption|apply Pick.there) rfl rfl rfl rfl rfl rfl (fun w hS => ?_)
  replace hS := hS.recast (show blkA g7 114 _ = blkA g7 114 [.int .i64 6, .int .i64 1, .int .i64 0, .int .u64 3, .int .u64 0, .int .u64 0, .int .u64 0, .bool false, .slice none 0 0, .slice none 0 0, .int .u64 0, .int .u64 0, .slice none 0 0] from rfl)
  refine t_nil ?_
  refine c_seq ?_
  refine c_region ?_
  refine t_q (q_mv (.func _ _ _) rfl) ?_
  refine t_callv Try.call117 rfl (rnum_yes (v := 2) (m := 2) (most := 4611686018427387904) (n := 9) (rest := []) (b := false) (by decide) ((((((hS.pick (A := rdrA w1 197 g19 ⟨enc 9, false⟩) (by repeat first|exact .here _ _|assumption|apply Pick.there)).recast (show _ = rdrA w1 197 g19 ⟨enc 9 ++ [], false⟩ from by rw [List.append_nil])).pick (A := blkA g8 3 [.int .i64 2]) (by repeat first|exact .here _ _|assumption|apply Pick.there)).pick (A := blkA g6 150 [.pointer (some ⟨g19, 0, none⟩)]) (by repeat first|exact .here _ _|assumption|apply Pick.there)).pick (A := rdrA w1 197 g19 ⟨enc 9 ++ [], false⟩) (by repeat first|exact .here _ _|assumption|apply Pick.there))) (by decide) (by decide)) rfl ?_
  rintro e w ⟨rfl, hS⟩
  refine ⟨_, rfl, ?_⟩
  refine t_q (q_mv (.func _ _ _) rfl) ?_
  refine t_callv Try.call117 rfl (rnum_no (v := 2) (m := 4) (n := 4611686018427387904) (by decide) hS (by repeat first|exact .here _ _|assumption|apply Pick.there)) rfl ?_
  rintro e w ⟨rfl, hS⟩
  refine ⟨_, rfl, ?_⟩
  refine t_q (q_mv (.func _ _ _) rfl) ?_
  refine t_callv Try.call117 rfl (rnum_no (v := 2) (m := 8) (n := 4611686018427387904) (by decide) hS (by repeat first|exact .here _ _|assumption|apply Pick.there)) rfl ?_
  rintro e w ⟨rfl, hS⟩
  refine ⟨_, rfl, ?_⟩
  refine t_q (q_fieldAddr 4 Try.runUnderlying114 rfl Try.sizeOf43 (by decide) rfl rfl) ?_
  refine t_store (v := (.int _ _)) Try.sizeOf43 hS (by repeat first|exact .here _ _|assumption|apply Pick.there) rfl rfl rfl rfl rfl rfl (fun w hS => ?_)
  replace hS := hS.recast (show blkA g7 114 _ = blkA g7 114 [.int .i64 6, .int .i64 1, .int .i64 0, .int .u64 3, .int .u64 9, .int .u64 0, .int .u64 0, .bool false, .slice none 0 0, .slice none 0 0, .int .u64 0, .int .u64 0, .slice none 0 0] from rfl)
  refine t_q (q_fieldAddr 5 Try.runUnderlying114 rfl Try.sizeOf43 (by decide) rfl rfl) ?_
  refine t_store (v := (.int _ _)) Try.sizeOf43 hS (by repeat first|exact .here _ _|assumption|apply Pick.there) rfl rfl rfl rfl rfl rfl (fun w hS => ?_)
  replace hS := hS.recast (show blkA g7 114 _ = blkA g7 114 [.int .i64 6, .int .i64 1, .int .i64 0, .int .u64 3, .int .u64 9, .int .u64 0, .int .u64 0, .bool false, .slice none 0 0, .slice none 0 0, .int .u64 0, .int .u64 0, .slice none 0 0] from rfl)
  refine t_q (q_fieldAddr 6 Try.runUnderlying114 rfl Try.sizeOf43 (by decide) rfl rfl) ?_
  refine t_store (v := (.int _ _)) Try.sizeOf43 hS (by repeat first|exact .here _ _|assumption|apply Pick.there) rfl rfl rfl rfl rfl rfl (fun w hS => ?_)
  replace hS := hS.recast (show blkA g7 114 _ = blkA g7 114 [.int .i64 6, .int .i64 1, .int .i64 0, .int .u64 3, .int .u64 9, .int .u64 0, .int .u64 0, .bool false, .slice none 0 0, .slice none 0 0, .int .u64 0, .int .u64 0, .slice none 0 0] from rfl)
  refine t_nil ?_
  refine c_seq ?_
  refine c_seq ?_
  refine c_region ?_
  refine t_q (q_mv (.func _ _ _) rfl) ?_
  refine t_callv Try.call117 rfl (rnum_no (v := 2) (m := 16) (n := 32) (by decide) hS (by repeat first|exact .here _ _|assumption|apply Pick.there)) rfl ?_
  rintro e w ⟨rfl, hS⟩
  refine ⟨_, rfl, ?_⟩
  refine t_q (q_move) ?_
  refine t_nil ?_
  refine c_block ?_
  refine c_loop [51, 52, 53, 54, 55, 56, 57, 58, 59, 60, 61, 62, 63, 64, 65, 66] (fun k σ w => σ 51 = .int .u64 0 ∧ St w1 w [rdrA w1 197 g19 ⟨[], false⟩, blkA g6 150 [.pointer (some ⟨g19, 0, none⟩)], blkA g8 3 [.int .i64 2], blkA g7 114 [.int .i64 6, .int .i64 1, .int .i64 0, .int .u64 3, .int .u64 9, .int .u64 0, .int .u64 0, .bool false, .slice none 0 0, .slice none 0 0, .int .u64 0, .int .u64 0, .slice none 0 0]]) (0) rfl (⟨rfl, (((((hS.pick (A := blkA g7 114 _) (by repeat first|exact .here _ _|assumption|apply Pick.there)).pick (A := blkA g8 3 [.int .i64 2]) (by repeat first|exact .here _ _|assumption|apply Pick.there)).pick (A := blkA g6 150 [.pointer (some ⟨g19, 0, none⟩)]) (by repeat first|exact .here _ _|assumption|apply Pick.there)).pick (A := rdrA w1 197 g19 ⟨[], false⟩) (by repeat first|exact .here _ _|assumption|apply Pick.there)))⟩) ?_
  skip
  rintro k σ w ⟨h51, hS⟩
  refine c_know 51 h51 ?_
  clear h51
  refine c_seq ?_
  refine c_region ?_
  refine t_q (q_lss rfl rfl) ?_
  refine t_nil ?_
  refine c_seq ?_
  refine c_cond rfl ?_ ?_
  ·
   intro hc91
   have hc91d := of_decide_eq_true hc91
   exfalso; omega
  ·
   intro hc91
   have hc91d := of_decide_eq_false hc91
   refine c_exit ?_
   refine ite_t rfl ?_
   refine c_seq ?_
   refine c_seq ?_
   refine c_region ?_
   refine t_q (q_load1 Try.isAgg3 rfl (hS.cell (by repeat first|exact .here _ _|assumption|apply Pick.there) rfl)) ?_
   refine t_q (q_cast (v' := .int .i64 0) (q_and rfl rfl) (by rfl)) ?_
   refine t_q (q_neq rfl rfl) ?_
   refine t_nil ?_
   refine c_cond_f rfl rfl ?_
   refine c_skip ?_
   refine c_seq ?_
   refine c_region ?_
   refine t_q (q_mv (.func _ _ _) rfl) ?_
   refine t_callv Try.call117 rfl (rnum_no (v := 2) (m := 64) (n := 8) (by decide) hS (by repeat first|exact .here _ _|assumption|apply Pick.there)) rfl ?_
   rintro e w ⟨rfl, hS⟩
   refine ⟨_, rfl, ?_⟩
   refine t_q (q_mv (.func _ _ _) rfl) ?_
   refine t_callv Try.call117 rfl (rnum_no (v := 2) (m := 64) (n := 18446744073709551615) (by decide) hS (by repeat first|exact .here _ _|assumption|apply Pick.there)) rfl ?_
   rintro e w ⟨rfl, hS⟩
   refine ⟨_, rfl, ?_⟩
   refine t_q (q_fieldAddr 10 Try.runUnderlying114 rfl Try.sizeOf43 (by decide) rfl rfl) ?_
   refine t_store (v := (.int _ _)) Try.sizeOf43 hS (by repeat first|exact .here _ _|assumption|apply Pick.there) rfl rfl rfl rfl rfl rfl (fun w hS => ?_)
   replace hS := hS.recast (show blkA g7 114 _ = blkA g7 114 [.int .i64 6, .int .i64 1, .int .i64 0, .int .u64 3, .int .u64 9, .int .u64 0, .int .u64 0, .bool false, .slice none 0 0, .slice none 0 0, .int .u64 0, .int .u64 0, .slice none 0 0] from rfl)
   refine t_q (q_fieldAddr 11 Try.runUnderlying114 rfl Try.sizeOf43 (by decide) rfl rfl) ?_
   refine t_store (v := (.int _ _)) Try.sizeOf43 hS (by repeat first|exact .here _ _|assumption|apply Pick.there) rfl rfl rfl rfl rfl rfl (fun w hS => ?_)
   replace hS := hS.recast (show blkA g7 114 _ = blkA g7 114 [.int .i64 6, .int .i64 1, .int .i64 0, .int .u64 3, .int .u64 9, .int .u64 0, .int .u64 0, .bool false, .slice none 0 0, .slice none 0 0, .int .u64 0, .int .u64 0, .slice none 0 0] from rfl)
   refine t_nil ?_
   refine c_seq ?_
   refine c_seq ?_
   refine c_region ?_
   refine t_q (q_load1 Try.isAgg3 rfl (hS.cell (by repeat first|exact .here _ _|assumption|apply Pick.there) rfl)) ?_
   refine t_q (q_cast (v' := .int .i64 0) (q_and rfl rfl) (by rfl)) ?_
   refine t_q (q_neq rfl rfl) ?_
   refine t_nil ?_
   refine c_cond_f rfl rfl ?_
   refine c_skip ?_
   refine c_seq ?_
   refine c_seq ?_
   refine c_region ?_
   refine t_q (q_load1 Try.isAgg150 rfl (hS.cell (by repeat first|exact .here _ _|assumption|apply Pick.there) rfl)) ?_
   refine t_call Try.call83 (rEnd hS (by repeat first|exact .here _ _|assumption|apply Pick.there)) rfl ?_
   rintro e w ⟨rfl, hS⟩
   refine ⟨_, rfl, ?_⟩
   have hS : St W w (_ :: _) := hS0.lift hS
   refine t_q (q_cast (v' := .bool false) (q_neq rfl rfl) (by rfl)) ?_
   refine t_q (q_mv (.bool _) rfl) ?_
   refine t_yes rfl rfl rfl ?_
   refine t_q (q_cast (v' := .agg tT.cells.toArray) (q_load_blk Try.isAgg114 Try.sizeOf114 rfl (hS.blk (by repeat first|exact .here _ _|assumption|apply Pick.there)) rfl) (by rfl)) ?_
   refine t_yes rfl rfl rfl ?_
   refine t_call Try.call59 (wsound_calls (x := tT) tT_gd) rfl ?_
   rintro e w ⟨rfl, hT⟩
   refine ⟨_, rfl, ?_⟩
   replace hS := hS.after hT
   rw [tT_sound]
   refine t_yes rfl rfl rfl ?_
   refine t_q (q_cast (v' := .bool false) (q_not rfl) (by rfl)) ?_
   refine t_q (q_pick_f rfl rfl) ?_
   refine t_nil ?_
   refine c_cond_f rfl rfl ?_
   refine c_skip ?_
   refine c_seq ?_
   refine c_region ?_
   refine t_q (q_load_blk Try.isAgg114 Try.sizeOf114 rfl (hS.blk (by repeat first|exact .here _ _|assumption|apply Pick.there)) rfl) ?_
   refine t_store (v := (.agg _)) Try.sizeOf114 hS (by repeat first|exact .here _ _|assumption|apply Pick.there) rfl rfl rfl rfl rfl rfl (fun w hS => ?_)
   refine t_q (q_assign) ?_
   refine t_nil ?_
   refine c_ret ?_
   refine r_two rfl (res1_cellN Try.isAgg114 Try.sizeOf114 rfl (hS.blk (by repeat first|exact .here _ _|assumption|apply Pick.there)) rfl) rfl ?_
   exact ⟨rfl, hS.nil⟩
end Go.Proofs.Ytlppgpidakfnlaa
