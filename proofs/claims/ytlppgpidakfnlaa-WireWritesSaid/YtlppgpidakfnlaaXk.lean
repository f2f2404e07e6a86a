/- Messages as bytes: the document's. -/
import Derived.Test.YtlppgpidakfnlaaXh
namespace Go.Proofs.Ytlppgpidakfnlaa
open Go Go.RowKit Go.Lib
variable {W : World}
theorem ents_nil {x : MsgV} (hs : Snd x) (h : hasF (fl x.kind) 8 = false) : x.entries.l = [] := by
  have e : (keepV (fl x.kind) x).entries.l.map EntV.vw = x.entries.l.map EntV.vw := congrArg Mg.ents hs.kept
  have e2 : (keepV (fl x.kind) x).entries.l = [] := by
    show (if hasF (fl x.kind) 8 then x.entries else sl0).l = []
    rw [h]
    rfl
  rw [e2] at e
  exact (List.map_eq_nil_iff.1 e.symm)
theorem take3 {a b c : Int} {j : Nat} (h : j < 3) : ([a, b, c].take (j + 1)).flatMap (fun n => enc n.toNat) = ([a, b, c].take j).flatMap (fun n => enc n.toNat) ++ enc ([a, b, c].getD j 0).toNat := by
  match j, h with
  | 0, _ => simp
  | 1, _ => simp
  | 2, _ => simp
attribute [local irreducible] blkA rowA
set_option maxHeartbeats 1000000 in
set_option maxRecDepth 100000 in
theorem qwbody_1 {x : MsgV} (hx : x.Gd W) (hs : Snd x) (hk : x.kind = 1) (h8 : (wb8 6 x).length ≤ 2000000) : Calls Try.prog 115 #[.agg x.cells.toArray] W fun e w' => ∃ A' m' c', e = .returned (.slice A' m' c') ∧ m' = (wb8 6 x).length ∧ St W w' [rowA 5 1 A' m' c' ((wb8 6 x).map bv)] := by
 have hS := St.init W
 have q0 := hs.kind
 have q1 := hs.frm
 have q2 := hs.to
 have q4 := hx.term
 have q5 := hs.body
 have q6 := hx.index
 have q7 := hx.logTerm
 have q8 := hx.client
 have q9 := hx.req
 have hent := ents_nil hs (by rw [hk]; rfl)
 have eX : (((([x.kind, x.frm, x.to].take 3).flatMap (fun n => enc n.toNat) ++ enc x.term.toNat) ++ enc x.index.toNat) ++ enc x.logTerm.toNat) = wb8 6 x := by
   have e : wb8 6 x = (((wb0 x ++ enc x.index.toNat) ++ enc x.logTerm.toNat) ++ x.entries.l.flatMap entB) := rfl
   rw [e, hent]
   simp [wb0]
 have hX8 := congrArg List.length eX
 simp only [List.length_append] at hX8
 have p1 := enc_ten (n := x.kind.toNat) (by omega)
 have p2 := enc_ten (n := x.frm.toNat) (by omega)
 have p3 := enc_ten (n := x.to.toNat) (by omega)
 refine calls_of_wpE (args := [_]) Try.func115 rfl rfl rfl ?_
 refine c_seq (c_region ?_)
 refine t_box (v := (.agg _)) rfl rfl hS (fun g1 w hS => ?_)
 replace hS := hS.recast (show _ = bmA g1 119 x from rfl)
 refine t_q (q_assign) ?_
 refine t_nil (c_seq (c_region ?_))
 refine t_q (q_assign) ?_
 refine t_nil (c_seq (c_seq (c_region ?_)))
 refine t_q (q_fieldAddr 0 Try.runUnderlying119 rfl Try.sizeOf3 (by decide) rfl rfl) ?_
 refine t_q (q_load1 Try.isAgg3 rfl (hS.cell (by repeat constructor) rfl)) ?_
 refine t_q (q_fieldAddr 1 Try.runUnderlying119 rfl Try.sizeOf3 (by decide) rfl rfl) ?_
 refine t_q (q_load1 Try.isAgg3 rfl (hS.cell (by repeat constructor) rfl)) ?_
 refine t_q (q_fieldAddr 2 Try.runUnderlying119 rfl Try.sizeOf3 (by decide) rfl rfl) ?_
 refine t_q (q_load1 Try.isAgg3 rfl (hS.cell (by repeat constructor) rfl)) ?_
 refine t_build_ints [_, _, _] Try.runUnderlying26 Try.sizeOf3 Try.zeroValue3 rfl rfl (by decide) hS (fun g13 w hS => ?_)
 refine t_q (q_len_slice Try.runUnderlying26 rfl) ?_
 refine t_q (q_move) ?_
 refine t_nil (c_block ?_)
 refine c_loop [3, 5, 15, 16, 17, 18, 19, 20, 21, 22, 23, 24] (fun k σ w => ∃ (j : Nat) (A' : Option Addr) (m c' : Nat), σ 15 = .int .i64 (j : Int) ∧ σ 3 = .slice A' m c' ∧ m = (([x.kind, x.frm, x.to].take j).flatMap (fun n => enc n.toNat)).length ∧ j ≤ 3 ∧ 3 - j ≤ k ∧ St W w [rowA 5 1 A' m c' ((([x.kind, x.frm, x.to].take j).flatMap (fun n => enc n.toNat)).map bv), rowA 3 1 (some ⟨g13, 0, none⟩) 3 3 ([x.kind, x.frm, x.to].map (Value.int .i64)), bmA g1 119 x]) (3) rfl (⟨0, none, 0, 0, rfl, rfl, rfl, by omega, by omega, (((((hS.nilrow 5 1).pick (A := bmA g1 119 x) (by repeat constructor)).pick (A := rowA 3 1 (some ⟨g13, 0, none⟩) _ _ _) (by repeat constructor)).pick (A := rowA 5 1 none 0 0 []) (by repeat constructor)))⟩) ?_
 skip
 rintro k σ w ⟨j, A', m, c', h15, h3, hm, hj, hk2, hS⟩
 refine c_know 15 h15 ?_
 refine c_know 3 h3 ?_
 clear h15 h3
 have hgd : 0 ≤ ([x.kind, x.frm, x.to].getD j 0) ∧ ([x.kind, x.frm, x.to].getD j 0) < 100 := by
   match j, hj with
   | 0, _ => exact ⟨by show 0 ≤ x.kind; omega, by show x.kind < 100; omega⟩
   | 1, _ => exact ⟨q1.1, by show x.frm < 100; omega⟩
   | 2, _ => exact ⟨q2.1, by show x.to < 100; omega⟩
   | 3, _ => exact ⟨(by decide : (0 : Int) ≤ 0), (by decide : (0 : Int) < 100)⟩
 have hmb : m ≤ 30 := by
   rw [hm]
   match j, hj with
   | 0, _ => simp
   | 1, _ => simp; omega
   | 2, _ => simp; omega
   | 3, _ => simp; omega
 refine c_seq (c_region ?_)
 refine t_q (q_lss rfl rfl) ?_
 refine t_nil (c_seq ?_)
 refine c_cond rfl ?_ ?_
 ·
  intro hc2
  have hc2d := of_decide_eq_true hc2
  refine c_skip (c_seq (c_block (c_seq (c_region ?_))))
  first | refine t_index_nat Try.runUnderlying26 Try.sizeOf3 (hS.rowInts (ns := [x.kind, x.frm, x.to]) (by repeat constructor) rfl) rfl rfl (by have : [x.kind, x.frm, x.to].length = 3 := rfl; omega) (fun ad3 hl3 hx3 => ?_) | refine t_index Try.runUnderlying26 Try.sizeOf3 (hS.rowInts (ns := [x.kind, x.frm, x.to]) (by repeat constructor) rfl) rfl rfl (by have : [x.kind, x.frm, x.to].length = 3 := rfl; omega) (fun ad3 hl3 hx3 => ?_)
  refine t_q (q_load1 Try.isAgg3 rfl (hx3 0 _ rfl)) ?_
  refine t_q (q_as (.int _ _) rfl) ?_
  refine t_nil (c_region ?_)
  refine t_q (q_mv (.slice _ _ _) rfl) ?_
  refine t_q (q_mv (.int _ _) rfl) ?_
  first | refine t_q (q_conv_u64 Try.runUnderlying3 Try.runUnderlying43 rfl (by omega)) ?_ | refine t_q (q_convm_u64 Try.runUnderlying3 Try.runUnderlying43 rfl) ?_
  refine t_call Try.call79 (qwNat hS (by omega) (by omega)) rfl ?_
  rintro e w ⟨A22, n22, c22, rfl, hn22, hS⟩
  refine ⟨_, rfl, ?_⟩
  have ht22 := enc_ten (n := ([x.kind, x.frm, x.to].getD j 0).toNat) (by omega)
  refine t_append_own (size := 1) (bytes := 1) Try.underlying25 (info_of Try.type5) rfl rfl rfl rfl (by decide) hS (by repeat constructor) (by repeat constructor) rfl rfl (by first | exact allOne_bv _ | exact allOne_ints _ _ | rfl) (by unfold maxLen; omega) (by omega) (fun A23 c23 w hS => ?_)
  skip
  refine t_q (q_as (.slice _ _ _) rfl) ?_
  refine t_nil (c_region ?_)
  refine t_q (q_add_i64 rfl rfl (by omega)) ?_
  refine t_q (q_mv (.int _ _) rfl) ?_
  refine t_nil ?_
  have h23 := (hS.pick (A := rowA 5 1 A23 _ c23 _) (by repeat constructor)).recast (show _ = rowA 5 1 A23 (m + n22) c23 ((([x.kind, x.frm, x.to].take (j + 1)).flatMap (fun n => enc n.toNat)).map bv) from by rw [take3 (by omega), List.map_append])
  refine ⟨k - 1, by omega, j + 1, A23, _, c23, rfl, rfl, ?_, by omega, by omega, ((((h23.pick (A := bmA g1 119 x) (by repeat constructor)).pick (A := rowA 3 1 (some ⟨g13, 0, none⟩) _ _ _) (by repeat constructor)).pick (A := rowA 5 1 A23 _ c23 _) (by repeat constructor))).front3⟩
  rw [take3 (by omega), List.length_append, hm, hn22]
 ·
  intro hc2
  have hc2d := of_decide_eq_false hc2
  obtain rfl : j = 3 := by omega
  refine c_exit ?_
  refine ite_t rfl ?_
  refine c_seq (c_region ?_)
  refine t_q (q_mv (.slice _ _ _) rfl) ?_
  refine t_q (q_fieldAddr 3 Try.runUnderlying119 rfl Try.sizeOf43 (by decide) rfl rfl) ?_
  refine t_q (q_load1 Try.isAgg43 rfl (hS.cell (by repeat constructor) rfl)) ?_
  refine t_call Try.call79 (qwNat hS (by omega) (by omega)) rfl ?_
  rintro e w ⟨A28, n28, c28, rfl, hn28, hS⟩
  refine ⟨_, rfl, ?_⟩
  have ht28 := enc_ten (n := x.term.toNat) (by omega)
  refine t_append_own (size := 1) (bytes := 1) Try.underlying25 (info_of Try.type5) rfl rfl rfl rfl (by decide) hS (by repeat constructor) (by repeat constructor) rfl rfl (by first | exact allOne_bv _ | exact allOne_ints _ _ | rfl) (by unfold maxLen; omega) (by omega) (fun A29 c29 w hS => ?_)
  replace hS := (hS.pick (A := rowA 5 1 A29 _ c29 _) (by repeat constructor)).recast (show _ = rowA 5 1 A29 (m + n28) c29 (((([x.kind, x.frm, x.to].take 3).flatMap (fun n => enc n.toNat) ++ enc x.term.toNat)).map bv) from by simp only [List.map_append])
  refine t_q (q_as (.slice _ _ _) rfl) ?_
  refine t_nil (c_seq (c_seq (c_region ?_)))
  refine t_q (q_fieldAddr 0 Try.runUnderlying119 rfl Try.sizeOf3 (by decide) rfl rfl) ?_
  refine t_q (q_cast (v' := .int .i64 1) (q_load1 Try.isAgg3 rfl (hS.cell (by repeat constructor) rfl)) (by rw [hk])) ?_
  refine t_nil (c_block (c_seq (c_region ?_)))
  refine t_q (q_eql rfl rfl) ?_
  refine t_q (q_as (.bool _) rfl) ?_
  refine t_nil ?_
  refine c_cond_t rfl rfl ?_
  refine c_seq (c_region ?_)
  refine t_q (q_mv (.slice _ _ _) rfl) ?_
  refine t_q (q_fieldAddr 4 Try.runUnderlying119 rfl Try.sizeOf43 (by decide) rfl rfl) ?_
  refine t_q (q_load1 Try.isAgg43 rfl (hS.cell (by repeat constructor) rfl)) ?_
  refine t_call Try.call79 (qwNat hS (by omega) (by omega)) rfl ?_
  rintro e w ⟨A37, n37, c37, rfl, hn37, hS⟩
  refine ⟨_, rfl, ?_⟩
  have ht37 := enc_ten (n := x.index.toNat) (by omega)
  refine t_append_own (size := 1) (bytes := 1) Try.underlying25 (info_of Try.type5) rfl rfl rfl rfl (by decide) hS (by repeat constructor) (by repeat constructor) rfl rfl (by first | exact allOne_bv _ | exact allOne_ints _ _ | rfl) (by unfold maxLen; omega) (by omega) (fun A38 c38 w hS => ?_)
  replace hS := (hS.pick (A := rowA 5 1 A38 _ c38 _) (by repeat constructor)).recast (show _ = rowA 5 1 A38 ((m + n28) + n37) c38 ((((([x.kind, x.frm, x.to].take 3).flatMap (fun n => enc n.toNat) ++ enc x.term.toNat) ++ enc x.index.toNat)).map bv) from by simp only [List.map_append])
  refine t_q (q_as (.slice _ _ _) rfl) ?_
  refine t_nil (c_region ?_)
  refine t_q (q_mv (.slice _ _ _) rfl) ?_
  refine t_q (q_fieldAddr 5 Try.runUnderlying119 rfl Try.sizeOf43 (by decide) rfl rfl) ?_
  refine t_q (q_load1 Try.isAgg43 rfl (hS.cell (by repeat constructor) rfl)) ?_
  refine t_call Try.call79 (qwNat hS (by omega) (by omega)) rfl ?_
  rintro e w ⟨A42, n42, c42, rfl, hn42, hS⟩
  refine ⟨_, rfl, ?_⟩
  have ht42 := enc_ten (n := x.logTerm.toNat) (by omega)
  refine t_append_own (size := 1) (bytes := 1) Try.underlying25 (info_of Try.type5) rfl rfl rfl rfl (by decide) hS (by repeat constructor) (by repeat constructor) rfl rfl (by first | exact allOne_bv _ | exact allOne_ints _ _ | rfl) (by unfold maxLen; omega) (by omega) (fun A43 c43 w hS => ?_)
  replace hS := (hS.pick (A := rowA 5 1 A43 _ c43 _) (by repeat constructor)).recast (show _ = rowA 5 1 A43 (((m + n28) + n37) + n42) c43 (((((([x.kind, x.frm, x.to].take 3).flatMap (fun n => enc n.toNat) ++ enc x.term.toNat) ++ enc x.index.toNat) ++ enc x.logTerm.toNat)).map bv) from by simp only [List.map_append])
  refine t_q (q_as (.slice _ _ _) rfl) ?_
  refine t_nil (c_seq (c_region ?_))
  refine t_q (q_mv (.slice _ _ _) rfl) ?_
  refine t_q (q_as (.slice _ _ _) rfl) ?_
  refine t_nil (c_ret ?_)
  refine r_one rfl rfl ?_
  have h := (hS.pick (A := rowA 5 1 A43 _ c43 _) (by repeat constructor)).front1
  rw [eX] at h
  exact ⟨A43, _, c43, rfl, by rw [← eX]; simp only [List.length_append]; omega, h⟩
set_option maxHeartbeats 1000000 in
set_option maxRecDepth 100000 in
theorem qwbody_2 {x : MsgV} (hx : x.Gd W) (hs : Snd x) (hk : x.kind = 2) (h8 : (wb8 1 x).length ≤ 2000000) : Calls Try.prog 115 #[.agg x.cells.toArray] W fun e w' => ∃ A' m' c', e = .returned (.slice A' m' c') ∧ m' = (wb8 1 x).length ∧ St W w' [rowA 5 1 A' m' c' ((wb8 1 x).map bv)] := by
 have hS := St.init W
 have q0 := hs.kind
 have q1 := hs.frm
 have q2 := hs.to
 have q4 := hx.term
 have q5 := hs.body
 have q6 := hx.index
 have q7 := hx.logTerm
 have q8 := hx.client
 have q9 := hx.req
 have hent := ents_nil hs (by rw [hk]; rfl)
 have eX : ((([x.kind, x.frm, x.to].take 3).flatMap (fun n => enc n.toNat) ++ enc x.term.toNat) ++ [if x.ok then (1 : UInt8) else 0]) = wb8 1 x := by
   have e : wb8 1 x = ((wb0 x ++ [if x.ok then 1 else 0]) ++ x.entries.l.flatMap entB) := rfl
   rw [e, hent]
   simp [wb0]
 have hX8 := congrArg List.length eX
 simp only [List.length_append] at hX8
 have p1 := enc_ten (n := x.kind.toNat) (by omega)
 have p2 := enc_ten (n := x.frm.toNat) (by omega)
 have p3 := enc_ten (n := x.to.toNat) (by omega)
 refine calls_of_wpE (args := [_]) Try.func115 rfl rfl rfl ?_
 refine c_seq (c_region ?_)
 refine t_box (v := (.agg _)) rfl rfl hS (fun g1 w hS => ?_)
 replace hS := hS.recast (show _ = bmA g1 119 x from rfl)
 refine t_q (q_assign) ?_
 refine t_nil (c_seq (c_region ?_))
 refine t_q (q_assign) ?_
 refine t_nil (c_seq (c_seq (c_region ?_)))
 refine t_q (q_fieldAddr 0 Try.runUnderlying119 rfl Try.sizeOf3 (by decide) rfl rfl) ?_
 refine t_q (q_load1 Try.isAgg3 rfl (hS.cell (by repeat constructor) rfl)) ?_
 refine t_q (q_fieldAddr 1 Try.runUnderlying119 rfl Try.sizeOf3 (by decide) rfl rfl) ?_
 refine t_q (q_load1 Try.isAgg3 rfl (hS.cell (by repeat constructor) rfl)) ?_
 refine t_q (q_fieldAddr 2 Try.runUnderlying119 rfl Try.sizeOf3 (by decide) rfl rfl) ?_
 refine t_q (q_load1 Try.isAgg3 rfl (hS.cell (by repeat constructor) rfl)) ?_
 refine t_build_ints [_, _, _] Try.runUnderlying26 Try.sizeOf3 Try.zeroValue3 rfl rfl (by decide) hS (fun g13 w hS => ?_)
 refine t_q (q_len_slice Try.runUnderlying26 rfl) ?_
 refine t_q (q_move) ?_
 refine t_nil (c_block ?_)
 refine c_loop [3, 5, 15, 16, 17, 18, 19, 20, 21, 22, 23, 24] (fun k σ w => ∃ (j : Nat) (A' : Option Addr) (m c' : Nat), σ 15 = .int .i64 (j : Int) ∧ σ 3 = .slice A' m c' ∧ m = (([x.kind, x.frm, x.to].take j).flatMap (fun n => enc n.toNat)).length ∧ j ≤ 3 ∧ 3 - j ≤ k ∧ St W w [rowA 5 1 A' m c' ((([x.kind, x.frm, x.to].take j).flatMap (fun n => enc n.toNat)).map bv), rowA 3 1 (some ⟨g13, 0, none⟩) 3 3 ([x.kind, x.frm, x.to].map (Value.int .i64)), bmA g1 119 x]) (3) rfl (⟨0, none, 0, 0, rfl, rfl, rfl, by omega, by omega, (((((hS.nilrow 5 1).pick (A := bmA g1 119 x) (by repeat constructor)).pick (A := rowA 3 1 (some ⟨g13, 0, none⟩) _ _ _) (by repeat constructor)).pick (A := rowA 5 1 none 0 0 []) (by repeat constructor)))⟩) ?_
 skip
 rintro k σ w ⟨j, A', m, c', h15, h3, hm, hj, hk2, hS⟩
 refine c_know 15 h15 ?_
 refine c_know 3 h3 ?_
 clear h15 h3
 have hgd : 0 ≤ ([x.kind, x.frm, x.to].getD j 0) ∧ ([x.kind, x.frm, x.to].getD j 0) < 100 := by
   match j, hj with
   | 0, _ => exact ⟨by show 0 ≤ x.kind; omega, by show x.kind < 100; omega⟩
   | 1, _ => exact ⟨q1.1, by show x.frm < 100; omega⟩
   | 2, _ => exact ⟨q2.1, by show x.to < 100; omega⟩
   | 3, _ => exact ⟨(by decide : (0 : Int) ≤ 0), (by decide : (0 : Int) < 100)⟩
 have hmb : m ≤ 30 := by
   rw [hm]
   match j, hj with
   | 0, _ => simp
   | 1, _ => simp; omega
   | 2, _ => simp; omega
   | 3, _ => simp; omega
 refine c_seq (c_region ?_)
 refine t_q (q_lss rfl rfl) ?_
 refine t_nil (c_seq ?_)
 refine c_cond rfl ?_ ?_
 ·
  intro hc2
  have hc2d := of_decide_eq_true hc2
  refine c_skip (c_seq (c_block (c_seq (c_region ?_))))
  first | refine t_index_nat Try.runUnderlying26 Try.sizeOf3 (hS.rowInts (ns := [x.kind, x.frm, x.to]) (by repeat constructor) rfl) rfl rfl (by have : [x.kind, x.frm, x.to].length = 3 := rfl; omega) (fun ad3 hl3 hx3 => ?_) | refine t_index Try.runUnderlying26 Try.sizeOf3 (hS.rowInts (ns := [x.kind, x.frm, x.to]) (by repeat constructor) rfl) rfl rfl (by have : [x.kind, x.frm, x.to].length = 3 := rfl; omega) (fun ad3 hl3 hx3 => ?_)
  refine t_q (q_load1 Try.isAgg3 rfl (hx3 0 _ rfl)) ?_
  refine t_q (q_as (.int _ _) rfl) ?_
  refine t_nil (c_region ?_)
  refine t_q (q_mv (.slice _ _ _) rfl) ?_
  refine t_q (q_mv (.int _ _) rfl) ?_
  first | refine t_q (q_conv_u64 Try.runUnderlying3 Try.runUnderlying43 rfl (by omega)) ?_ | refine t_q (q_convm_u64 Try.runUnderlying3 Try.runUnderlying43 rfl) ?_
  refine t_call Try.call79 (qwNat hS (by omega) (by omega)) rfl ?_
  rintro e w ⟨A22, n22, c22, rfl, hn22, hS⟩
  refine ⟨_, rfl, ?_⟩
  have ht22 := enc_ten (n := ([x.kind, x.frm, x.to].getD j 0).toNat) (by omega)
  refine t_append_own (size := 1) (bytes := 1) Try.underlying25 (info_of Try.type5) rfl rfl rfl rfl (by decide) hS (by repeat constructor) (by repeat constructor) rfl rfl (by first | exact allOne_bv _ | exact allOne_ints _ _ | rfl) (by unfold maxLen; omega) (by omega) (fun A23 c23 w hS => ?_)
  skip
  refine t_q (q_as (.slice _ _ _) rfl) ?_
  refine t_nil (c_region ?_)
  refine t_q (q_add_i64 rfl rfl (by omega)) ?_
  refine t_q (q_mv (.int _ _) rfl) ?_
  refine t_nil ?_
  have h23 := (hS.pick (A := rowA 5 1 A23 _ c23 _) (by repeat constructor)).recast (show _ = rowA 5 1 A23 (m + n22) c23 ((([x.kind, x.frm, x.to].take (j + 1)).flatMap (fun n => enc n.toNat)).map bv) from by rw [take3 (by omega), List.map_append])
  refine ⟨k - 1, by omega, j + 1, A23, _, c23, rfl, rfl, ?_, by omega, by omega, ((((h23.pick (A := bmA g1 119 x) (by repeat constructor)).pick (A := rowA 3 1 (some ⟨g13, 0, none⟩) _ _ _) (by repeat constructor)).pick (A := rowA 5 1 A23 _ c23 _) (by repeat constructor))).front3⟩
  rw [take3 (by omega), List.length_append, hm, hn22]
 ·
  intro hc2
  have hc2d := of_decide_eq_false hc2
  obtain rfl : j = 3 := by omega
  refine c_exit ?_
  refine ite_t rfl ?_
  refine c_seq (c_region ?_)
  refine t_q (q_mv (.slice _ _ _) rfl) ?_
  refine t_q (q_fieldAddr 3 Try.runUnderlying119 rfl Try.sizeOf43 (by decide) rfl rfl) ?_
  refine t_q (q_load1 Try.isAgg43 rfl (hS.cell (by repeat constructor) rfl)) ?_
  refine t_call Try.call79 (qwNat hS (by omega) (by omega)) rfl ?_
  rintro e w ⟨A28, n28, c28, rfl, hn28, hS⟩
  refine ⟨_, rfl, ?_⟩
  have ht28 := enc_ten (n := x.term.toNat) (by omega)
  refine t_append_own (size := 1) (bytes := 1) Try.underlying25 (info_of Try.type5) rfl rfl rfl rfl (by decide) hS (by repeat constructor) (by repeat constructor) rfl rfl (by first | exact allOne_bv _ | exact allOne_ints _ _ | rfl) (by unfold maxLen; omega) (by omega) (fun A29 c29 w hS => ?_)
  replace hS := (hS.pick (A := rowA 5 1 A29 _ c29 _) (by repeat constructor)).recast (show _ = rowA 5 1 A29 (m + n28) c29 (((([x.kind, x.frm, x.to].take 3).flatMap (fun n => enc n.toNat) ++ enc x.term.toNat)).map bv) from by simp only [List.map_append])
  refine t_q (q_as (.slice _ _ _) rfl) ?_
  refine t_nil (c_seq (c_seq (c_region ?_)))
  refine t_q (q_fieldAddr 0 Try.runUnderlying119 rfl Try.sizeOf3 (by decide) rfl rfl) ?_
  refine t_q (q_cast (v' := .int .i64 2) (q_load1 Try.isAgg3 rfl (hS.cell (by repeat constructor) rfl)) (by rw [hk])) ?_
  refine t_nil (c_block (c_seq (c_region ?_)))
  refine t_q (q_eql rfl rfl) ?_
  refine t_q (q_as (.bool _) rfl) ?_
  refine t_nil ?_
  refine c_cond_f rfl rfl ?_
  refine c_seq (c_region ?_)
  refine t_q (q_eql rfl rfl) ?_
  refine t_q (q_as (.bool _) rfl) ?_
  refine t_nil ?_
  refine c_cond_t rfl rfl ?_
  refine c_region ?_
  refine t_q (q_mv (.slice _ _ _) rfl) ?_
  refine t_q (q_fieldAddr 7 Try.runUnderlying119 rfl Try.sizeOf4 (by decide) rfl rfl) ?_
  refine t_q (q_load1 Try.isAgg4 rfl (hS.cell (by repeat constructor) rfl)) ?_
  refine t_call Try.call145 (qwFlag hS) rfl ?_
  rintro e w ⟨A49, n49, c49, rfl, hn49, hS⟩
  refine ⟨_, rfl, ?_⟩
  have hf49 : n49 = 1 := hn49
  refine t_append_own (size := 1) (bytes := 1) Try.underlying25 (info_of Try.type5) rfl rfl rfl rfl (by decide) hS (by repeat constructor) (by repeat constructor) rfl rfl (by first | exact allOne_bv _ | exact allOne_ints _ _ | rfl) (by unfold maxLen; omega) (by omega) (fun A50 c50 w hS => ?_)
  replace hS := (hS.pick (A := rowA 5 1 A50 _ c50 _) (by repeat constructor)).recast (show _ = rowA 5 1 A50 ((m + n28) + n49) c50 ((((([x.kind, x.frm, x.to].take 3).flatMap (fun n => enc n.toNat) ++ enc x.term.toNat) ++ [if x.ok then (1 : UInt8) else 0])).map bv) from by simp only [List.map_append])
  refine t_q (q_as (.slice _ _ _) rfl) ?_
  refine t_nil (c_seq (c_region ?_))
  refine t_q (q_mv (.slice _ _ _) rfl) ?_
  refine t_q (q_as (.slice _ _ _) rfl) ?_
  refine t_nil (c_ret ?_)
  refine r_one rfl rfl ?_
  have h := (hS.pick (A := rowA 5 1 A50 _ c50 _) (by repeat constructor)).front1
  rw [eX] at h
  exact ⟨A50, _, c50, rfl, by rw [← eX]; simp only [List.length_append]; omega, h⟩
set_option maxHeartbeats 1000000 in
set_option maxRecDepth 100000 in
theorem qwbody_4 {x : MsgV} (hx : x.Gd W) (hs : Snd x) (hk : x.kind = 4) (h8 : (wb8 3 x).length ≤ 2000000) : Calls Try.prog 115 #[.agg x.cells.toArray] W fun e w' => ∃ A' m' c', e = .returned (.slice A' m' c') ∧ m' = (wb8 3 x).length ∧ St W w' [rowA 5 1 A' m' c' ((wb8 3 x).map bv)] := by
 have hS := St.init W
 have q0 := hs.kind
 have q1 := hs.frm
 have q2 := hs.to
 have q4 := hx.term
 have q5 := hs.body
 have q6 := hx.index
 have q7 := hx.logTerm
 have q8 := hx.client
 have q9 := hx.req
 have hent := ents_nil hs (by rw [hk]; rfl)
 have eX : (((([x.kind, x.frm, x.to].take 3).flatMap (fun n => enc n.toNat) ++ enc x.term.toNat) ++ [if x.ok then (1 : UInt8) else 0]) ++ enc x.index.toNat) = wb8 3 x := by
   have e : wb8 3 x = (((wb0 x ++ [if x.ok then 1 else 0]) ++ enc x.index.toNat) ++ x.entries.l.flatMap entB) := rfl
   rw [e, hent]
   simp [wb0]
 have hX8 := congrArg List.length eX
 simp only [List.length_append] at hX8
 have p1 := enc_ten (n := x.kind.toNat) (by omega)
 have p2 := enc_ten (n := x.frm.toNat) (by omega)
 have p3 := enc_ten (n := x.to.toNat) (by omega)
 refine calls_of_wpE (args := [_]) Try.func115 rfl rfl rfl ?_
 refine c_seq (c_region ?_)
 refine t_box (v := (.agg _)) rfl rfl hS (fun g1 w hS => ?_)
 replace hS := hS.recast (show _ = bmA g1 119 x from rfl)
 refine t_q (q_assign) ?_
 refine t_nil (c_seq (c_region ?_))
 refine t_q (q_assign) ?_
 refine t_nil (c_seq (c_seq (c_region ?_)))
 refine t_q (q_fieldAddr 0 Try.runUnderlying119 rfl Try.sizeOf3 (by decide) rfl rfl) ?_
 refine t_q (q_load1 Try.isAgg3 rfl (hS.cell (by repeat constructor) rfl)) ?_
 refine t_q (q_fieldAddr 1 Try.runUnderlying119 rfl Try.sizeOf3 (by decide) rfl rfl) ?_
 refine t_q (q_load1 Try.isAgg3 rfl (hS.cell (by repeat constructor) rfl)) ?_
 refine t_q (q_fieldAddr 2 Try.runUnderlying119 rfl Try.sizeOf3 (by decide) rfl rfl) ?_
 refine t_q (q_load1 Try.isAgg3 rfl (hS.cell (by repeat constructor) rfl)) ?_
 refine t_build_ints [_, _, _] Try.runUnderlying26 Try.sizeOf3 Try.zeroValue3 rfl rfl (by decide) hS (fun g13 w hS => ?_)
 refine t_q (q_len_slice Try.runUnderlying26 rfl) ?_
 refine t_q (q_move) ?_
 refine t_nil (c_block ?_)
 refine c_loop [3, 5, 15, 16, 17, 18, 19, 20, 21, 22, 23, 24] (fun k σ w => ∃ (j : Nat) (A' : Option Addr) (m c' : Nat), σ 15 = .int .i64 (j : Int) ∧ σ 3 = .slice A' m c' ∧ m = (([x.kind, x.frm, x.to].take j).flatMap (fun n => enc n.toNat)).length ∧ j ≤ 3 ∧ 3 - j ≤ k ∧ St W w [rowA 5 1 A' m c' ((([x.kind, x.frm, x.to].take j).flatMap (fun n => enc n.toNat)).map bv), rowA 3 1 (some ⟨g13, 0, none⟩) 3 3 ([x.kind, x.frm, x.to].map (Value.int .i64)), bmA g1 119 x]) (3) rfl (⟨0, none, 0, 0, rfl, rfl, rfl, by omega, by omega, (((((hS.nilrow 5 1).pick (A := bmA g1 119 x) (by repeat constructor)).pick (A := rowA 3 1 (some ⟨g13, 0, none⟩) _ _ _) (by repeat constructor)).pick (A := rowA 5 1 none 0 0 []) (by repeat constructor)))⟩) ?_
 skip
 rintro k σ w ⟨j, A', m, c', h15, h3, hm, hj, hk2, hS⟩
 refine c_know 15 h15 ?_
 refine c_know 3 h3 ?_
 clear h15 h3
 have hgd : 0 ≤ ([x.kind, x.frm, x.to].getD j 0) ∧ ([x.kind, x.frm, x.to].getD j 0) < 100 := by
   match j, hj with
   | 0, _ => exact ⟨by show 0 ≤ x.kind; omega, by show x.kind < 100; omega⟩
   | 1, _ => exact ⟨q1.1, by show x.frm < 100; omega⟩
   | 2, _ => exact ⟨q2.1, by show x.to < 100; omega⟩
   | 3, _ => exact ⟨(by decide : (0 : Int) ≤ 0), (by decide : (0 : Int) < 100)⟩
 have hmb : m ≤ 30 := by
   rw [hm]
   match j, hj with
   | 0, _ => simp
   | 1, _ => simp; omega
   | 2, _ => simp; omega
   | 3, _ => simp; omega
 refine c_seq (c_region ?_)
 refine t_q (q_lss rfl rfl) ?_
 refine t_nil (c_seq ?_)
 refine c_cond rfl ?_ ?_
 ·
  intro hc2
  have hc2d := of_decide_eq_true hc2
  refine c_skip (c_seq (c_block (c_seq (c_region ?_))))
  first | refine t_index_nat Try.runUnderlying26 Try.sizeOf3 (hS.rowInts (ns := [x.kind, x.frm, x.to]) (by repeat constructor) rfl) rfl rfl (by have : [x.kind, x.frm, x.to].length = 3 := rfl; omega) (fun ad3 hl3 hx3 => ?_) | refine t_index Try.runUnderlying26 Try.sizeOf3 (hS.rowInts (ns := [x.kind, x.frm, x.to]) (by repeat constructor) rfl) rfl rfl (by have : [x.kind, x.frm, x.to].length = 3 := rfl; omega) (fun ad3 hl3 hx3 => ?_)
  refine t_q (q_load1 Try.isAgg3 rfl (hx3 0 _ rfl)) ?_
  refine t_q (q_as (.int _ _) rfl) ?_
  refine t_nil (c_region ?_)
  refine t_q (q_mv (.slice _ _ _) rfl) ?_
  refine t_q (q_mv (.int _ _) rfl) ?_
  first | refine t_q (q_conv_u64 Try.runUnderlying3 Try.runUnderlying43 rfl (by omega)) ?_ | refine t_q (q_convm_u64 Try.runUnderlying3 Try.runUnderlying43 rfl) ?_
  refine t_call Try.call79 (qwNat hS (by omega) (by omega)) rfl ?_
  rintro e w ⟨A22, n22, c22, rfl, hn22, hS⟩
  refine ⟨_, rfl, ?_⟩
  have ht22 := enc_ten (n := ([x.kind, x.frm, x.to].getD j 0).toNat) (by omega)
  refine t_append_own (size := 1) (bytes := 1) Try.underlying25 (info_of Try.type5) rfl rfl rfl rfl (by decide) hS (by repeat constructor) (by repeat constructor) rfl rfl (by first | exact allOne_bv _ | exact allOne_ints _ _ | rfl) (by unfold maxLen; omega) (by omega) (fun A23 c23 w hS => ?_)
  skip
  refine t_q (q_as (.slice _ _ _) rfl) ?_
  refine t_nil (c_region ?_)
  refine t_q (q_add_i64 rfl rfl (by omega)) ?_
  refine t_q (q_mv (.int _ _) rfl) ?_
  refine t_nil ?_
  have h23 := (hS.pick (A := rowA 5 1 A23 _ c23 _) (by repeat constructor)).recast (show _ = rowA 5 1 A23 (m + n22) c23 ((([x.kind, x.frm, x.to].take (j + 1)).flatMap (fun n => enc n.toNat)).map bv) from by rw [take3 (by omega), List.map_append])
  refine ⟨k - 1, by omega, j + 1, A23, _, c23, rfl, rfl, ?_, by omega, by omega, ((((h23.pick (A := bmA g1 119 x) (by repeat constructor)).pick (A := rowA 3 1 (some ⟨g13, 0, none⟩) _ _ _) (by repeat constructor)).pick (A := rowA 5 1 A23 _ c23 _) (by repeat constructor))).front3⟩
  rw [take3 (by omega), List.length_append, hm, hn22]
 ·
  intro hc2
  have hc2d := of_decide_eq_false hc2
  obtain rfl : j = 3 := by omega
  refine c_exit ?_
  refine ite_t rfl ?_
  refine c_seq (c_region ?_)
  refine t_q (q_mv (.slice _ _ _) rfl) ?_
  refine t_q (q_fieldAddr 3 Try.runUnderlying119 rfl Try.sizeOf43 (by decide) rfl rfl) ?_
  refine t_q (q_load1 Try.isAgg43 rfl (hS.cell (by repeat constructor) rfl)) ?_
  refine t_call Try.call79 (qwNat hS (by omega) (by omega)) rfl ?_
  rintro e w ⟨A28, n28, c28, rfl, hn28, hS⟩
  refine ⟨_, rfl, ?_⟩
  have ht28 := enc_ten (n := x.term.toNat) (by omega)
  refine t_append_own (size := 1) (bytes := 1) Try.underlying25 (info_of Try.type5) rfl rfl rfl rfl (by decide) hS (by repeat constructor) (by repeat constructor) rfl rfl (by first | exact allOne_bv _ | exact allOne_ints _ _ | rfl) (by unfold maxLen; omega) (by omega) (fun A29 c29 w hS => ?_)
  replace hS := (hS.pick (A := rowA 5 1 A29 _ c29 _) (by repeat constructor)).recast (show _ = rowA 5 1 A29 (m + n28) c29 (((([x.kind, x.frm, x.to].take 3).flatMap (fun n => enc n.toNat) ++ enc x.term.toNat)).map bv) from by simp only [List.map_append])
  refine t_q (q_as (.slice _ _ _) rfl) ?_
  refine t_nil (c_seq (c_seq (c_region ?_)))
  refine t_q (q_fieldAddr 0 Try.runUnderlying119 rfl Try.sizeOf3 (by decide) rfl rfl) ?_
  refine t_q (q_cast (v' := .int .i64 4) (q_load1 Try.isAgg3 rfl (hS.cell (by repeat constructor) rfl)) (by rw [hk])) ?_
  refine t_nil (c_block (c_seq (c_region ?_)))
  refine t_q (q_eql rfl rfl) ?_
  refine t_q (q_as (.bool _) rfl) ?_
  refine t_nil ?_
  refine c_cond_f rfl rfl ?_
  refine c_seq (c_region ?_)
  refine t_q (q_eql rfl rfl) ?_
  refine t_q (q_as (.bool _) rfl) ?_
  refine t_nil ?_
  refine c_cond_f rfl rfl ?_
  refine c_seq (c_region ?_)
  refine t_q (q_eql rfl rfl) ?_
  refine t_q (q_as (.bool _) rfl) ?_
  refine t_nil ?_
  refine c_cond_f rfl rfl ?_
  refine c_seq (c_region ?_)
  refine t_q (q_eql rfl rfl) ?_
  refine t_q (q_as (.bool _) rfl) ?_
  refine t_nil ?_
  refine c_cond_t rfl rfl ?_
  refine c_seq (c_region ?_)
  refine t_q (q_mv (.slice _ _ _) rfl) ?_
  refine t_q (q_fieldAddr 7 Try.runUnderlying119 rfl Try.sizeOf4 (by decide) rfl rfl) ?_
  refine t_q (q_load1 Try.isAgg4 rfl (hS.cell (by repeat constructor) rfl)) ?_
  refine t_call Try.call145 (qwFlag hS) rfl ?_
  rintro e w ⟨A115, n115, c115, rfl, hn115, hS⟩
  refine ⟨_, rfl, ?_⟩
  have hf115 : n115 = 1 := hn115
  refine t_append_own (size := 1) (bytes := 1) Try.underlying25 (info_of Try.type5) rfl rfl rfl rfl (by decide) hS (by repeat constructor) (by repeat constructor) rfl rfl (by first | exact allOne_bv _ | exact allOne_ints _ _ | rfl) (by unfold maxLen; omega) (by omega) (fun A116 c116 w hS => ?_)
  replace hS := (hS.pick (A := rowA 5 1 A116 _ c116 _) (by repeat constructor)).recast (show _ = rowA 5 1 A116 ((m + n28) + n115) c116 ((((([x.kind, x.frm, x.to].take 3).flatMap (fun n => enc n.toNat) ++ enc x.term.toNat) ++ [if x.ok then (1 : UInt8) else 0])).map bv) from by simp only [List.map_append])
  refine t_q (q_as (.slice _ _ _) rfl) ?_
  refine t_nil (c_region ?_)
  refine t_q (q_mv (.slice _ _ _) rfl) ?_
  refine t_q (q_fieldAddr 4 Try.runUnderlying119 rfl Try.sizeOf43 (by decide) rfl rfl) ?_
  refine t_q (q_load1 Try.isAgg43 rfl (hS.cell (by repeat constructor) rfl)) ?_
  refine t_call Try.call79 (qwNat hS (by omega) (by omega)) rfl ?_
  rintro e w ⟨A120, n120, c120, rfl, hn120, hS⟩
  refine ⟨_, rfl, ?_⟩
  have ht120 := enc_ten (n := x.index.toNat) (by omega)
  refine t_append_own (size := 1) (bytes := 1) Try.underlying25 (info_of Try.type5) rfl rfl rfl rfl (by decide) hS (by repeat constructor) (by repeat constructor) rfl rfl (by first | exact allOne_bv _ | exact allOne_ints _ _ | rfl) (by unfold maxLen; omega) (by omega) (fun A121 c121 w hS => ?_)
  replace hS := (hS.pick (A := rowA 5 1 A121 _ c121 _) (by repeat constructor)).recast (show _ = rowA 5 1 A121 (((m + n28) + n115) + n120) c121 (((((([x.kind, x.frm, x.to].take 3).flatMap (fun n => enc n.toNat) ++ enc x.term.toNat) ++ [if x.ok then (1 : UInt8) else 0]) ++ enc x.index.toNat)).map bv) from by simp only [List.map_append])
  refine t_q (q_as (.slice _ _ _) rfl) ?_
  refine t_nil (c_seq (c_region ?_))
  refine t_q (q_mv (.slice _ _ _) rfl) ?_
  refine t_q (q_as (.slice _ _ _) rfl) ?_
  refine t_nil (c_ret ?_)
  refine r_one rfl rfl ?_
  have h := (hS.pick (A := rowA 5 1 A121 _ c121 _) (by repeat constructor)).front1
  rw [eX] at h
  exact ⟨A121, _, c121, rfl, by rw [← eX]; simp only [List.length_append]; omega, h⟩
set_option maxHeartbeats 1000000 in
set_option maxRecDepth 100000 in
theorem qwbody_5 {x : MsgV} (hx : x.Gd W) (hs : Snd x) (hk : x.kind = 5) (h8 : (wb8 38 x).length ≤ 2000000) : Calls Try.prog 115 #[.agg x.cells.toArray] W fun e w' => ∃ A' m' c', e = .returned (.slice A' m' c') ∧ m' = (wb8 38 x).length ∧ St W w' [rowA 5 1 A' m' c' ((wb8 38 x).map bv)] := by
 have hS := St.init W
 have q0 := hs.kind
 have q1 := hs.frm
 have q2 := hs.to
 have q4 := hx.term
 have q5 := hs.body
 have q6 := hx.index
 have q7 := hx.logTerm
 have q8 := hx.client
 have q9 := hx.req
 have hent := ents_nil hs (by rw [hk]; rfl)
 have eX : ((((([x.kind, x.frm, x.to].take 3).flatMap (fun n => enc n.toNat) ++ enc x.term.toNat) ++ enc x.index.toNat) ++ enc x.logTerm.toNat) ++ (enc x.body.l.length ++ x.body.l)) = wb8 38 x := by
   have e : wb8 38 x = ((((wb0 x ++ enc x.index.toNat) ++ enc x.logTerm.toNat) ++ x.entries.l.flatMap entB) ++ (enc x.body.l.length ++ x.body.l)) := rfl
   rw [e, hent]
   simp [wb0]
 have hX8 := congrArg List.length eX
 simp only [List.length_append] at hX8
 have p1 := enc_ten (n := x.kind.toNat) (by omega)
 have p2 := enc_ten (n := x.frm.toNat) (by omega)
 have p3 := enc_ten (n := x.to.toNat) (by omega)
 refine calls_of_wpE (args := [_]) Try.func115 rfl rfl rfl ?_
 refine c_seq (c_region ?_)
 refine t_box (v := (.agg _)) rfl rfl hS (fun g1 w hS => ?_)
 replace hS := hS.recast (show _ = bmA g1 119 x from rfl)
 refine t_q (q_assign) ?_
 refine t_nil (c_seq (c_region ?_))
 refine t_q (q_assign) ?_
 refine t_nil (c_seq (c_seq (c_region ?_)))
 refine t_q (q_fieldAddr 0 Try.runUnderlying119 rfl Try.sizeOf3 (by decide) rfl rfl) ?_
 refine t_q (q_load1 Try.isAgg3 rfl (hS.cell (by repeat constructor) rfl)) ?_
 refine t_q (q_fieldAddr 1 Try.runUnderlying119 rfl Try.sizeOf3 (by decide) rfl rfl) ?_
 refine t_q (q_load1 Try.isAgg3 rfl (hS.cell (by repeat constructor) rfl)) ?_
 refine t_q (q_fieldAddr 2 Try.runUnderlying119 rfl Try.sizeOf3 (by decide) rfl rfl) ?_
 refine t_q (q_load1 Try.isAgg3 rfl (hS.cell (by repeat constructor) rfl)) ?_
 refine t_build_ints [_, _, _] Try.runUnderlying26 Try.sizeOf3 Try.zeroValue3 rfl rfl (by decide) hS (fun g13 w hS => ?_)
 refine t_q (q_len_slice Try.runUnderlying26 rfl) ?_
 refine t_q (q_move) ?_
 refine t_nil (c_block ?_)
 refine c_loop [3, 5, 15, 16, 17, 18, 19, 20, 21, 22, 23, 24] (fun k σ w => ∃ (j : Nat) (A' : Option Addr) (m c' : Nat), σ 15 = .int .i64 (j : Int) ∧ σ 3 = .slice A' m c' ∧ m = (([x.kind, x.frm, x.to].take j).flatMap (fun n => enc n.toNat)).length ∧ j ≤ 3 ∧ 3 - j ≤ k ∧ St W w [rowA 5 1 A' m c' ((([x.kind, x.frm, x.to].take j).flatMap (fun n => enc n.toNat)).map bv), rowA 3 1 (some ⟨g13, 0, none⟩) 3 3 ([x.kind, x.frm, x.to].map (Value.int .i64)), bmA g1 119 x]) (3) rfl (⟨0, none, 0, 0, rfl, rfl, rfl, by omega, by omega, (((((hS.nilrow 5 1).pick (A := bmA g1 119 x) (by repeat constructor)).pick (A := rowA 3 1 (some ⟨g13, 0, none⟩) _ _ _) (by repeat constructor)).pick (A := rowA 5 1 none 0 0 []) (by repeat constructor)))⟩) ?_
 skip
 rintro k σ w ⟨j, A', m, c', h15, h3, hm, hj, hk2, hS⟩
 refine c_know 15 h15 ?_
 refine c_know 3 h3 ?_
 clear h15 h3
 have hgd : 0 ≤ ([x.kind, x.frm, x.to].getD j 0) ∧ ([x.kind, x.frm, x.to].getD j 0) < 100 := by
   match j, hj with
   | 0, _ => exact ⟨by show 0 ≤ x.kind; omega, by show x.kind < 100; omega⟩
   | 1, _ => exact ⟨q1.1, by show x.frm < 100; omega⟩
   | 2, _ => exact ⟨q2.1, by show x.to < 100; omega⟩
   | 3, _ => exact ⟨(by decide : (0 : Int) ≤ 0), (by decide : (0 : Int) < 100)⟩
 have hmb : m ≤ 30 := by
   rw [hm]
   match j, hj with
   | 0, _ => simp
   | 1, _ => simp; omega
   | 2, _ => simp; omega
   | 3, _ => simp; omega
 refine c_seq (c_region ?_)
 refine t_q (q_lss rfl rfl) ?_
 refine t_nil (c_seq ?_)
 refine c_cond rfl ?_ ?_
 ·
  intro hc2
  have hc2d := of_decide_eq_true hc2
  refine c_skip (c_seq (c_block (c_seq (c_region ?_))))
  first | refine t_index_nat Try.runUnderlying26 Try.sizeOf3 (hS.rowInts (ns := [x.kind, x.frm, x.to]) (by repeat constructor) rfl) rfl rfl (by have : [x.kind, x.frm, x.to].length = 3 := rfl; omega) (fun ad3 hl3 hx3 => ?_) | refine t_index Try.runUnderlying26 Try.sizeOf3 (hS.rowInts (ns := [x.kind, x.frm, x.to]) (by repeat constructor) rfl) rfl rfl (by have : [x.kind, x.frm, x.to].length = 3 := rfl; omega) (fun ad3 hl3 hx3 => ?_)
  refine t_q (q_load1 Try.isAgg3 rfl (hx3 0 _ rfl)) ?_
  refine t_q (q_as (.int _ _) rfl) ?_
  refine t_nil (c_region ?_)
  refine t_q (q_mv (.slice _ _ _) rfl) ?_
  refine t_q (q_mv (.int _ _) rfl) ?_
  first | refine t_q (q_conv_u64 Try.runUnderlying3 Try.runUnderlying43 rfl (by omega)) ?_ | refine t_q (q_convm_u64 Try.runUnderlying3 Try.runUnderlying43 rfl) ?_
  refine t_call Try.call79 (qwNat hS (by omega) (by omega)) rfl ?_
  rintro e w ⟨A22, n22, c22, rfl, hn22, hS⟩
  refine ⟨_, rfl, ?_⟩
  have ht22 := enc_ten (n := ([x.kind, x.frm, x.to].getD j 0).toNat) (by omega)
  refine t_append_own (size := 1) (bytes := 1) Try.underlying25 (info_of Try.type5) rfl rfl rfl rfl (by decide) hS (by repeat constructor) (by repeat constructor) rfl rfl (by first | exact allOne_bv _ | exact allOne_ints _ _ | rfl) (by unfold maxLen; omega) (by omega) (fun A23 c23 w hS => ?_)
  skip
  refine t_q (q_as (.slice _ _ _) rfl) ?_
  refine t_nil (c_region ?_)
  refine t_q (q_add_i64 rfl rfl (by omega)) ?_
  refine t_q (q_mv (.int _ _) rfl) ?_
  refine t_nil ?_
  have h23 := (hS.pick (A := rowA 5 1 A23 _ c23 _) (by repeat constructor)).recast (show _ = rowA 5 1 A23 (m + n22) c23 ((([x.kind, x.frm, x.to].take (j + 1)).flatMap (fun n => enc n.toNat)).map bv) from by rw [take3 (by omega), List.map_append])
  refine ⟨k - 1, by omega, j + 1, A23, _, c23, rfl, rfl, ?_, by omega, by omega, ((((h23.pick (A := bmA g1 119 x) (by repeat constructor)).pick (A := rowA 3 1 (some ⟨g13, 0, none⟩) _ _ _) (by repeat constructor)).pick (A := rowA 5 1 A23 _ c23 _) (by repeat constructor))).front3⟩
  rw [take3 (by omega), List.length_append, hm, hn22]
 ·
  intro hc2
  have hc2d := of_decide_eq_false hc2
  obtain rfl : j = 3 := by omega
  refine c_exit ?_
  refine ite_t rfl ?_
  refine c_seq (c_region ?_)
  refine t_q (q_mv (.slice _ _ _) rfl) ?_
  refine t_q (q_fieldAddr 3 Try.runUnderlying119 rfl Try.sizeOf43 (by decide) rfl rfl) ?_
  refine t_q (q_load1 Try.isAgg43 rfl (hS.cell (by repeat constructor) rfl)) ?_
  refine t_call Try.call79 (qwNat hS (by omega) (by omega)) rfl ?_
  rintro e w ⟨A28, n28, c28, rfl, hn28, hS⟩
  refine ⟨_, rfl, ?_⟩
  have ht28 := enc_ten (n := x.term.toNat) (by omega)
  refine t_append_own (size := 1) (bytes := 1) Try.underlying25 (info_of Try.type5) rfl rfl rfl rfl (by decide) hS (by repeat constructor) (by repeat constructor) rfl rfl (by first | exact allOne_bv _ | exact allOne_ints _ _ | rfl) (by unfold maxLen; omega) (by omega) (fun A29 c29 w hS => ?_)
  replace hS := (hS.pick (A := rowA 5 1 A29 _ c29 _) (by repeat constructor)).recast (show _ = rowA 5 1 A29 (m + n28) c29 (((([x.kind, x.frm, x.to].take 3).flatMap (fun n => enc n.toNat) ++ enc x.term.toNat)).map bv) from by simp only [List.map_append])
  refine t_q (q_as (.slice _ _ _) rfl) ?_
  refine t_nil (c_seq (c_seq (c_region ?_)))
  refine t_q (q_fieldAddr 0 Try.runUnderlying119 rfl Try.sizeOf3 (by decide) rfl rfl) ?_
  refine t_q (q_cast (v' := .int .i64 5) (q_load1 Try.isAgg3 rfl (hS.cell (by repeat constructor) rfl)) (by rw [hk])) ?_
  refine t_nil (c_block (c_seq (c_region ?_)))
  refine t_q (q_eql rfl rfl) ?_
  refine t_q (q_as (.bool _) rfl) ?_
  refine t_nil ?_
  refine c_cond_f rfl rfl ?_
  refine c_seq (c_region ?_)
  refine t_q (q_eql rfl rfl) ?_
  refine t_q (q_as (.bool _) rfl) ?_
  refine t_nil ?_
  refine c_cond_f rfl rfl ?_
  refine c_seq (c_region ?_)
  refine t_q (q_eql rfl rfl) ?_
  refine t_q (q_as (.bool _) rfl) ?_
  refine t_nil ?_
  refine c_cond_f rfl rfl ?_
  refine c_seq (c_region ?_)
  refine t_q (q_eql rfl rfl) ?_
  refine t_q (q_as (.bool _) rfl) ?_
  refine t_nil ?_
  refine c_cond_f rfl rfl ?_
  refine c_seq (c_region ?_)
  refine t_q (q_eql rfl rfl) ?_
  refine t_q (q_as (.bool _) rfl) ?_
  refine t_nil ?_
  refine c_cond_t rfl rfl ?_
  refine c_seq (c_region ?_)
  refine t_q (q_mv (.slice _ _ _) rfl) ?_
  refine t_q (q_fieldAddr 4 Try.runUnderlying119 rfl Try.sizeOf43 (by decide) rfl rfl) ?_
  refine t_q (q_load1 Try.isAgg43 rfl (hS.cell (by repeat constructor) rfl)) ?_
  refine t_call Try.call79 (qwNat hS (by omega) (by omega)) rfl ?_
  rintro e w ⟨A127, n127, c127, rfl, hn127, hS⟩
  refine ⟨_, rfl, ?_⟩
  have ht127 := enc_ten (n := x.index.toNat) (by omega)
  refine t_append_own (size := 1) (bytes := 1) Try.underlying25 (info_of Try.type5) rfl rfl rfl rfl (by decide) hS (by repeat constructor) (by repeat constructor) rfl rfl (by first | exact allOne_bv _ | exact allOne_ints _ _ | rfl) (by unfold maxLen; omega) (by omega) (fun A128 c128 w hS => ?_)
  replace hS := (hS.pick (A := rowA 5 1 A128 _ c128 _) (by repeat constructor)).recast (show _ = rowA 5 1 A128 ((m + n28) + n127) c128 ((((([x.kind, x.frm, x.to].take 3).flatMap (fun n => enc n.toNat) ++ enc x.term.toNat) ++ enc x.index.toNat)).map bv) from by simp only [List.map_append])
  refine t_q (q_as (.slice _ _ _) rfl) ?_
  refine t_nil (c_seq (c_region ?_))
  refine t_q (q_mv (.slice _ _ _) rfl) ?_
  refine t_q (q_fieldAddr 5 Try.runUnderlying119 rfl Try.sizeOf43 (by decide) rfl rfl) ?_
  refine t_q (q_load1 Try.isAgg43 rfl (hS.cell (by repeat constructor) rfl)) ?_
  refine t_call Try.call79 (qwNat hS (by omega) (by omega)) rfl ?_
  rintro e w ⟨A132, n132, c132, rfl, hn132, hS⟩
  refine ⟨_, rfl, ?_⟩
  have ht132 := enc_ten (n := x.logTerm.toNat) (by omega)
  refine t_append_own (size := 1) (bytes := 1) Try.underlying25 (info_of Try.type5) rfl rfl rfl rfl (by decide) hS (by repeat constructor) (by repeat constructor) rfl rfl (by first | exact allOne_bv _ | exact allOne_ints _ _ | rfl) (by unfold maxLen; omega) (by omega) (fun A133 c133 w hS => ?_)
  replace hS := (hS.pick (A := rowA 5 1 A133 _ c133 _) (by repeat constructor)).recast (show _ = rowA 5 1 A133 (((m + n28) + n127) + n132) c133 (((((([x.kind, x.frm, x.to].take 3).flatMap (fun n => enc n.toNat) ++ enc x.term.toNat) ++ enc x.index.toNat) ++ enc x.logTerm.toNat)).map bv) from by simp only [List.map_append])
  refine t_q (q_as (.slice _ _ _) rfl) ?_
  refine t_nil (c_region ?_)
  refine t_q (q_mv (.slice _ _ _) rfl) ?_
  refine t_q (q_fieldAddr 9 Try.runUnderlying119 rfl Try.sizeOf25 (by decide) rfl rfl) ?_
  refine t_q (q_load1 Try.isAgg25 rfl (hS.cell (by repeat constructor) rfl)) ?_
  refine t_q (q_string Try.runUnderlying25 Try.runUnderlying5 Try.runUnderlying9 rfl rfl (Rd.st hx.brd hS)) ?_
  refine t_call Try.call130 (qwText (s := ⟨x.body.l.toArray⟩) hS (by show x.body.l.toArray.size ≤ _; rw [List.size_toArray]; omega)) rfl ?_
  rintro e w ⟨A138, n138, c138, rfl, hn138, hS⟩
  refine ⟨_, rfl, ?_⟩
  have eT : enc (⟨x.body.l.toArray⟩ : ByteArray).size ++ (⟨x.body.l.toArray⟩ : ByteArray).data.toList = (enc x.body.l.length ++ x.body.l) := by show enc x.body.l.toArray.size ++ x.body.l.toArray.toList = _; simp
  rw [eT] at hn138 hS
  rw [List.length_append] at hn138
  have ht138 := enc_ten (n := x.body.l.length) (by omega)
  refine t_append_own (size := 1) (bytes := 1) Try.underlying25 (info_of Try.type5) rfl rfl rfl rfl (by decide) hS (by repeat constructor) (by repeat constructor) rfl rfl (by first | exact allOne_bv _ | exact allOne_ints _ _ | rfl) (by unfold maxLen; omega) (by omega) (fun A139 c139 w hS => ?_)
  replace hS := (hS.pick (A := rowA 5 1 A139 _ c139 _) (by repeat constructor)).recast (show _ = rowA 5 1 A139 ((((m + n28) + n127) + n132) + n138) c139 ((((((([x.kind, x.frm, x.to].take 3).flatMap (fun n => enc n.toNat) ++ enc x.term.toNat) ++ enc x.index.toNat) ++ enc x.logTerm.toNat) ++ (enc x.body.l.length ++ x.body.l))).map bv) from by simp only [List.map_append])
  refine t_q (q_as (.slice _ _ _) rfl) ?_
  refine t_nil (c_seq (c_region ?_))
  refine t_q (q_mv (.slice _ _ _) rfl) ?_
  refine t_q (q_as (.slice _ _ _) rfl) ?_
  refine t_nil (c_ret ?_)
  refine r_one rfl rfl ?_
  have h := (hS.pick (A := rowA 5 1 A139 _ c139 _) (by repeat constructor)).front1
  rw [eX] at h
  exact ⟨A139, _, c139, rfl, by rw [← eX]; simp only [List.length_append]; omega, h⟩
set_option maxHeartbeats 1000000 in
set_option maxRecDepth 100000 in
theorem qwbody_6 {x : MsgV} (hx : x.Gd W) (hs : Snd x) (hk : x.kind = 6) (h8 : (wb8 2 x).length ≤ 2000000) : Calls Try.prog 115 #[.agg x.cells.toArray] W fun e w' => ∃ A' m' c', e = .returned (.slice A' m' c') ∧ m' = (wb8 2 x).length ∧ St W w' [rowA 5 1 A' m' c' ((wb8 2 x).map bv)] := by
 have hS := St.init W
 have q0 := hs.kind
 have q1 := hs.frm
 have q2 := hs.to
 have q4 := hx.term
 have q5 := hs.body
 have q6 := hx.index
 have q7 := hx.logTerm
 have q8 := hx.client
 have q9 := hx.req
 have hent := ents_nil hs (by rw [hk]; rfl)
 have eX : ((([x.kind, x.frm, x.to].take 3).flatMap (fun n => enc n.toNat) ++ enc x.term.toNat) ++ enc x.index.toNat) = wb8 2 x := by
   have e : wb8 2 x = ((wb0 x ++ enc x.index.toNat) ++ x.entries.l.flatMap entB) := rfl
   rw [e, hent]
   simp [wb0]
 have hX8 := congrArg List.length eX
 simp only [List.length_append] at hX8
 have p1 := enc_ten (n := x.kind.toNat) (by omega)
 have p2 := enc_ten (n := x.frm.toNat) (by omega)
 have p3 := enc_ten (n := x.to.toNat) (by omega)
 refine calls_of_wpE (args := [_]) Try.func115 rfl rfl rfl ?_
 refine c_seq (c_region ?_)
 refine t_box (v := (.agg _)) rfl rfl hS (fun g1 w hS => ?_)
 replace hS := hS.recast (show _ = bmA g1 119 x from rfl)
 refine t_q (q_assign) ?_
 refine t_nil (c_seq (c_region ?_))
 refine t_q (q_assign) ?_
 refine t_nil (c_seq (c_seq (c_region ?_)))
 refine t_q (q_fieldAddr 0 Try.runUnderlying119 rfl Try.sizeOf3 (by decide) rfl rfl) ?_
 refine t_q (q_load1 Try.isAgg3 rfl (hS.cell (by repeat constructor) rfl)) ?_
 refine t_q (q_fieldAddr 1 Try.runUnderlying119 rfl Try.sizeOf3 (by decide) rfl rfl) ?_
 refine t_q (q_load1 Try.isAgg3 rfl (hS.cell (by repeat constructor) rfl)) ?_
 refine t_q (q_fieldAddr 2 Try.runUnderlying119 rfl Try.sizeOf3 (by decide) rfl rfl) ?_
 refine t_q (q_load1 Try.isAgg3 rfl (hS.cell (by repeat constructor) rfl)) ?_
 refine t_build_ints [_, _, _] Try.runUnderlying26 Try.sizeOf3 Try.zeroValue3 rfl rfl (by decide) hS (fun g13 w hS => ?_)
 refine t_q (q_len_slice Try.runUnderlying26 rfl) ?_
 refine t_q (q_move) ?_
 refine t_nil (c_block ?_)
 refine c_loop [3, 5, 15, 16, 17, 18, 19, 20, 21, 22, 23, 24] (fun k σ w => ∃ (j : Nat) (A' : Option Addr) (m c' : Nat), σ 15 = .int .i64 (j : Int) ∧ σ 3 = .slice A' m c' ∧ m = (([x.kind, x.frm, x.to].take j).flatMap (fun n => enc n.toNat)).length ∧ j ≤ 3 ∧ 3 - j ≤ k ∧ St W w [rowA 5 1 A' m c' ((([x.kind, x.frm, x.to].take j).flatMap (fun n => enc n.toNat)).map bv), rowA 3 1 (some ⟨g13, 0, none⟩) 3 3 ([x.kind, x.frm, x.to].map (Value.int .i64)), bmA g1 119 x]) (3) rfl (⟨0, none, 0, 0, rfl, rfl, rfl, by omega, by omega, (((((hS.nilrow 5 1).pick (A := bmA g1 119 x) (by repeat constructor)).pick (A := rowA 3 1 (some ⟨g13, 0, none⟩) _ _ _) (by repeat constructor)).pick (A := rowA 5 1 none 0 0 []) (by repeat constructor)))⟩) ?_
 skip
 rintro k σ w ⟨j, A', m, c', h15, h3, hm, hj, hk2, hS⟩
 refine c_know 15 h15 ?_
 refine c_know 3 h3 ?_
 clear h15 h3
 have hgd : 0 ≤ ([x.kind, x.frm, x.to].getD j 0) ∧ ([x.kind, x.frm, x.to].getD j 0) < 100 := by
   match j, hj with
   | 0, _ => exact ⟨by show 0 ≤ x.kind; omega, by show x.kind < 100; omega⟩
   | 1, _ => exact ⟨q1.1, by show x.frm < 100; omega⟩
   | 2, _ => exact ⟨q2.1, by show x.to < 100; omega⟩
   | 3, _ => exact ⟨(by decide : (0 : Int) ≤ 0), (by decide : (0 : Int) < 100)⟩
 have hmb : m ≤ 30 := by
   rw [hm]
   match j, hj with
   | 0, _ => simp
   | 1, _ => simp; omega
   | 2, _ => simp; omega
   | 3, _ => simp; omega
 refine c_seq (c_region ?_)
 refine t_q (q_lss rfl rfl) ?_
 refine t_nil (c_seq ?_)
 refine c_cond rfl ?_ ?_
 ·
  intro hc2
  have hc2d := of_decide_eq_true hc2
  refine c_skip (c_seq (c_block (c_seq (c_region ?_))))
  first | refine t_index_nat Try.runUnderlying26 Try.sizeOf3 (hS.rowInts (ns := [x.kind, x.frm, x.to]) (by repeat constructor) rfl) rfl rfl (by have : [x.kind, x.frm, x.to].length = 3 := rfl; omega) (fun ad3 hl3 hx3 => ?_) | refine t_index Try.runUnderlying26 Try.sizeOf3 (hS.rowInts (ns := [x.kind, x.frm, x.to]) (by repeat constructor) rfl) rfl rfl (by have : [x.kind, x.frm, x.to].length = 3 := rfl; omega) (fun ad3 hl3 hx3 => ?_)
  refine t_q (q_load1 Try.isAgg3 rfl (hx3 0 _ rfl)) ?_
  refine t_q (q_as (.int _ _) rfl) ?_
  refine t_nil (c_region ?_)
  refine t_q (q_mv (.slice _ _ _) rfl) ?_
  refine t_q (q_mv (.int _ _) rfl) ?_
  first | refine t_q (q_conv_u64 Try.runUnderlying3 Try.runUnderlying43 rfl (by omega)) ?_ | refine t_q (q_convm_u64 Try.runUnderlying3 Try.runUnderlying43 rfl) ?_
  refine t_call Try.call79 (qwNat hS (by omega) (by omega)) rfl ?_
  rintro e w ⟨A22, n22, c22, rfl, hn22, hS⟩
  refine ⟨_, rfl, ?_⟩
  have ht22 := enc_ten (n := ([x.kind, x.frm, x.to].getD j 0).toNat) (by omega)
  refine t_append_own (size := 1) (bytes := 1) Try.underlying25 (info_of Try.type5) rfl rfl rfl rfl (by decide) hS (by repeat constructor) (by repeat constructor) rfl rfl (by first | exact allOne_bv _ | exact allOne_ints _ _ | rfl) (by unfold maxLen; omega) (by omega) (fun A23 c23 w hS => ?_)
  skip
  refine t_q (q_as (.slice _ _ _) rfl) ?_
  refine t_nil (c_region ?_)
  refine t_q (q_add_i64 rfl rfl (by omega)) ?_
  refine t_q (q_mv (.int _ _) rfl) ?_
  refine t_nil ?_
  have h23 := (hS.pick (A := rowA 5 1 A23 _ c23 _) (by repeat constructor)).recast (show _ = rowA 5 1 A23 (m + n22) c23 ((([x.kind, x.frm, x.to].take (j + 1)).flatMap (fun n => enc n.toNat)).map bv) from by rw [take3 (by omega), List.map_append])
  refine ⟨k - 1, by omega, j + 1, A23, _, c23, rfl, rfl, ?_, by omega, by omega, ((((h23.pick (A := bmA g1 119 x) (by repeat constructor)).pick (A := rowA 3 1 (some ⟨g13, 0, none⟩) _ _ _) (by repeat constructor)).pick (A := rowA 5 1 A23 _ c23 _) (by repeat constructor))).front3⟩
  rw [take3 (by omega), List.length_append, hm, hn22]
 ·
  intro hc2
  have hc2d := of_decide_eq_false hc2
  obtain rfl : j = 3 := by omega
  refine c_exit ?_
  refine ite_t rfl ?_
  refine c_seq (c_region ?_)
  refine t_q (q_mv (.slice _ _ _) rfl) ?_
  refine t_q (q_fieldAddr 3 Try.runUnderlying119 rfl Try.sizeOf43 (by decide) rfl rfl) ?_
  refine t_q (q_load1 Try.isAgg43 rfl (hS.cell (by repeat constructor) rfl)) ?_
  refine t_call Try.call79 (qwNat hS (by omega) (by omega)) rfl ?_
  rintro e w ⟨A28, n28, c28, rfl, hn28, hS⟩
  refine ⟨_, rfl, ?_⟩
  have ht28 := enc_ten (n := x.term.toNat) (by omega)
  refine t_append_own (size := 1) (bytes := 1) Try.underlying25 (info_of Try.type5) rfl rfl rfl rfl (by decide) hS (by repeat constructor) (by repeat constructor) rfl rfl (by first | exact allOne_bv _ | exact allOne_ints _ _ | rfl) (by unfold maxLen; omega) (by omega) (fun A29 c29 w hS => ?_)
  replace hS := (hS.pick (A := rowA 5 1 A29 _ c29 _) (by repeat constructor)).recast (show _ = rowA 5 1 A29 (m + n28) c29 (((([x.kind, x.frm, x.to].take 3).flatMap (fun n => enc n.toNat) ++ enc x.term.toNat)).map bv) from by simp only [List.map_append])
  refine t_q (q_as (.slice _ _ _) rfl) ?_
  refine t_nil (c_seq (c_seq (c_region ?_)))
  refine t_q (q_fieldAddr 0 Try.runUnderlying119 rfl Try.sizeOf3 (by decide) rfl rfl) ?_
  refine t_q (q_cast (v' := .int .i64 6) (q_load1 Try.isAgg3 rfl (hS.cell (by repeat constructor) rfl)) (by rw [hk])) ?_
  refine t_nil (c_block (c_seq (c_region ?_)))
  refine t_q (q_eql rfl rfl) ?_
  refine t_q (q_as (.bool _) rfl) ?_
  refine t_nil ?_
  refine c_cond_f rfl rfl ?_
  refine c_seq (c_region ?_)
  refine t_q (q_eql rfl rfl) ?_
  refine t_q (q_as (.bool _) rfl) ?_
  refine t_nil ?_
  refine c_cond_f rfl rfl ?_
  refine c_seq (c_region ?_)
  refine t_q (q_eql rfl rfl) ?_
  refine t_q (q_as (.bool _) rfl) ?_
  refine t_nil ?_
  refine c_cond_f rfl rfl ?_
  refine c_seq (c_region ?_)
  refine t_q (q_eql rfl rfl) ?_
  refine t_q (q_as (.bool _) rfl) ?_
  refine t_nil ?_
  refine c_cond_f rfl rfl ?_
  refine c_seq (c_region ?_)
  refine t_q (q_eql rfl rfl) ?_
  refine t_q (q_as (.bool _) rfl) ?_
  refine t_nil ?_
  refine c_cond_f rfl rfl ?_
  refine c_seq (c_region ?_)
  refine t_q (q_eql rfl rfl) ?_
  refine t_q (q_as (.bool _) rfl) ?_
  refine t_nil ?_
  refine c_cond_t rfl rfl ?_
  refine c_region ?_
  refine t_q (q_mv (.slice _ _ _) rfl) ?_
  refine t_q (q_fieldAddr 4 Try.runUnderlying119 rfl Try.sizeOf43 (by decide) rfl rfl) ?_
  refine t_q (q_load1 Try.isAgg43 rfl (hS.cell (by repeat constructor) rfl)) ?_
  refine t_call Try.call79 (qwNat hS (by omega) (by omega)) rfl ?_
  rintro e w ⟨A145, n145, c145, rfl, hn145, hS⟩
  refine ⟨_, rfl, ?_⟩
  have ht145 := enc_ten (n := x.index.toNat) (by omega)
  refine t_append_own (size := 1) (bytes := 1) Try.underlying25 (info_of Try.type5) rfl rfl rfl rfl (by decide) hS (by repeat constructor) (by repeat constructor) rfl rfl (by first | exact allOne_bv _ | exact allOne_ints _ _ | rfl) (by unfold maxLen; omega) (by omega) (fun A146 c146 w hS => ?_)
  replace hS := (hS.pick (A := rowA 5 1 A146 _ c146 _) (by repeat constructor)).recast (show _ = rowA 5 1 A146 ((m + n28) + n145) c146 ((((([x.kind, x.frm, x.to].take 3).flatMap (fun n => enc n.toNat) ++ enc x.term.toNat) ++ enc x.index.toNat)).map bv) from by simp only [List.map_append])
  refine t_q (q_as (.slice _ _ _) rfl) ?_
  refine t_nil (c_seq (c_region ?_))
  refine t_q (q_mv (.slice _ _ _) rfl) ?_
  refine t_q (q_as (.slice _ _ _) rfl) ?_
  refine t_nil (c_ret ?_)
  refine r_one rfl rfl ?_
  have h := (hS.pick (A := rowA 5 1 A146 _ c146 _) (by repeat constructor)).front1
  rw [eX] at h
  exact ⟨A146, _, c146, rfl, by rw [← eX]; simp only [List.length_append]; omega, h⟩
set_option maxHeartbeats 1000000 in
set_option maxRecDepth 100000 in
theorem qwbody_7 {x : MsgV} (hx : x.Gd W) (hs : Snd x) (hk : x.kind = 7) (h8 : (wb8 32 x).length ≤ 2000000) : Calls Try.prog 115 #[.agg x.cells.toArray] W fun e w' => ∃ A' m' c', e = .returned (.slice A' m' c') ∧ m' = (wb8 32 x).length ∧ St W w' [rowA 5 1 A' m' c' ((wb8 32 x).map bv)] := by
 have hS := St.init W
 have q0 := hs.kind
 have q1 := hs.frm
 have q2 := hs.to
 have q4 := hx.term
 have q5 := hs.body
 have q6 := hx.index
 have q7 := hx.logTerm
 have q8 := hx.client
 have q9 := hx.req
 have hent := ents_nil hs (by rw [hk]; rfl)
 have eX : ((([x.kind, x.frm, x.to].take 3).flatMap (fun n => enc n.toNat) ++ enc x.term.toNat) ++ (enc x.body.l.length ++ x.body.l)) = wb8 32 x := by
   have e : wb8 32 x = ((wb0 x ++ x.entries.l.flatMap entB) ++ (enc x.body.l.length ++ x.body.l)) := rfl
   rw [e, hent]
   simp [wb0]
 have hX8 := congrArg List.length eX
 simp only [List.length_append] at hX8
 have p1 := enc_ten (n := x.kind.toNat) (by omega)
 have p2 := enc_ten (n := x.frm.toNat) (by omega)
 have p3 := enc_ten (n := x.to.toNat) (by omega)
 refine calls_of_wpE (args := [_]) Try.func115 rfl rfl rfl ?_
 refine c_seq (c_region ?_)
 refine t_box (v := (.agg _)) rfl rfl hS (fun g1 w hS => ?_)
 replace hS := hS.recast (show _ = bmA g1 119 x from rfl)
 refine t_q (q_assign) ?_
 refine t_nil (c_seq (c_region ?_))
 refine t_q (q_assign) ?_
 refine t_nil (c_seq (c_seq (c_region ?_)))
 refine t_q (q_fieldAddr 0 Try.runUnderlying119 rfl Try.sizeOf3 (by decide) rfl rfl) ?_
 refine t_q (q_load1 Try.isAgg3 rfl (hS.cell (by repeat constructor) rfl)) ?_
 refine t_q (q_fieldAddr 1 Try.runUnderlying119 rfl Try.sizeOf3 (by decide) rfl rfl) ?_
 refine t_q (q_load1 Try.isAgg3 rfl (hS.cell (by repeat constructor) rfl)) ?_
 refine t_q (q_fieldAddr 2 Try.runUnderlying119 rfl Try.sizeOf3 (by decide) rfl rfl) ?_
 refine t_q (q_load1 Try.isAgg3 rfl (hS.cell (by repeat constructor) rfl)) ?_
 refine t_build_ints [_, _, _] Try.runUnderlying26 Try.sizeOf3 Try.zeroValue3 rfl rfl (by decide) hS (fun g13 w hS => ?_)
 refine t_q (q_len_slice Try.runUnderlying26 rfl) ?_
 refine t_q (q_move) ?_
 refine t_nil (c_block ?_)
 refine c_loop [3, 5, 15, 16, 17, 18, 19, 20, 21, 22, 23, 24] (fun k σ w => ∃ (j : Nat) (A' : Option Addr) (m c' : Nat), σ 15 = .int .i64 (j : Int) ∧ σ 3 = .slice A' m c' ∧ m = (([x.kind, x.frm, x.to].take j).flatMap (fun n => enc n.toNat)).length ∧ j ≤ 3 ∧ 3 - j ≤ k ∧ St W w [rowA 5 1 A' m c' ((([x.kind, x.frm, x.to].take j).flatMap (fun n => enc n.toNat)).map bv), rowA 3 1 (some ⟨g13, 0, none⟩) 3 3 ([x.kind, x.frm, x.to].map (Value.int .i64)), bmA g1 119 x]) (3) rfl (⟨0, none, 0, 0, rfl, rfl, rfl, by omega, by omega, (((((hS.nilrow 5 1).pick (A := bmA g1 119 x) (by repeat constructor)).pick (A := rowA 3 1 (some ⟨g13, 0, none⟩) _ _ _) (by repeat constructor)).pick (A := rowA 5 1 none 0 0 []) (by repeat constructor)))⟩) ?_
 skip
 rintro k σ w ⟨j, A', m, c', h15, h3, hm, hj, hk2, hS⟩
 refine c_know 15 h15 ?_
 refine c_know 3 h3 ?_
 clear h15 h3
 have hgd : 0 ≤ ([x.kind, x.frm, x.to].getD j 0) ∧ ([x.kind, x.frm, x.to].getD j 0) < 100 := by
   match j, hj with
   | 0, _ => exact ⟨by show 0 ≤ x.kind; omega, by show x.kind < 100; omega⟩
   | 1, _ => exact ⟨q1.1, by show x.frm < 100; omega⟩
   | 2, _ => exact ⟨q2.1, by show x.to < 100; omega⟩
   | 3, _ => exact ⟨(by decide : (0 : Int) ≤ 0), (by decide : (0 : Int) < 100)⟩
 have hmb : m ≤ 30 := by
   rw [hm]
   match j, hj with
   | 0, _ => simp
   | 1, _ => simp; omega
   | 2, _ => simp; omega
   | 3, _ => simp; omega
 refine c_seq (c_region ?_)
 refine t_q (q_lss rfl rfl) ?_
 refine t_nil (c_seq ?_)
 refine c_cond rfl ?_ ?_
 ·
  intro hc2
  have hc2d := of_decide_eq_true hc2
  refine c_skip (c_seq (c_block (c_seq (c_region ?_))))
  first | refine t_index_nat Try.runUnderlying26 Try.sizeOf3 (hS.rowInts (ns := [x.kind, x.frm, x.to]) (by repeat constructor) rfl) rfl rfl (by have : [x.kind, x.frm, x.to].length = 3 := rfl; omega) (fun ad3 hl3 hx3 => ?_) | refine t_index Try.runUnderlying26 Try.sizeOf3 (hS.rowInts (ns := [x.kind, x.frm, x.to]) (by repeat constructor) rfl) rfl rfl (by have : [x.kind, x.frm, x.to].length = 3 := rfl; omega) (fun ad3 hl3 hx3 => ?_)
  refine t_q (q_load1 Try.isAgg3 rfl (hx3 0 _ rfl)) ?_
  refine t_q (q_as (.int _ _) rfl) ?_
  refine t_nil (c_region ?_)
  refine t_q (q_mv (.slice _ _ _) rfl) ?_
  refine t_q (q_mv (.int _ _) rfl) ?_
  first | refine t_q (q_conv_u64 Try.runUnderlying3 Try.runUnderlying43 rfl (by omega)) ?_ | refine t_q (q_convm_u64 Try.runUnderlying3 Try.runUnderlying43 rfl) ?_
  refine t_call Try.call79 (qwNat hS (by omega) (by omega)) rfl ?_
  rintro e w ⟨A22, n22, c22, rfl, hn22, hS⟩
  refine ⟨_, rfl, ?_⟩
  have ht22 := enc_ten (n := ([x.kind, x.frm, x.to].getD j 0).toNat) (by omega)
  refine t_append_own (size := 1) (bytes := 1) Try.underlying25 (info_of Try.type5) rfl rfl rfl rfl (by decide) hS (by repeat constructor) (by repeat constructor) rfl rfl (by first | exact allOne_bv _ | exact allOne_ints _ _ | rfl) (by unfold maxLen; omega) (by omega) (fun A23 c23 w hS => ?_)
  skip
  refine t_q (q_as (.slice _ _ _) rfl) ?_
  refine t_nil (c_region ?_)
  refine t_q (q_add_i64 rfl rfl (by omega)) ?_
  refine t_q (q_mv (.int _ _) rfl) ?_
  refine t_nil ?_
  have h23 := (hS.pick (A := rowA 5 1 A23 _ c23 _) (by repeat constructor)).recast (show _ = rowA 5 1 A23 (m + n22) c23 ((([x.kind, x.frm, x.to].take (j + 1)).flatMap (fun n => enc n.toNat)).map bv) from by rw [take3 (by omega), List.map_append])
  refine ⟨k - 1, by omega, j + 1, A23, _, c23, rfl, rfl, ?_, by omega, by omega, ((((h23.pick (A := bmA g1 119 x) (by repeat constructor)).pick (A := rowA 3 1 (some ⟨g13, 0, none⟩) _ _ _) (by repeat constructor)).pick (A := rowA 5 1 A23 _ c23 _) (by repeat constructor))).front3⟩
  rw [take3 (by omega), List.length_append, hm, hn22]
 ·
  intro hc2
  have hc2d := of_decide_eq_false hc2
  obtain rfl : j = 3 := by omega
  refine c_exit ?_
  refine ite_t rfl ?_
  refine c_seq (c_region ?_)
  refine t_q (q_mv (.slice _ _ _) rfl) ?_
  refine t_q (q_fieldAddr 3 Try.runUnderlying119 rfl Try.sizeOf43 (by decide) rfl rfl) ?_
  refine t_q (q_load1 Try.isAgg43 rfl (hS.cell (by repeat constructor) rfl)) ?_
  refine t_call Try.call79 (qwNat hS (by omega) (by omega)) rfl ?_
  rintro e w ⟨A28, n28, c28, rfl, hn28, hS⟩
  refine ⟨_, rfl, ?_⟩
  have ht28 := enc_ten (n := x.term.toNat) (by omega)
  refine t_append_own (size := 1) (bytes := 1) Try.underlying25 (info_of Try.type5) rfl rfl rfl rfl (by decide) hS (by repeat constructor) (by repeat constructor) rfl rfl (by first | exact allOne_bv _ | exact allOne_ints _ _ | rfl) (by unfold maxLen; omega) (by omega) (fun A29 c29 w hS => ?_)
  replace hS := (hS.pick (A := rowA 5 1 A29 _ c29 _) (by repeat constructor)).recast (show _ = rowA 5 1 A29 (m + n28) c29 (((([x.kind, x.frm, x.to].take 3).flatMap (fun n => enc n.toNat) ++ enc x.term.toNat)).map bv) from by simp only [List.map_append])
  refine t_q (q_as (.slice _ _ _) rfl) ?_
  refine t_nil (c_seq (c_seq (c_region ?_)))
  refine t_q (q_fieldAddr 0 Try.runUnderlying119 rfl Try.sizeOf3 (by decide) rfl rfl) ?_
  refine t_q (q_cast (v' := .int .i64 7) (q_load1 Try.isAgg3 rfl (hS.cell (by repeat constructor) rfl)) (by rw [hk])) ?_
  refine t_nil (c_block (c_seq (c_region ?_)))
  refine t_q (q_eql rfl rfl) ?_
  refine t_q (q_as (.bool _) rfl) ?_
  refine t_nil ?_
  refine c_cond_f rfl rfl ?_
  refine c_seq (c_region ?_)
  refine t_q (q_eql rfl rfl) ?_
  refine t_q (q_as (.bool _) rfl) ?_
  refine t_nil ?_
  refine c_cond_f rfl rfl ?_
  refine c_seq (c_region ?_)
  refine t_q (q_eql rfl rfl) ?_
  refine t_q (q_as (.bool _) rfl) ?_
  refine t_nil ?_
  refine c_cond_f rfl rfl ?_
  refine c_seq (c_region ?_)
  refine t_q (q_eql rfl rfl) ?_
  refine t_q (q_as (.bool _) rfl) ?_
  refine t_nil ?_
  refine c_cond_f rfl rfl ?_
  refine c_seq (c_region ?_)
  refine t_q (q_eql rfl rfl) ?_
  refine t_q (q_as (.bool _) rfl) ?_
  refine t_nil ?_
  refine c_cond_f rfl rfl ?_
  refine c_seq (c_region ?_)
  refine t_q (q_eql rfl rfl) ?_
  refine t_q (q_as (.bool _) rfl) ?_
  refine t_nil ?_
  refine c_cond_f rfl rfl ?_
  refine c_seq (c_region ?_)
  refine t_q (q_eql rfl rfl) ?_
  refine t_q (q_as (.bool _) rfl) ?_
  refine t_nil ?_
  refine c_cond_t rfl rfl ?_
  refine c_region ?_
  refine t_q (q_mv (.slice _ _ _) rfl) ?_
  refine t_q (q_fieldAddr 9 Try.runUnderlying119 rfl Try.sizeOf25 (by decide) rfl rfl) ?_
  refine t_q (q_load1 Try.isAgg25 rfl (hS.cell (by repeat constructor) rfl)) ?_
  refine t_q (q_string Try.runUnderlying25 Try.runUnderlying5 Try.runUnderlying9 rfl rfl (Rd.st hx.brd hS)) ?_
  refine t_call Try.call130 (qwText (s := ⟨x.body.l.toArray⟩) hS (by show x.body.l.toArray.size ≤ _; rw [List.size_toArray]; omega)) rfl ?_
  rintro e w ⟨A153, n153, c153, rfl, hn153, hS⟩
  refine ⟨_, rfl, ?_⟩
  have eT : enc (⟨x.body.l.toArray⟩ : ByteArray).size ++ (⟨x.body.l.toArray⟩ : ByteArray).data.toList = (enc x.body.l.length ++ x.body.l) := by show enc x.body.l.toArray.size ++ x.body.l.toArray.toList = _; simp
  rw [eT] at hn153 hS
  rw [List.length_append] at hn153
  have ht153 := enc_ten (n := x.body.l.length) (by omega)
  refine t_append_own (size := 1) (bytes := 1) Try.underlying25 (info_of Try.type5) rfl rfl rfl rfl (by decide) hS (by repeat constructor) (by repeat constructor) rfl rfl (by first | exact allOne_bv _ | exact allOne_ints _ _ | rfl) (by unfold maxLen; omega) (by omega) (fun A154 c154 w hS => ?_)
  replace hS := (hS.pick (A := rowA 5 1 A154 _ c154 _) (by repeat constructor)).recast (show _ = rowA 5 1 A154 ((m + n28) + n153) c154 ((((([x.kind, x.frm, x.to].take 3).flatMap (fun n => enc n.toNat) ++ enc x.term.toNat) ++ (enc x.body.l.length ++ x.body.l))).map bv) from by simp only [List.map_append])
  refine t_q (q_as (.slice _ _ _) rfl) ?_
  refine t_nil (c_seq (c_region ?_))
  refine t_q (q_mv (.slice _ _ _) rfl) ?_
  refine t_q (q_as (.slice _ _ _) rfl) ?_
  refine t_nil (c_ret ?_)
  refine r_one rfl rfl ?_
  have h := (hS.pick (A := rowA 5 1 A154 _ c154 _) (by repeat constructor)).front1
  rw [eX] at h
  exact ⟨A154, _, c154, rfl, by rw [← eX]; simp only [List.length_append]; omega, h⟩
set_option maxHeartbeats 1000000 in
set_option maxRecDepth 100000 in
theorem qwbody_8 {x : MsgV} (hx : x.Gd W) (hs : Snd x) (hk : x.kind = 8) (h8 : (wb8 64 x).length ≤ 2000000) : Calls Try.prog 115 #[.agg x.cells.toArray] W fun e w' => ∃ A' m' c', e = .returned (.slice A' m' c') ∧ m' = (wb8 64 x).length ∧ St W w' [rowA 5 1 A' m' c' ((wb8 64 x).map bv)] := by
 have hS := St.init W
 have q0 := hs.kind
 have q1 := hs.frm
 have q2 := hs.to
 have q4 := hx.term
 have q5 := hs.body
 have q6 := hx.index
 have q7 := hx.logTerm
 have q8 := hx.client
 have q9 := hx.req
 have hent := ents_nil hs (by rw [hk]; rfl)
 have eX : ((((([x.kind, x.frm, x.to].take 3).flatMap (fun n => enc n.toNat) ++ enc x.term.toNat) ++ enc x.client.toNat) ++ enc x.req.toNat) ++ evsB x.events.l) = wb8 64 x := by
   have e : wb8 64 x = ((wb0 x ++ x.entries.l.flatMap entB) ++ (enc x.client.toNat ++ enc x.req.toNat) ++ evsB x.events.l) := rfl
   rw [e, hent]
   simp [wb0]
 have hX8 := congrArg List.length eX
 simp only [List.length_append] at hX8
 have p1 := enc_ten (n := x.kind.toNat) (by omega)
 have p2 := enc_ten (n := x.frm.toNat) (by omega)
 have p3 := enc_ten (n := x.to.toNat) (by omega)
 refine calls_of_wpE (args := [_]) Try.func115 rfl rfl rfl ?_
 refine c_seq (c_region ?_)
 refine t_box (v := (.agg _)) rfl rfl hS (fun g1 w hS => ?_)
 replace hS := hS.recast (show _ = bmA g1 119 x from rfl)
 refine t_q (q_assign) ?_
 refine t_nil (c_seq (c_region ?_))
 refine t_q (q_assign) ?_
 refine t_nil (c_seq (c_seq (c_region ?_)))
 refine t_q (q_fieldAddr 0 Try.runUnderlying119 rfl Try.sizeOf3 (by decide) rfl rfl) ?_
 refine t_q (q_load1 Try.isAgg3 rfl (hS.cell (by repeat constructor) rfl)) ?_
 refine t_q (q_fieldAddr 1 Try.runUnderlying119 rfl Try.sizeOf3 (by decide) rfl rfl) ?_
 refine t_q (q_load1 Try.isAgg3 rfl (hS.cell (by repeat constructor) rfl)) ?_
 refine t_q (q_fieldAddr 2 Try.runUnderlying119 rfl Try.sizeOf3 (by decide) rfl rfl) ?_
 refine t_q (q_load1 Try.isAgg3 rfl (hS.cell (by repeat constructor) rfl)) ?_
 refine t_build_ints [_, _, _] Try.runUnderlying26 Try.sizeOf3 Try.zeroValue3 rfl rfl (by decide) hS (fun g13 w hS => ?_)
 refine t_q (q_len_slice Try.runUnderlying26 rfl) ?_
 refine t_q (q_move) ?_
 refine t_nil (c_block ?_)
 refine c_loop [3, 5, 15, 16, 17, 18, 19, 20, 21, 22, 23, 24] (fun k σ w => ∃ (j : Nat) (A' : Option Addr) (m c' : Nat), σ 15 = .int .i64 (j : Int) ∧ σ 3 = .slice A' m c' ∧ m = (([x.kind, x.frm, x.to].take j).flatMap (fun n => enc n.toNat)).length ∧ j ≤ 3 ∧ 3 - j ≤ k ∧ St W w [rowA 5 1 A' m c' ((([x.kind, x.frm, x.to].take j).flatMap (fun n => enc n.toNat)).map bv), rowA 3 1 (some ⟨g13, 0, none⟩) 3 3 ([x.kind, x.frm, x.to].map (Value.int .i64)), bmA g1 119 x]) (3) rfl (⟨0, none, 0, 0, rfl, rfl, rfl, by omega, by omega, (((((hS.nilrow 5 1).pick (A := bmA g1 119 x) (by repeat constructor)).pick (A := rowA 3 1 (some ⟨g13, 0, none⟩) _ _ _) (by repeat constructor)).pick (A := rowA 5 1 none 0 0 []) (by repeat constructor)))⟩) ?_
 skip
 rintro k σ w ⟨j, A', m, c', h15, h3, hm, hj, hk2, hS⟩
 refine c_know 15 h15 ?_
 refine c_know 3 h3 ?_
 clear h15 h3
 have hgd : 0 ≤ ([x.kind, x.frm, x.to].getD j 0) ∧ ([x.kind, x.frm, x.to].getD j 0) < 100 := by
   match j, hj with
   | 0, _ => exact ⟨by show 0 ≤ x.kind; omega, by show x.kind < 100; omega⟩
   | 1, _ => exact ⟨q1.1, by show x.frm < 100; omega⟩
   | 2, _ => exact ⟨q2.1, by show x.to < 100; omega⟩
   | 3, _ => exact ⟨(by decide : (0 : Int) ≤ 0), (by decide : (0 : Int) < 100)⟩
 have hmb : m ≤ 30 := by
   rw [hm]
   match j, hj with
   | 0, _ => simp
   | 1, _ => simp; omega
   | 2, _ => simp; omega
   | 3, _ => simp; omega
 refine c_seq (c_region ?_)
 refine t_q (q_lss rfl rfl) ?_
 refine t_nil (c_seq ?_)
 refine c_cond rfl ?_ ?_
 ·
  intro hc2
  have hc2d := of_decide_eq_true hc2
  refine c_skip (c_seq (c_block (c_seq (c_region ?_))))
  first | refine t_index_nat Try.runUnderlying26 Try.sizeOf3 (hS.rowInts (ns := [x.kind, x.frm, x.to]) (by repeat constructor) rfl) rfl rfl (by have : [x.kind, x.frm, x.to].length = 3 := rfl; omega) (fun ad3 hl3 hx3 => ?_) | refine t_index Try.runUnderlying26 Try.sizeOf3 (hS.rowInts (ns := [x.kind, x.frm, x.to]) (by repeat constructor) rfl) rfl rfl (by have : [x.kind, x.frm, x.to].length = 3 := rfl; omega) (fun ad3 hl3 hx3 => ?_)
  refine t_q (q_load1 Try.isAgg3 rfl (hx3 0 _ rfl)) ?_
  refine t_q (q_as (.int _ _) rfl) ?_
  refine t_nil (c_region ?_)
  refine t_q (q_mv (.slice _ _ _) rfl) ?_
  refine t_q (q_mv (.int _ _) rfl) ?_
  first | refine t_q (q_conv_u64 Try.runUnderlying3 Try.runUnderlying43 rfl (by omega)) ?_ | refine t_q (q_convm_u64 Try.runUnderlying3 Try.runUnderlying43 rfl) ?_
  refine t_call Try.call79 (qwNat hS (by omega) (by omega)) rfl ?_
  rintro e w ⟨A22, n22, c22, rfl, hn22, hS⟩
  refine ⟨_, rfl, ?_⟩
  have ht22 := enc_ten (n := ([x.kind, x.frm, x.to].getD j 0).toNat) (by omega)
  refine t_append_own (size := 1) (bytes := 1) Try.underlying25 (info_of Try.type5) rfl rfl rfl rfl (by decide) hS (by repeat constructor) (by repeat constructor) rfl rfl (by first | exact allOne_bv _ | exact allOne_ints _ _ | rfl) (by unfold maxLen; omega) (by omega) (fun A23 c23 w hS => ?_)
  skip
  refine t_q (q_as (.slice _ _ _) rfl) ?_
  refine t_nil (c_region ?_)
  refine t_q (q_add_i64 rfl rfl (by omega)) ?_
  refine t_q (q_mv (.int _ _) rfl) ?_
  refine t_nil ?_
  have h23 := (hS.pick (A := rowA 5 1 A23 _ c23 _) (by repeat constructor)).recast (show _ = rowA 5 1 A23 (m + n22) c23 ((([x.kind, x.frm, x.to].take (j + 1)).flatMap (fun n => enc n.toNat)).map bv) from by rw [take3 (by omega), List.map_append])
  refine ⟨k - 1, by omega, j + 1, A23, _, c23, rfl, rfl, ?_, by omega, by omega, ((((h23.pick (A := bmA g1 119 x) (by repeat constructor)).pick (A := rowA 3 1 (some ⟨g13, 0, none⟩) _ _ _) (by repeat constructor)).pick (A := rowA 5 1 A23 _ c23 _) (by repeat constructor))).front3⟩
  rw [take3 (by omega), List.length_append, hm, hn22]
 ·
  intro hc2
  have hc2d := of_decide_eq_false hc2
  obtain rfl : j = 3 := by omega
  refine c_exit ?_
  refine ite_t rfl ?_
  refine c_seq (c_region ?_)
  refine t_q (q_mv (.slice _ _ _) rfl) ?_
  refine t_q (q_fieldAddr 3 Try.runUnderlying119 rfl Try.sizeOf43 (by decide) rfl rfl) ?_
  refine t_q (q_load1 Try.isAgg43 rfl (hS.cell (by repeat constructor) rfl)) ?_
  refine t_call Try.call79 (qwNat hS (by omega) (by omega)) rfl ?_
  rintro e w ⟨A28, n28, c28, rfl, hn28, hS⟩
  refine ⟨_, rfl, ?_⟩
  have ht28 := enc_ten (n := x.term.toNat) (by omega)
  refine t_append_own (size := 1) (bytes := 1) Try.underlying25 (info_of Try.type5) rfl rfl rfl rfl (by decide) hS (by repeat constructor) (by repeat constructor) rfl rfl (by first | exact allOne_bv _ | exact allOne_ints _ _ | rfl) (by unfold maxLen; omega) (by omega) (fun A29 c29 w hS => ?_)
  replace hS := (hS.pick (A := rowA 5 1 A29 _ c29 _) (by repeat constructor)).recast (show _ = rowA 5 1 A29 (m + n28) c29 (((([x.kind, x.frm, x.to].take 3).flatMap (fun n => enc n.toNat) ++ enc x.term.toNat)).map bv) from by simp only [List.map_append])
  refine t_q (q_as (.slice _ _ _) rfl) ?_
  refine t_nil (c_seq (c_seq (c_region ?_)))
  refine t_q (q_fieldAddr 0 Try.runUnderlying119 rfl Try.sizeOf3 (by decide) rfl rfl) ?_
  refine t_q (q_cast (v' := .int .i64 8) (q_load1 Try.isAgg3 rfl (hS.cell (by repeat constructor) rfl)) (by rw [hk])) ?_
  refine t_nil (c_block (c_seq (c_region ?_)))
  refine t_q (q_eql rfl rfl) ?_
  refine t_q (q_as (.bool _) rfl) ?_
  refine t_nil ?_
  refine c_cond_f rfl rfl ?_
  refine c_seq (c_region ?_)
  refine t_q (q_eql rfl rfl) ?_
  refine t_q (q_as (.bool _) rfl) ?_
  refine t_nil ?_
  refine c_cond_f rfl rfl ?_
  refine c_seq (c_region ?_)
  refine t_q (q_eql rfl rfl) ?_
  refine t_q (q_as (.bool _) rfl) ?_
  refine t_nil ?_
  refine c_cond_f rfl rfl ?_
  refine c_seq (c_region ?_)
  refine t_q (q_eql rfl rfl) ?_
  refine t_q (q_as (.bool _) rfl) ?_
  refine t_nil ?_
  refine c_cond_f rfl rfl ?_
  refine c_seq (c_region ?_)
  refine t_q (q_eql rfl rfl) ?_
  refine t_q (q_as (.bool _) rfl) ?_
  refine t_nil ?_
  refine c_cond_f rfl rfl ?_
  refine c_seq (c_region ?_)
  refine t_q (q_eql rfl rfl) ?_
  refine t_q (q_as (.bool _) rfl) ?_
  refine t_nil ?_
  refine c_cond_f rfl rfl ?_
  refine c_seq (c_region ?_)
  refine t_q (q_eql rfl rfl) ?_
  refine t_q (q_as (.bool _) rfl) ?_
  refine t_nil ?_
  refine c_cond_f rfl rfl ?_
  refine c_seq (c_region ?_)
  refine t_q (q_eql rfl rfl) ?_
  refine t_q (q_as (.bool _) rfl) ?_
  refine t_nil ?_
  refine c_cond_t rfl rfl ?_
  refine c_seq (c_region ?_)
  refine t_q (q_mv (.slice _ _ _) rfl) ?_
  refine t_q (q_fieldAddr 10 Try.runUnderlying119 rfl Try.sizeOf43 (by decide) rfl rfl) ?_
  refine t_q (q_load1 Try.isAgg43 rfl (hS.cell (by repeat constructor) rfl)) ?_
  refine t_call Try.call79 (qwNat hS (by omega) (by omega)) rfl ?_
  rintro e w ⟨A160, n160, c160, rfl, hn160, hS⟩
  refine ⟨_, rfl, ?_⟩
  have ht160 := enc_ten (n := x.client.toNat) (by omega)
  refine t_append_own (size := 1) (bytes := 1) Try.underlying25 (info_of Try.type5) rfl rfl rfl rfl (by decide) hS (by repeat constructor) (by repeat constructor) rfl rfl (by first | exact allOne_bv _ | exact allOne_ints _ _ | rfl) (by unfold maxLen; omega) (by omega) (fun A161 c161 w hS => ?_)
  replace hS := (hS.pick (A := rowA 5 1 A161 _ c161 _) (by repeat constructor)).recast (show _ = rowA 5 1 A161 ((m + n28) + n160) c161 ((((([x.kind, x.frm, x.to].take 3).flatMap (fun n => enc n.toNat) ++ enc x.term.toNat) ++ enc x.client.toNat)).map bv) from by simp only [List.map_append])
  refine t_q (q_as (.slice _ _ _) rfl) ?_
  refine t_nil (c_seq (c_region ?_))
  refine t_q (q_mv (.slice _ _ _) rfl) ?_
  refine t_q (q_fieldAddr 11 Try.runUnderlying119 rfl Try.sizeOf43 (by decide) rfl rfl) ?_
  refine t_q (q_load1 Try.isAgg43 rfl (hS.cell (by repeat constructor) rfl)) ?_
  refine t_call Try.call79 (qwNat hS (by omega) (by omega)) rfl ?_
  rintro e w ⟨A165, n165, c165, rfl, hn165, hS⟩
  refine ⟨_, rfl, ?_⟩
  have ht165 := enc_ten (n := x.req.toNat) (by omega)
  refine t_append_own (size := 1) (bytes := 1) Try.underlying25 (info_of Try.type5) rfl rfl rfl rfl (by decide) hS (by repeat constructor) (by repeat constructor) rfl rfl (by first | exact allOne_bv _ | exact allOne_ints _ _ | rfl) (by unfold maxLen; omega) (by omega) (fun A166 c166 w hS => ?_)
  replace hS := (hS.pick (A := rowA 5 1 A166 _ c166 _) (by repeat constructor)).recast (show _ = rowA 5 1 A166 (((m + n28) + n160) + n165) c166 (((((([x.kind, x.frm, x.to].take 3).flatMap (fun n => enc n.toNat) ++ enc x.term.toNat) ++ enc x.client.toNat) ++ enc x.req.toNat)).map bv) from by simp only [List.map_append])
  refine t_q (q_as (.slice _ _ _) rfl) ?_
  refine t_nil (c_region ?_)
  refine t_q (q_mv (.slice _ _ _) rfl) ?_
  refine t_q (q_fieldAddr 12 Try.runUnderlying119 rfl Try.sizeOf112 (by decide) rfl rfl) ?_
  refine t_q (q_load1 Try.isAgg112 rfl (hS.cell (by repeat constructor) rfl)) ?_
  refine t_call Try.call140 (qeput_calls (l := x.events.l) (Rd.st hx.vrd hS) hx.vin hx.vle) rfl ?_
  rintro e w ⟨A170, n170, c170, rfl, hn170, hT⟩
  refine ⟨_, rfl, ?_⟩
  have hS : St W w (_ :: _ :: _) := hS.lift hT
  refine t_append_own (size := 1) (bytes := 1) Try.underlying25 (info_of Try.type5) rfl rfl rfl rfl (by decide) hS (by repeat constructor) (by repeat constructor) rfl rfl (by first | exact allOne_bv _ | exact allOne_ints _ _ | rfl) (by unfold maxLen; omega) (by omega) (fun A171 c171 w hS => ?_)
  replace hS := (hS.pick (A := rowA 5 1 A171 _ c171 _) (by repeat constructor)).recast (show _ = rowA 5 1 A171 ((((m + n28) + n160) + n165) + n170) c171 ((((((([x.kind, x.frm, x.to].take 3).flatMap (fun n => enc n.toNat) ++ enc x.term.toNat) ++ enc x.client.toNat) ++ enc x.req.toNat) ++ evsB x.events.l)).map bv) from by simp only [List.map_append])
  refine t_q (q_as (.slice _ _ _) rfl) ?_
  refine t_nil (c_seq (c_region ?_))
  refine t_q (q_mv (.slice _ _ _) rfl) ?_
  refine t_q (q_as (.slice _ _ _) rfl) ?_
  refine t_nil (c_ret ?_)
  refine r_one rfl rfl ?_
  have h := (hS.pick (A := rowA 5 1 A171 _ c171 _) (by repeat constructor)).front1
  rw [eX] at h
  exact ⟨A171, _, c171, rfl, by rw [← eX]; simp only [List.length_append]; omega, h⟩
set_option maxHeartbeats 2000000 in
set_option maxRecDepth 100000 in
theorem qwbody_3 {x : MsgV} (hx : x.Gd W) (hs : Snd x) (hk : x.kind = 3) (h8 : (wb8 30 x).length ≤ 2000000) : Calls Try.prog 115 #[.agg x.cells.toArray] W fun e w' => ∃ A' m' c', e = .returned (.slice A' m' c') ∧ m' = (wb8 30 x).length ∧ St W w' [rowA 5 1 A' m' c' ((wb8 30 x).map bv)] := by
 have hS := St.init W
 have q0 := hs.kind
 have q1 := hs.frm
 have q2 := hs.to
 have q3 := hs.ents
 have q4 := hx.term
 have q6 := hx.index
 have q7 := hx.logTerm
 have q8 := hx.commit
 have eX : (((((([x.kind, x.frm, x.to].take 3).flatMap (fun n => enc n.toNat) ++ enc x.term.toNat) ++ enc x.index.toNat) ++ enc x.logTerm.toNat) ++ enc x.commit.toNat) ++ enc x.entries.l.length) ++ x.entries.l.flatMap entB = wb8 30 x := by
   have e : wb8 30 x = (((((wb0 x ++ enc x.index.toNat) ++ enc x.logTerm.toNat) ++ enc x.commit.toNat) ++ enc x.entries.l.length) ++ x.entries.l.flatMap entB) := rfl
   rw [e]
   simp [wb0]
 have hel := ents_len x.entries.l hx.eok hs.ebody
 have p1 := enc_ten (n := x.kind.toNat) (by omega)
 have p2 := enc_ten (n := x.frm.toNat) (by omega)
 have p3 := enc_ten (n := x.to.toNat) (by omega)
 refine calls_of_wpE (args := [_]) Try.func115 rfl rfl rfl ?_
 refine c_seq (c_region ?_)
 refine t_box (v := (.agg _)) rfl rfl hS (fun g1 w hS => ?_)
 replace hS := hS.recast (show _ = bmA g1 119 x from rfl)
 refine t_q (q_assign) ?_
 refine t_nil (c_seq (c_region ?_))
 refine t_q (q_assign) ?_
 refine t_nil (c_seq (c_seq (c_region ?_)))
 refine t_q (q_fieldAddr 0 Try.runUnderlying119 rfl Try.sizeOf3 (by decide) rfl rfl) ?_
 refine t_q (q_load1 Try.isAgg3 rfl (hS.cell (by repeat constructor) rfl)) ?_
 refine t_q (q_fieldAddr 1 Try.runUnderlying119 rfl Try.sizeOf3 (by decide) rfl rfl) ?_
 refine t_q (q_load1 Try.isAgg3 rfl (hS.cell (by repeat constructor) rfl)) ?_
 refine t_q (q_fieldAddr 2 Try.runUnderlying119 rfl Try.sizeOf3 (by decide) rfl rfl) ?_
 refine t_q (q_load1 Try.isAgg3 rfl (hS.cell (by repeat constructor) rfl)) ?_
 refine t_build_ints [_, _, _] Try.runUnderlying26 Try.sizeOf3 Try.zeroValue3 rfl rfl (by decide) hS (fun g13 w hS => ?_)
 refine t_q (q_len_slice Try.runUnderlying26 rfl) ?_
 refine t_q (q_move) ?_
 refine t_nil (c_block ?_)
 refine c_loop [3, 5, 15, 16, 17, 18, 19, 20, 21, 22, 23, 24] (fun k σ w => ∃ (j : Nat) (A' : Option Addr) (m c' : Nat), σ 15 = .int .i64 (j : Int) ∧ σ 3 = .slice A' m c' ∧ m = (([x.kind, x.frm, x.to].take j).flatMap (fun n => enc n.toNat)).length ∧ j ≤ 3 ∧ 3 - j ≤ k ∧ St W w [rowA 5 1 A' m c' ((([x.kind, x.frm, x.to].take j).flatMap (fun n => enc n.toNat)).map bv), rowA 3 1 (some ⟨g13, 0, none⟩) 3 3 ([x.kind, x.frm, x.to].map (Value.int .i64)), bmA g1 119 x]) (3) rfl (⟨0, none, 0, 0, rfl, rfl, rfl, by omega, by omega, (((((hS.nilrow 5 1).pick (A := bmA g1 119 x) (by repeat constructor)).pick (A := rowA 3 1 (some ⟨g13, 0, none⟩) _ _ _) (by repeat constructor)).pick (A := rowA 5 1 none 0 0 []) (by repeat constructor)))⟩) ?_
 skip
 rintro k σ w ⟨j, A', m, c', h15, h3, hm, hj, hk2, hS⟩
 refine c_know 15 h15 ?_
 refine c_know 3 h3 ?_
 clear h15 h3
 have hgd : 0 ≤ ([x.kind, x.frm, x.to].getD j 0) ∧ ([x.kind, x.frm, x.to].getD j 0) < 100 := by
   match j, hj with
   | 0, _ => exact ⟨by show 0 ≤ x.kind; omega, by show x.kind < 100; omega⟩
   | 1, _ => exact ⟨q1.1, by show x.frm < 100; omega⟩
   | 2, _ => exact ⟨q2.1, by show x.to < 100; omega⟩
   | 3, _ => exact ⟨(by decide : (0 : Int) ≤ 0), (by decide : (0 : Int) < 100)⟩
 have hmb : m ≤ 30 := by
   rw [hm]
   match j, hj with
   | 0, _ => simp
   | 1, _ => simp; omega
   | 2, _ => simp; omega
   | 3, _ => simp; omega
 refine c_seq (c_region ?_)
 refine t_q (q_lss rfl rfl) ?_
 refine t_nil (c_seq ?_)
 refine c_cond rfl ?_ ?_
 ·
  intro hc2
  have hc2d := of_decide_eq_true hc2
  refine c_skip (c_seq (c_block (c_seq (c_region ?_))))
  first | refine t_index_nat Try.runUnderlying26 Try.sizeOf3 (hS.rowInts (ns := [x.kind, x.frm, x.to]) (by repeat constructor) rfl) rfl rfl (by have : [x.kind, x.frm, x.to].length = 3 := rfl; omega) (fun ad3 hl3 hx3 => ?_) | refine t_index Try.runUnderlying26 Try.sizeOf3 (hS.rowInts (ns := [x.kind, x.frm, x.to]) (by repeat constructor) rfl) rfl rfl (by have : [x.kind, x.frm, x.to].length = 3 := rfl; omega) (fun ad3 hl3 hx3 => ?_)
  refine t_q (q_load1 Try.isAgg3 rfl (hx3 0 _ rfl)) ?_
  refine t_q (q_as (.int _ _) rfl) ?_
  refine t_nil (c_region ?_)
  refine t_q (q_mv (.slice _ _ _) rfl) ?_
  refine t_q (q_mv (.int _ _) rfl) ?_
  first | refine t_q (q_conv_u64 Try.runUnderlying3 Try.runUnderlying43 rfl (by omega)) ?_ | refine t_q (q_convm_u64 Try.runUnderlying3 Try.runUnderlying43 rfl) ?_
  refine t_call Try.call79 (qwNat hS (by omega) (by omega)) rfl ?_
  rintro e w ⟨A22, n22, c22, rfl, hn22, hS⟩
  refine ⟨_, rfl, ?_⟩
  have ht22 := enc_ten (n := ([x.kind, x.frm, x.to].getD j 0).toNat) (by omega)
  refine t_append_own (size := 1) (bytes := 1) Try.underlying25 (info_of Try.type5) rfl rfl rfl rfl (by decide) hS (by repeat constructor) (by repeat constructor) rfl rfl (by first | exact allOne_bv _ | exact allOne_ints _ _ | rfl) (by unfold maxLen; omega) (by omega) (fun A23 c23 w hS => ?_)
  skip
  refine t_q (q_as (.slice _ _ _) rfl) ?_
  refine t_nil (c_region ?_)
  refine t_q (q_add_i64 rfl rfl (by omega)) ?_
  refine t_q (q_mv (.int _ _) rfl) ?_
  refine t_nil ?_
  have h23 := (hS.pick (A := rowA 5 1 A23 _ c23 _) (by repeat constructor)).recast (show _ = rowA 5 1 A23 (m + n22) c23 ((([x.kind, x.frm, x.to].take (j + 1)).flatMap (fun n => enc n.toNat)).map bv) from by rw [take3 (by omega), List.map_append])
  refine ⟨k - 1, by omega, j + 1, A23, _, c23, rfl, rfl, ?_, by omega, by omega, ((((h23.pick (A := bmA g1 119 x) (by repeat constructor)).pick (A := rowA 3 1 (some ⟨g13, 0, none⟩) _ _ _) (by repeat constructor)).pick (A := rowA 5 1 A23 _ c23 _) (by repeat constructor))).front3⟩
  rw [take3 (by omega), List.length_append, hm, hn22]
 ·
  intro hc2
  have hc2d := of_decide_eq_false hc2
  obtain rfl : j = 3 := by omega
  refine c_exit ?_
  refine ite_t rfl ?_
  refine c_seq (c_region ?_)
  refine t_q (q_mv (.slice _ _ _) rfl) ?_
  refine t_q (q_fieldAddr 3 Try.runUnderlying119 rfl Try.sizeOf43 (by decide) rfl rfl) ?_
  refine t_q (q_load1 Try.isAgg43 rfl (hS.cell (by repeat constructor) rfl)) ?_
  refine t_call Try.call79 (qwNat (n := x.term) hS (by omega) (by omega)) rfl ?_
  rintro e w ⟨A28, n28, c28, rfl, hn28, hS⟩
  refine ⟨_, rfl, ?_⟩
  have ht28 := enc_ten (n := x.term.toNat) (by omega)
  refine t_append_own (size := 1) (bytes := 1) Try.underlying25 (info_of Try.type5) rfl rfl rfl rfl (by decide) hS (by repeat constructor) (by repeat constructor) rfl rfl (by first | exact allOne_bv _ | exact allOne_ints _ _ | rfl) (by unfold maxLen; omega) (by omega) (fun A29 c29 w hS => ?_)
  replace hS := (hS.pick (A := rowA 5 1 A29 _ c29 _) (by repeat constructor)).recast (show _ = rowA 5 1 A29 (m + n28) c29 (((([x.kind, x.frm, x.to].take 3).flatMap (fun n => enc n.toNat) ++ enc x.term.toNat)).map bv) from by simp only [List.map_append])
  refine t_q (q_as (.slice _ _ _) rfl) ?_
  refine t_nil (c_seq (c_seq (c_region ?_)))
  refine t_q (q_fieldAddr 0 Try.runUnderlying119 rfl Try.sizeOf3 (by decide) rfl rfl) ?_
  refine t_q (q_cast (v' := .int .i64 3) (q_load1 Try.isAgg3 rfl (hS.cell (by repeat constructor) rfl)) (by rw [hk])) ?_
  refine t_nil (c_block (c_seq (c_region ?_)))
  refine t_q (q_eql rfl rfl) ?_
  refine t_q (q_as (.bool _) rfl) ?_
  refine t_nil ?_
  refine c_cond_f rfl rfl ?_
  refine c_seq (c_region ?_)
  refine t_q (q_eql rfl rfl) ?_
  refine t_q (q_as (.bool _) rfl) ?_
  refine t_nil ?_
  refine c_cond_f rfl rfl ?_
  refine c_seq (c_region ?_)
  refine t_q (q_eql rfl rfl) ?_
  refine t_q (q_as (.bool _) rfl) ?_
  refine t_nil ?_
  refine c_cond_t rfl rfl ?_
  refine c_seq (c_region ?_)
  refine t_q (q_mv (.slice _ _ _) rfl) ?_
  refine t_q (q_fieldAddr 4 Try.runUnderlying119 rfl Try.sizeOf43 (by decide) rfl rfl) ?_
  refine t_q (q_load1 Try.isAgg43 rfl (hS.cell (by repeat constructor) rfl)) ?_
  refine t_call Try.call79 (qwNat (n := x.index) hS (by omega) (by omega)) rfl ?_
  rintro e w ⟨A56, n56, c56, rfl, hn56, hS⟩
  refine ⟨_, rfl, ?_⟩
  have ht56 := enc_ten (n := x.index.toNat) (by omega)
  refine t_append_own (size := 1) (bytes := 1) Try.underlying25 (info_of Try.type5) rfl rfl rfl rfl (by decide) hS (by repeat constructor) (by repeat constructor) rfl rfl (by first | exact allOne_bv _ | exact allOne_ints _ _ | rfl) (by unfold maxLen; omega) (by omega) (fun A57 c57 w hS => ?_)
  replace hS := (hS.pick (A := rowA 5 1 A57 _ c57 _) (by repeat constructor)).recast (show _ = rowA 5 1 A57 ((m + n28) + n56) c57 ((((([x.kind, x.frm, x.to].take 3).flatMap (fun n => enc n.toNat) ++ enc x.term.toNat) ++ enc x.index.toNat)).map bv) from by simp only [List.map_append])
  refine t_q (q_as (.slice _ _ _) rfl) ?_
  refine t_nil (c_seq (c_region ?_))
  refine t_q (q_mv (.slice _ _ _) rfl) ?_
  refine t_q (q_fieldAddr 5 Try.runUnderlying119 rfl Try.sizeOf43 (by decide) rfl rfl) ?_
  refine t_q (q_load1 Try.isAgg43 rfl (hS.cell (by repeat constructor) rfl)) ?_
  refine t_call Try.call79 (qwNat (n := x.logTerm) hS (by omega) (by omega)) rfl ?_
  rintro e w ⟨A61, n61, c61, rfl, hn61, hS⟩
  refine ⟨_, rfl, ?_⟩
  have ht61 := enc_ten (n := x.logTerm.toNat) (by omega)
  refine t_append_own (size := 1) (bytes := 1) Try.underlying25 (info_of Try.type5) rfl rfl rfl rfl (by decide) hS (by repeat constructor) (by repeat constructor) rfl rfl (by first | exact allOne_bv _ | exact allOne_ints _ _ | rfl) (by unfold maxLen; omega) (by omega) (fun A62 c62 w hS => ?_)
  replace hS := (hS.pick (A := rowA 5 1 A62 _ c62 _) (by repeat constructor)).recast (show _ = rowA 5 1 A62 (((m + n28) + n56) + n61) c62 (((((([x.kind, x.frm, x.to].take 3).flatMap (fun n => enc n.toNat) ++ enc x.term.toNat) ++ enc x.index.toNat) ++ enc x.logTerm.toNat)).map bv) from by simp only [List.map_append])
  refine t_q (q_as (.slice _ _ _) rfl) ?_
  refine t_nil (c_seq (c_region ?_))
  refine t_q (q_mv (.slice _ _ _) rfl) ?_
  refine t_q (q_fieldAddr 6 Try.runUnderlying119 rfl Try.sizeOf43 (by decide) rfl rfl) ?_
  refine t_q (q_load1 Try.isAgg43 rfl (hS.cell (by repeat constructor) rfl)) ?_
  refine t_call Try.call79 (qwNat (n := x.commit) hS (by omega) (by omega)) rfl ?_
  rintro e w ⟨A66, n66, c66, rfl, hn66, hS⟩
  refine ⟨_, rfl, ?_⟩
  have ht66 := enc_ten (n := x.commit.toNat) (by omega)
  refine t_append_own (size := 1) (bytes := 1) Try.underlying25 (info_of Try.type5) rfl rfl rfl rfl (by decide) hS (by repeat constructor) (by repeat constructor) rfl rfl (by first | exact allOne_bv _ | exact allOne_ints _ _ | rfl) (by unfold maxLen; omega) (by omega) (fun A67 c67 w hS => ?_)
  replace hS := (hS.pick (A := rowA 5 1 A67 _ c67 _) (by repeat constructor)).recast (show _ = rowA 5 1 A67 ((((m + n28) + n56) + n61) + n66) c67 ((((((([x.kind, x.frm, x.to].take 3).flatMap (fun n => enc n.toNat) ++ enc x.term.toNat) ++ enc x.index.toNat) ++ enc x.logTerm.toNat) ++ enc x.commit.toNat)).map bv) from by simp only [List.map_append])
  refine t_q (q_as (.slice _ _ _) rfl) ?_
  refine t_nil (c_seq (c_region ?_))
  refine t_q (q_mv (.slice _ _ _) rfl) ?_
  refine t_q (q_fieldAddr 8 Try.runUnderlying119 rfl Try.sizeOf117 (by decide) rfl rfl) ?_
  refine t_q (q_load1 Try.isAgg117 rfl (hS.cell (by repeat constructor) rfl)) ?_
  refine t_q (q_len_slice Try.runUnderlying117 rfl) ?_
  first | refine t_q (q_conv_u64 Try.runUnderlying3 Try.runUnderlying43 rfl (by omega)) ?_ | refine t_q (q_convm_u64 Try.runUnderlying3 Try.runUnderlying43 rfl) ?_
  refine t_call Try.call79 (qwNat (n := (x.entries.l.length : Int)) hS (by omega) (by omega)) rfl ?_
  rintro e w ⟨A73, n73, c73, rfl, hn73, hS⟩
  refine ⟨_, rfl, ?_⟩
  rw [Int.toNat_natCast] at hn73 hS
  have ht73 := enc_ten (n := x.entries.l.length) (by omega)
  refine t_append_own (size := 1) (bytes := 1) Try.underlying25 (info_of Try.type5) rfl rfl rfl rfl (by decide) hS (by repeat constructor) (by repeat constructor) rfl rfl (by first | exact allOne_bv _ | exact allOne_ints _ _ | rfl) (by unfold maxLen; omega) (by omega) (fun A74 c74 w hS => ?_)
  replace hS := (hS.pick (A := rowA 5 1 A74 _ c74 _) (by repeat constructor)).recast (show _ = rowA 5 1 A74 (((((m + n28) + n56) + n61) + n66) + n73) c74 (((((((([x.kind, x.frm, x.to].take 3).flatMap (fun n => enc n.toNat) ++ enc x.term.toNat) ++ enc x.index.toNat) ++ enc x.logTerm.toNat) ++ enc x.commit.toNat) ++ enc x.entries.l.length)).map bv) from by simp only [List.map_append])
  refine t_q (q_as (.slice _ _ _) rfl) ?_
  refine t_nil (c_seq (c_region ?_))
  refine t_q (q_assign) ?_
  refine t_nil (c_block ?_)
  refine c_loop [3, 6, 75, 76, 77, 78, 79, 80, 81, 82, 83, 84, 85, 86, 87, 88, 89, 90, 91, 92, 93, 94, 95, 96, 97, 98, 99, 100, 101, 102, 103, 104, 105, 106, 107, 108, 109] (fun k σ w => ∃ (j : Nat) (Ae : Option Addr) (me ce : Nat), σ 6 = .int .i64 (j : Int) ∧ σ 3 = .slice Ae me ce ∧ me = ((((((([x.kind, x.frm, x.to].take 3).flatMap (fun n => enc n.toNat) ++ enc x.term.toNat) ++ enc x.index.toNat) ++ enc x.logTerm.toNat) ++ enc x.commit.toNat) ++ enc x.entries.l.length) ++ (x.entries.l.take j).flatMap entB).length ∧ j ≤ x.entries.l.length ∧ x.entries.l.length - j ≤ k ∧ St W w [rowA 5 1 Ae me ce ((((((((([x.kind, x.frm, x.to].take 3).flatMap (fun n => enc n.toNat) ++ enc x.term.toNat) ++ enc x.index.toNat) ++ enc x.logTerm.toNat) ++ enc x.commit.toNat) ++ enc x.entries.l.length) ++ (x.entries.l.take j).flatMap entB)).map bv), bmA g1 119 x]) (x.entries.l.length) rfl (⟨0, A74, _, c74, rfl, rfl, by simp only [List.length_append]; rw [List.take_zero, List.flatMap_nil, List.length_nil]; omega, by omega, by omega, by have h := (((hS.pick (A := bmA g1 119 x) (by repeat constructor)).pick (A := rowA 5 1 A74 _ c74 _) (by repeat constructor))).front2; rw [List.take_zero, List.flatMap_nil, List.append_nil]; exact h⟩) ?_
  skip
  rintro k σ w ⟨j, Ae, me, ce, h6, h3, hme, hj, hk2, hS⟩
  refine c_know 6 h6 ?_
  refine c_know 3 h3 ?_
  clear h6 h3
  have hgj : ∀ (h : j < x.entries.l.length), (x.entries.l.getD j default).Gd W ∧ (x.entries.l.getD j default).body.l.length ≤ 512 := fun h => ⟨hx.eok _ (getD_mem h), hs.ebody _ (getD_mem h)⟩
  have lp : ((x.entries.l.take j).flatMap entB).length ≤ 542 * 32 := by
    have h := ents_len (x.entries.l.take j) (fun e he => hx.eok e (List.mem_of_mem_take he)) (fun e he => hs.ebody e (List.mem_of_mem_take he))
    rw [List.length_take] at h
    omega
  have lx : (((((([x.kind, x.frm, x.to].take 3).flatMap (fun n => enc n.toNat) ++ enc x.term.toNat) ++ enc x.index.toNat) ++ enc x.logTerm.toNat) ++ enc x.commit.toNat) ++ enc x.entries.l.length).length ≤ 100 := by
    simp only [List.length_append]
    omega
  have lme : me ≤ 18000 := by rw [hme, List.length_append]; omega
  refine c_seq (c_seq (c_region ?_))
  refine t_q (q_mv (.int _ _) rfl) ?_
  refine t_q (q_fieldAddr 8 Try.runUnderlying119 rfl Try.sizeOf117 (by decide) rfl rfl) ?_
  refine t_q (q_load1 Try.isAgg117 rfl (hS.cell (by repeat constructor) rfl)) ?_
  refine t_q (q_len_slice Try.runUnderlying117 rfl) ?_
  refine t_q (q_lss rfl rfl) ?_
  refine t_nil ?_
  refine c_cond rfl ?_ ?_
  ·
   intro hc14
   have hc14d := of_decide_eq_true hc14
   obtain ⟨hzg, hz5⟩ := hgj (by omega)
   have hzi := hzg.index
   have hzt := hzg.term
   refine c_skip (c_seq (c_block (c_seq (c_region ?_))))
   refine t_q (q_mv (.slice _ _ _) rfl) ?_
   refine t_q (q_fieldAddr 8 Try.runUnderlying119 rfl Try.sizeOf117 (by decide) rfl rfl) ?_
   refine t_q (q_load1 Try.isAgg117 rfl (hS.cell (by repeat constructor) rfl)) ?_
   refine t_q (q_mv (.int _ _) rfl) ?_
   first | refine t_index_nat Try.runUnderlying117 Try.sizeOf174 (Rd.st hx.erd hS) rfl rfl (by omega) (fun ad15 hl15 hx15 => ?_) | refine t_index Try.runUnderlying117 Try.sizeOf174 (Rd.st hx.erd hS) rfl rfl (by omega) (fun ad15 hl15 hx15 => ?_)
   refine t_q (q_fieldAddr 0 Try.runUnderlying174 rfl Try.sizeOf43 (by decide) rfl rfl) ?_
   refine t_q (q_load1 Try.isAgg43 rfl (hx15 0 _ rfl)) ?_
   refine t_call Try.call79 (qwNat (n := (x.entries.l.getD j default).index) hS (by omega) (by omega)) rfl ?_
   rintro e w ⟨A89, n89, c89, rfl, hn89, hS⟩
   refine ⟨_, rfl, ?_⟩
   have ht89 := enc_ten (n := (x.entries.l.getD j default).index.toNat) (by omega)
   refine t_append_own (size := 1) (bytes := 1) Try.underlying25 (info_of Try.type5) rfl rfl rfl rfl (by decide) hS (by repeat constructor) (by repeat constructor) rfl rfl (by first | exact allOne_bv _ | exact allOne_ints _ _ | rfl) (by unfold maxLen; omega) (by omega) (fun A90 c90 w hS => ?_)
   replace hS := (hS.pick (A := rowA 5 1 A90 _ c90 _) (by repeat constructor)).recast (show _ = rowA 5 1 A90 (me + n89) c90 (((((((((([x.kind, x.frm, x.to].take 3).flatMap (fun n => enc n.toNat) ++ enc x.term.toNat) ++ enc x.index.toNat) ++ enc x.logTerm.toNat) ++ enc x.commit.toNat) ++ enc x.entries.l.length) ++ (x.entries.l.take j).flatMap entB) ++ enc (x.entries.l.getD j default).index.toNat)).map bv) from by simp only [List.map_append])
   refine t_q (q_as (.slice _ _ _) rfl) ?_
   refine t_nil (c_seq (c_region ?_))
   refine t_q (q_mv (.slice _ _ _) rfl) ?_
   refine t_q (q_fieldAddr 8 Try.runUnderlying119 rfl Try.sizeOf117 (by decide) rfl rfl) ?_
   refine t_q (q_load1 Try.isAgg117 rfl (hS.cell (by repeat constructor) rfl)) ?_
   refine t_q (q_mv (.int _ _) rfl) ?_
   first | refine t_index_nat Try.runUnderlying117 Try.sizeOf174 (Rd.st hx.erd hS) rfl rfl (by omega) (fun ad17 hl17 hx17 => ?_) | refine t_index Try.runUnderlying117 Try.sizeOf174 (Rd.st hx.erd hS) rfl rfl (by omega) (fun ad17 hl17 hx17 => ?_)
   refine t_q (q_fieldAddr 1 Try.runUnderlying174 rfl Try.sizeOf43 (by decide) rfl rfl) ?_
   refine t_q (q_load1 Try.isAgg43 rfl (hx17 1 _ rfl)) ?_
   refine t_call Try.call79 (qwNat (n := (x.entries.l.getD j default).term) hS (by omega) (by omega)) rfl ?_
   rintro e w ⟨A98, n98, c98, rfl, hn98, hS⟩
   refine ⟨_, rfl, ?_⟩
   have ht98 := enc_ten (n := (x.entries.l.getD j default).term.toNat) (by omega)
   refine t_append_own (size := 1) (bytes := 1) Try.underlying25 (info_of Try.type5) rfl rfl rfl rfl (by decide) hS (by repeat constructor) (by repeat constructor) rfl rfl (by first | exact allOne_bv _ | exact allOne_ints _ _ | rfl) (by unfold maxLen; omega) (by omega) (fun A99 c99 w hS => ?_)
   replace hS := (hS.pick (A := rowA 5 1 A99 _ c99 _) (by repeat constructor)).recast (show _ = rowA 5 1 A99 ((me + n89) + n98) c99 ((((((((((([x.kind, x.frm, x.to].take 3).flatMap (fun n => enc n.toNat) ++ enc x.term.toNat) ++ enc x.index.toNat) ++ enc x.logTerm.toNat) ++ enc x.commit.toNat) ++ enc x.entries.l.length) ++ (x.entries.l.take j).flatMap entB) ++ enc (x.entries.l.getD j default).index.toNat) ++ enc (x.entries.l.getD j default).term.toNat)).map bv) from by simp only [List.map_append])
   refine t_q (q_as (.slice _ _ _) rfl) ?_
   refine t_nil (c_region ?_)
   refine t_q (q_mv (.slice _ _ _) rfl) ?_
   refine t_q (q_fieldAddr 8 Try.runUnderlying119 rfl Try.sizeOf117 (by decide) rfl rfl) ?_
   refine t_q (q_load1 Try.isAgg117 rfl (hS.cell (by repeat constructor) rfl)) ?_
   refine t_q (q_mv (.int _ _) rfl) ?_
   first | refine t_index_nat Try.runUnderlying117 Try.sizeOf174 (Rd.st hx.erd hS) rfl rfl (by omega) (fun ad19 hl19 hx19 => ?_) | refine t_index Try.runUnderlying117 Try.sizeOf174 (Rd.st hx.erd hS) rfl rfl (by omega) (fun ad19 hl19 hx19 => ?_)
   refine t_q (q_fieldAddr 2 Try.runUnderlying174 rfl Try.sizeOf25 (by decide) rfl rfl) ?_
   refine t_q (q_load1 Try.isAgg25 rfl (hx19 2 _ rfl)) ?_
   refine t_q (q_string Try.runUnderlying25 Try.runUnderlying5 Try.runUnderlying9 rfl rfl (Rd.st hzg.rd hS)) ?_
   refine t_call Try.call130 (qwText (s := ⟨(x.entries.l.getD j default).body.l.toArray⟩) hS (by show (x.entries.l.getD j default).body.l.toArray.size ≤ _; rw [List.size_toArray]; omega)) rfl ?_
   rintro e w ⟨A108, n108, c108, rfl, hn108, hS⟩
   refine ⟨_, rfl, ?_⟩
   have eT : enc (⟨(x.entries.l.getD j default).body.l.toArray⟩ : ByteArray).size ++ (⟨(x.entries.l.getD j default).body.l.toArray⟩ : ByteArray).data.toList = (enc (x.entries.l.getD j default).body.l.length ++ (x.entries.l.getD j default).body.l) := by show enc (x.entries.l.getD j default).body.l.toArray.size ++ (x.entries.l.getD j default).body.l.toArray.toList = _; simp
   rw [eT] at hn108 hS
   have hm108 := hn108
   rw [List.length_append] at hm108
   have ht108 := enc_ten (n := (x.entries.l.getD j default).body.l.length) (by omega)
   refine t_append_own (size := 1) (bytes := 1) Try.underlying25 (info_of Try.type5) rfl rfl rfl rfl (by decide) hS (by repeat constructor) (by repeat constructor) rfl rfl (by first | exact allOne_bv _ | exact allOne_ints _ _ | rfl) (by unfold maxLen; omega) (by omega) (fun A109 c109 w hS => ?_)
   replace hS := (hS.pick (A := rowA 5 1 A109 _ c109 _) (by repeat constructor)).recast (show _ = rowA 5 1 A109 (((me + n89) + n98) + n108) c109 (((((((((((([x.kind, x.frm, x.to].take 3).flatMap (fun n => enc n.toNat) ++ enc x.term.toNat) ++ enc x.index.toNat) ++ enc x.logTerm.toNat) ++ enc x.commit.toNat) ++ enc x.entries.l.length) ++ (x.entries.l.take j).flatMap entB) ++ enc (x.entries.l.getD j default).index.toNat) ++ enc (x.entries.l.getD j default).term.toNat) ++ (enc (x.entries.l.getD j default).body.l.length ++ (x.entries.l.getD j default).body.l))).map bv) from by simp only [List.map_append])
   refine t_q (q_as (.slice _ _ _) rfl) ?_
   refine t_nil (c_region ?_)
   refine t_q (q_mv (.int _ _) rfl) ?_
   refine t_q (q_add_i64 rfl rfl (by omega)) ?_
   refine t_q (q_as (.int _ _) rfl) ?_
   refine t_nil ?_
   have h9 := (hS.pick (A := rowA 5 1 A109 _ c109 _) (by repeat constructor)).recast (show _ = rowA 5 1 A109 (((me + n89) + n98) + n108) c109 ((((((((([x.kind, x.frm, x.to].take 3).flatMap (fun n => enc n.toNat) ++ enc x.term.toNat) ++ enc x.index.toNat) ++ enc x.logTerm.toNat) ++ enc x.commit.toNat) ++ enc x.entries.l.length) ++ (x.entries.l.take (j + 1)).flatMap entB)).map bv) from by rw [entB_take (by omega)]; simp [entB])
   refine ⟨k - 1, by omega, j + 1, A109, _, c109, rfl, rfl, ?_, by omega, by omega, (((h9.pick (A := bmA g1 119 x) (by repeat constructor)).pick (A := rowA 5 1 A109 _ c109 _) (by repeat constructor))).front2⟩
   rw [entB_take (by omega), hme, hn89, hn98, hn108]
   simp [entB]
   omega
  ·
   intro hc14
   have hc14d := of_decide_eq_false hc14
   obtain rfl : j = x.entries.l.length := by omega
   rw [List.take_length, eX] at hS
   rw [List.take_length, eX] at hme
   refine c_exit ?_
   refine ite_t rfl ?_
   refine c_seq (c_region ?_)
   refine t_q (q_mv (.slice _ _ _) rfl) ?_
   refine t_q (q_as (.slice _ _ _) rfl) ?_
   refine t_nil (c_ret ?_)
   refine r_one rfl rfl ?_
   exact ⟨Ae, me, ce, rfl, hme, hS.front1⟩
end Go.Proofs.Ytlppgpidakfnlaa
