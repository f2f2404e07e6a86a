/- What the laws of messages use; whether they may be, and when two are the same: the walk. -/
import Derived.Test.YtlppgpidakfnlaaXi
import Derived.Test.YtlppgpidakfnlaaXf
import Derived.Test.YtlppgpidakfnlaaCl
namespace Go.Proofs.Ytlppgpidakfnlaa
open Go Go.RowKit Go.Lib
variable {W : World}
def lightB (x : MsgV) : Bool := (x.entries.l.all fun e => decide (e.body.l.length ≤ 600)) && decide (x.entries.l.length ≤ 40 ∧ x.body.l.length ≤ 70000 ∧ x.events.l.length ≤ 300)
theorem light_no {x : MsgV} {j : Nat} (hj : j < x.entries.l.length) (h : ¬ (x.entries.l.getD j default).body.l.length ≤ 600) : lightB x = false := by
  cases hb : lightB x with
  | false => rfl
  | true =>
    unfold lightB at hb
    simp only [Bool.and_eq_true, List.all_eq_true, decide_eq_true_eq] at hb
    exact absurd (hb.1 _ (getD_mem (d := default) hj)) h
theorem light_yes {x : MsgV} (h : ∀ j, j < x.entries.l.length → (x.entries.l.getD j default).body.l.length ≤ 600) : lightB x = decide (x.entries.l.length ≤ 40 ∧ x.body.l.length ≤ 70000 ∧ x.events.l.length ≤ 300) := by
  unfold lightB
  have : (x.entries.l.all fun e => decide (e.body.l.length ≤ 600)) = true := by
    rw [List.all_eq_true]
    intro e he
    obtain ⟨j, hj, rfl⟩ := List.mem_iff_getElem.1 he
    have := h j hj
    rw [List.getD_eq_getElem?_getD, List.getElem?_eq_getElem hj] at this
    exact decide_eq_true this
  rw [this, Bool.true_and]
theorem light_gd {x : MsgV} (hx : x.Ok W) (h : lightB x = true) : x.Gd W := by
  unfold lightB at h
  simp only [Bool.and_eq_true, List.all_eq_true, decide_eq_true_eq] at h
  exact hx.gd h.2.1 h.2.2.1 h.2.2.2 h.1
attribute [local irreducible] blkA rowA rdrA
set_option maxHeartbeats 1000000 in
set_option maxRecDepth 100000 in
theorem wlight_calls {x : MsgV} (hx : x.Ok W) : Calls Try.prog 57 #[.agg x.cells.toArray] W fun e w' => e = .returned (.bool (lightB x)) ∧ St W w' [] := by
 have hS := St.init W
 have hle := hx.entries.le
 refine calls_of_wpE (args := [_]) Try.func57 rfl rfl rfl ?_
 refine c_seq ?_
 refine c_region ?_
 refine t_box (v := (.agg _)) rfl rfl hS (fun g1 w hS => ?_)
 replace hS := hS.recast (show _ = blkA g1 114 [.int .i64 x.kind, .int .i64 x.frm, .int .i64 x.to, .int .u64 x.term, .int .u64 x.index, .int .u64 x.logTerm, .int .u64 x.commit, .bool x.ok, .slice x.entries.A x.entries.l.length x.entries.c, .slice x.body.A x.body.l.length x.body.c, .int .u64 x.client, .int .u64 x.req, .slice x.events.A x.events.l.length x.events.c] from rfl)
 refine t_q (q_assign) ?_
 refine t_nil ?_
 refine c_seq ?_
 refine c_seq ?_
 refine c_region ?_
 refine t_q (q_fieldAddr 8 Try.runUnderlying114 rfl Try.sizeOf111 (by decide) rfl rfl) ?_
 refine t_q (q_load1 Try.isAgg111 rfl (hS.cell (by repeat first|exact .here _ _|assumption|apply Pick.there) rfl)) ?_
 refine t_q (q_len_slice Try.runUnderlying111 rfl) ?_
 refine t_q (q_move) ?_
 refine t_nil ?_
 refine c_block ?_
 refine c_loop [2, 4, 8, 9, 10, 11, 12, 13, 14, 15, 16] (fun k σ w => ∃ j : Nat, σ 8 = .int .i64 (j : Int) ∧ j ≤ x.entries.l.length ∧ x.entries.l.length - j ≤ k ∧ (∀ i, i < j → (x.entries.l.getD i default).body.l.length ≤ 600) ∧ St W w [blkA g1 114 [.int .i64 x.kind, .int .i64 x.frm, .int .i64 x.to, .int .u64 x.term, .int .u64 x.index, .int .u64 x.logTerm, .int .u64 x.commit, .bool x.ok, .slice x.entries.A x.entries.l.length x.entries.c, .slice x.body.A x.body.l.length x.body.c, .int .u64 x.client, .int .u64 x.req, .slice x.events.A x.events.l.length x.events.c]]) (x.entries.l.length) rfl (⟨0, rfl, by omega, by omega, (fun i h => absurd h (by omega)), hS⟩) ?_
 skip
 rintro k σ w ⟨j, h8, hj, hk, hall, hS⟩
 refine c_know 8 h8 ?_
 clear h8
 refine c_seq ?_
 refine c_region ?_
 refine t_q (q_lss rfl rfl) ?_
 refine t_nil ?_
 refine c_seq ?_
 refine c_cond rfl ?_ ?_
 ·
  intro hc2
  have hc2d := of_decide_eq_true hc2
  refine c_skip ?_
  refine c_seq ?_
  refine c_block ?_
  refine c_seq ?_
  refine c_region ?_
  first | refine t_index_nat Try.runUnderlying111 Try.sizeOf169 (Rd.st hx.entries.rd hS) rfl rfl (by omega) (fun ad3 hl3 hx3 => ?_) | refine t_index Try.runUnderlying111 Try.sizeOf169 (Rd.st hx.entries.rd hS) rfl rfl (by omega) (fun ad3 hl3 hx3 => ?_)
  refine t_q (q_loadN Try.isAgg169 Try.sizeOf169 rfl hl3 hx3) ?_
  refine t_alloc Try.zeroValue169 rfl hS (fun g4 w hS => ?_)
  refine t_store (v := (.agg _)) Try.sizeOf169 hS (by repeat first|exact .here _ _|assumption|apply Pick.there) rfl rfl rfl rfl rfl rfl (fun w hS => ?_)
  replace hS := hS.recast (show blkA g4 169 _ = blkA g4 169 [.int .u64 (x.entries.l.getD j default).index, .int .u64 (x.entries.l.getD j default).term, .slice (x.entries.l.getD j default).body.A (x.entries.l.getD j default).body.l.length (x.entries.l.getD j default).body.c] from rfl)
  refine t_nil ?_
  refine c_seq ?_
  refine c_region ?_
  refine t_q (q_fieldAddr 2 Try.runUnderlying169 rfl Try.sizeOf25 (by decide) rfl rfl) ?_
  refine t_q (q_load1 Try.isAgg25 rfl (hS.cell (by repeat first|exact .here _ _|assumption|apply Pick.there) rfl)) ?_
  refine t_q (q_len_slice Try.runUnderlying25 rfl) ?_
  refine t_q (q_gtr rfl rfl) ?_
  refine t_nil ?_
  refine c_cond rfl ?_ ?_
  ·
   intro hc5
   have hc5d := of_decide_eq_true hc5
   have hD : lightB x = false := light_no (j := j) (by omega) (by omega)
   refine c_seq ?_
   refine c_region ?_
   refine t_q (q_assign) ?_
   refine t_nil ?_
   refine c_ret ?_
   refine r_one rfl rfl ?_
   rw [hD]
   refine ⟨congrArg (fun b => Ending.returned (.bool b)) ?_, hS.nil⟩
   first
     | rfl
     | (rw [decide_eq_decide]; omega)
     | (symm; exact decide_eq_false (by omega))
  ·
   intro hc5
   have hc5d := of_decide_eq_false hc5
   refine c_skip ?_
   refine c_region ?_
   refine t_q (q_add_i64 rfl rfl (by omega)) ?_
   refine t_q (q_mv (.int _ _) rfl) ?_
   refine t_nil ?_
   exact ⟨k - 1, by omega, j + 1, rfl, by omega, by omega, (fun i hi => by
     rcases Nat.lt_or_ge i j with h | h
     · exact hall i h
     · obtain rfl : i = j := by omega
       omega), ((hS.pick (A := blkA g1 114 [.int .i64 x.kind, .int .i64 x.frm, .int .i64 x.to, .int .u64 x.term, .int .u64 x.index, .int .u64 x.logTerm, .int .u64 x.commit, .bool x.ok, .slice x.entries.A x.entries.l.length x.entries.c, .slice x.body.A x.body.l.length x.body.c, .int .u64 x.client, .int .u64 x.req, .slice x.events.A x.events.l.length x.events.c]) (by repeat first|exact .here _ _|assumption|apply Pick.there))).front1⟩
 ·
  intro hc2
  have hc2d := of_decide_eq_false hc2
  obtain rfl : j = x.entries.l.length := by omega
  have hD := light_yes hall
  refine c_exit ?_
  refine ite_t rfl ?_
  refine c_seq ?_
  refine c_region ?_
  refine t_q (q_fieldAddr 8 Try.runUnderlying114 rfl Try.sizeOf111 (by decide) rfl rfl) ?_
  refine t_q (q_load1 Try.isAgg111 rfl (hS.cell (by repeat first|exact .here _ _|assumption|apply Pick.there) rfl)) ?_
  refine t_q (q_len_slice Try.runUnderlying111 rfl) ?_
  refine t_q (q_leq rfl rfl) ?_
  refine t_q (q_mv (.bool _) rfl) ?_
  refine t_case 21 rfl ?_ ?_
  ·
   intro hg7
   have hg7d := of_decide_eq_true hg7
   refine t_yes rfl rfl hg7 ?_
   refine t_q (q_fieldAddr 9 Try.runUnderlying114 rfl Try.sizeOf25 (by decide) rfl rfl) ?_
   refine t_yes rfl rfl hg7 ?_
   refine t_q (q_load1 Try.isAgg25 rfl (hS.cell (by repeat first|exact .here _ _|assumption|apply Pick.there) rfl)) ?_
   refine t_yes rfl rfl hg7 ?_
   refine t_q (q_len_slice Try.runUnderlying25 rfl) ?_
   refine t_yes rfl rfl hg7 ?_
   refine t_q (q_leq rfl rfl) ?_
   refine t_q (q_pick_t rfl hg7) ?_
   refine t_q (q_mv (.bool _) rfl) ?_
   refine t_case 27 rfl ?_ ?_
   ·
    intro hg9
    have hg9d := of_decide_eq_true hg9
    refine t_yes rfl rfl hg9 ?_
    refine t_q (q_fieldAddr 12 Try.runUnderlying114 rfl Try.sizeOf112 (by decide) rfl rfl) ?_
    refine t_yes rfl rfl hg9 ?_
    refine t_q (q_load1 Try.isAgg112 rfl (hS.cell (by repeat first|exact .here _ _|assumption|apply Pick.there) rfl)) ?_
    refine t_yes rfl rfl hg9 ?_
    refine t_q (q_len_slice Try.runUnderlying112 rfl) ?_
    refine t_yes rfl rfl hg9 ?_
    refine t_q (q_leq rfl rfl) ?_
    refine t_q (q_pick_t rfl hg9) ?_
    refine t_q (q_as (.bool _) rfl) ?_
    refine t_nil ?_
    refine c_ret ?_
    refine r_one rfl rfl ?_
    rw [hD]
    refine ⟨congrArg (fun b => Ending.returned (.bool b)) ?_, hS.nil⟩
    first
      | rfl
      | (rw [decide_eq_decide]; omega)
      | (symm; exact decide_eq_false (by omega))
   ·
    intro hg9
    have hg9d := of_decide_eq_false hg9
    refine t_no rfl rfl (by rw [hg9]; decide) ?_
    refine t_no rfl rfl (by rw [hg9]; decide) ?_
    refine t_no rfl rfl (by rw [hg9]; decide) ?_
    refine t_no rfl rfl (by rw [hg9]; decide) ?_
    refine t_q (q_pick_f rfl hg9) ?_
    refine t_q (q_as (.bool _) rfl) ?_
    refine t_nil ?_
    refine c_ret ?_
    refine r_one rfl rfl ?_
    rw [hD]
    refine ⟨congrArg (fun b => Ending.returned (.bool b)) ?_, hS.nil⟩
    first
      | rfl
      | (rw [decide_eq_decide]; omega)
      | (symm; exact decide_eq_false (by omega))
  ·
   intro hg7
   have hg7d := of_decide_eq_false hg7
   refine t_no rfl rfl (by rw [hg7]; decide) ?_
   refine t_no rfl rfl (by rw [hg7]; decide) ?_
   refine t_no rfl rfl (by rw [hg7]; decide) ?_
   refine t_no rfl rfl (by rw [hg7]; decide) ?_
   refine t_q (q_pick_f rfl hg7) ?_
   refine t_q (q_mv (.bool _) rfl) ?_
   refine t_no rfl rfl (by decide) ?_
   refine t_no rfl rfl (by decide) ?_
   refine t_no rfl rfl (by decide) ?_
   refine t_no rfl rfl (by decide) ?_
   refine t_q (q_pick_f rfl rfl) ?_
   refine t_q (q_as (.bool _) rfl) ?_
   refine t_nil ?_
   refine c_ret ?_
   refine r_one rfl rfl ?_
   rw [hD]
   refine ⟨congrArg (fun b => Ending.returned (.bool b)) ?_, hS.nil⟩
   first
     | rfl
     | (rw [decide_eq_decide]; omega)
     | (symm; exact decide_eq_false (by omega))
set_option maxHeartbeats 1000000 in
set_option maxRecDepth 100000 in
theorem wlives_calls : Calls Try.prog 58 #[] W fun e w' => e = .returned (.bool true) ∧ St W w' [] := by
 have hS := St.init W
 refine calls_of_wpE (args := []) Try.func58 rfl rfl rfl ?_
 refine c_seq ?_
 refine c_region ?_
 refine t_q (q_assign) ?_
 refine t_nil ?_
 refine c_seq ?_
 refine c_region ?_
 refine t_q (q_cast (v' := .agg tT.cells.toArray) (q_build (qs := [(0, 1), (1, 1), (2, 1), (3, 1), (4, 1), (5, 1), (6, 1), (7, 1), (8, 1), (9, 1), (10, 1), (11, 1), (12, 1)]) [(.int _ _), (.int _ _), (.int _ _), (.int _ _), (.int _ _), (.int _ _), (.int _ _), (.bool _), (.slice _ _ _), (.slice _ _ _), (.int _ _), (.int _ _), (.slice _ _ _)] Try.zeroValue114 Try.runUnderlying114 ⟨rfl, Try.sizeOf3, rfl, Try.sizeOf3, rfl, Try.sizeOf3, rfl, Try.sizeOf43, rfl, Try.sizeOf43, rfl, Try.sizeOf43, rfl, Try.sizeOf43, rfl, Try.sizeOf4, rfl, Try.sizeOf111, rfl, Try.sizeOf25, rfl, Try.sizeOf43, rfl, Try.sizeOf43, rfl, Try.sizeOf112, trivial⟩ rfl rfl) (by rfl)) ?_
 refine t_call Try.call64 (wbytes_calls (x := tT) tT_gd) rfl ?_
 rintro e w ⟨A7, m7, c7, rfl, hm7, hT⟩
 refine ⟨_, rfl, ?_⟩
 have hS : St W w (_ :: _) := hS.lift hT
 rw [tT_bytes.2] at hm7 hS
 rw [tT_bytes.1]
 subst hm7
 have hle7 := hS.row_le (t := 5) (size := 1) (A := A7) (c := c7) (by repeat first|exact .here _ _|assumption|apply Pick.there)
 have hpl : (parB 7 tTB).length ≤ 35 := by have h := wm_len _ tTB (Nat.le_refl _); rw [wm_small (by rw [tTB_eq]; decide), show tTB.length = 5 from by rw [tTB_eq]; rfl] at h; omega
 refine t_q (q_mv (.tuple _) rfl) ?_
 refine t_q (q_extract rfl rfl) ?_
 refine t_q (q_extract rfl rfl) ?_
 refine t_q (q_as (.slice _ _ _) rfl) ?_
 refine t_q (q_as (.int _ _) rfl) ?_
 refine t_nil ?_
 refine c_seq ?_
 refine c_region ?_
 refine t_q (q_mv (.slice _ _ _) rfl) ?_
 refine t_call Try.call66 (read_took (hS.rowRd (A := A7) (c := c7) (bs := parB 7 tTB) (by repeat first|exact .here _ _|assumption|apply Pick.there) rfl) ⟨hle7, by omega⟩ rfl) rfl ?_
 rintro e w ⟨rfl, hT⟩
 refine ⟨_, rfl, ?_⟩
 replace hS := hS.after hT
 refine t_q (q_mv (.tuple _) rfl) ?_
 refine t_q (q_extract rfl rfl) ?_
 refine t_q (q_extract rfl rfl) ?_
 refine t_alloc Try.zeroValue114 rfl hS (fun g3 w hS => ?_)
 refine t_store (v := (.agg _)) Try.sizeOf114 hS (by repeat first|exact .here _ _|assumption|apply Pick.there) rfl rfl rfl rfl rfl rfl (fun w hS => ?_)
 replace hS := hS.recast (show blkA g3 114 _ = blkA g3 114 [.int .i64 tT.kind, .int .i64 tT.frm, .int .i64 tT.to, .int .u64 tT.term, .int .u64 tT.index, .int .u64 tT.logTerm, .int .u64 tT.commit, .bool tT.ok, .slice tT.entries.A tT.entries.l.length tT.entries.c, .slice tT.body.A tT.body.l.length tT.body.c, .int .u64 tT.client, .int .u64 tT.req, .slice tT.events.A tT.events.l.length tT.events.c] from rfl)
 refine t_q (q_as (.int _ _) rfl) ?_
 refine t_nil ?_
 refine c_seq ?_
 refine c_draw ?_
 refine d_keep2 (rowA 5 1 A7 (parB 7 tTB).length c7 ((parB 7 tTB).map bv)) (blkA g3 114 [.int .i64 tT.kind, .int .i64 tT.frm, .int .i64 tT.to, .int .u64 tT.term, .int .u64 tT.index, .int .u64 tT.logTerm, .int .u64 tT.commit, .bool tT.ok, .slice tT.entries.A tT.entries.l.length tT.entries.c, .slice tT.body.A tT.body.l.length tT.body.c, .int .u64 tT.client, .int .u64 tT.req, .slice tT.events.A tT.events.l.length tT.events.c]) 25 [0, 1, 2, 3, 4, 5, 6, 7, 8, 9, 10, 11, 12, 13, 14, 15, 16, 17, 18, 19, 20, 21, 22, 23, 24] [0, 1, 2, 3, 4, 5, 6, 7, 8, 9, 10, 11, 12, 13, 14, 15, 16, 17, 18, 19, 20, 21, 22, 23, 24] hS rfl (by kernel_rfl) (by kernel_rfl) (by kernel_rfl) (by kernel_rfl) (fun hap hsel w hS => ?_)
 refine p_q hap hsel 0 rfl rfl ⟨_, ((hS.pick (A := blkA g3 114 [.int .i64 tT.kind, .int .i64 tT.frm, .int .i64 tT.to, .int .u64 tT.term, .int .u64 tT.index, .int .u64 tT.logTerm, .int .u64 tT.commit, .bool tT.ok, .slice tT.entries.A tT.entries.l.length tT.entries.c, .slice tT.body.A tT.body.l.length tT.body.c, .int .u64 tT.client, .int .u64 tT.req, .slice tT.events.A tT.events.l.length tT.events.c]) (by repeat first|exact .here _ _|assumption|apply Pick.there)).pick (A := rowA 5 1 A7 (parB 7 tTB).length c7 ((parB 7 tTB).map bv)) (by repeat first|exact .here _ _|assumption|apply Pick.there))⟩ (fun w hI => q_mv (.int _ _) rfl) ?_
 refine p_q hap hsel 1 rfl rfl ⟨_, ((hS.pick (A := blkA g3 114 [.int .i64 tT.kind, .int .i64 tT.frm, .int .i64 tT.to, .int .u64 tT.term, .int .u64 tT.index, .int .u64 tT.logTerm, .int .u64 tT.commit, .bool tT.ok, .slice tT.entries.A tT.entries.l.length tT.entries.c, .slice tT.body.A tT.body.l.length tT.body.c, .int .u64 tT.client, .int .u64 tT.req, .slice tT.events.A tT.events.l.length tT.events.c]) (by repeat first|exact .here _ _|assumption|apply Pick.there)).pick (A := rowA 5 1 A7 (parB 7 tTB).length c7 ((parB 7 tTB).map bv)) (by repeat first|exact .here _ _|assumption|apply Pick.there))⟩ (fun w hI => (q_cast (v' := .bool true) (q_eql rfl rfl) (by rfl))) ?_
 refine p_q hap hsel 2 rfl rfl ⟨_, ((hS.pick (A := blkA g3 114 [.int .i64 tT.kind, .int .i64 tT.frm, .int .i64 tT.to, .int .u64 tT.term, .int .u64 tT.index, .int .u64 tT.logTerm, .int .u64 tT.commit, .bool tT.ok, .slice tT.entries.A tT.entries.l.length tT.entries.c, .slice tT.body.A tT.body.l.length tT.body.c, .int .u64 tT.client, .int .u64 tT.req, .slice tT.events.A tT.events.l.length tT.events.c]) (by repeat first|exact .here _ _|assumption|apply Pick.there)).pick (A := rowA 5 1 A7 (parB 7 tTB).length c7 ((parB 7 tTB).map bv)) (by repeat first|exact .here _ _|assumption|apply Pick.there))⟩ (fun w hI => q_mv (.bool _) rfl) ?_
 refine p_yes hap hsel 3 rfl rfl ⟨_, ((hS.pick (A := blkA g3 114 [.int .i64 tT.kind, .int .i64 tT.frm, .int .i64 tT.to, .int .u64 tT.term, .int .u64 tT.index, .int .u64 tT.logTerm, .int .u64 tT.commit, .bool tT.ok, .slice tT.entries.A tT.entries.l.length tT.entries.c, .slice tT.body.A tT.body.l.length tT.body.c, .int .u64 tT.client, .int .u64 tT.req, .slice tT.events.A tT.events.l.length tT.events.c]) (by repeat first|exact .here _ _|assumption|apply Pick.there)).pick (A := rowA 5 1 A7 (parB 7 tTB).length c7 ((parB 7 tTB).map bv)) (by repeat first|exact .here _ _|assumption|apply Pick.there))⟩ rfl rfl rfl (fun w hI => q_mv (.slice _ _ _) rfl) ?_
 refine p_yes hap hsel 4 rfl rfl ⟨_, ((hS.pick (A := blkA g3 114 [.int .i64 tT.kind, .int .i64 tT.frm, .int .i64 tT.to, .int .u64 tT.term, .int .u64 tT.index, .int .u64 tT.logTerm, .int .u64 tT.commit, .bool tT.ok, .slice tT.entries.A tT.entries.l.length tT.entries.c, .slice tT.body.A tT.body.l.length tT.body.c, .int .u64 tT.client, .int .u64 tT.req, .slice tT.events.A tT.events.l.length tT.events.c]) (by repeat first|exact .here _ _|assumption|apply Pick.there)).pick (A := rowA 5 1 A7 (parB 7 tTB).length c7 ((parB 7 tTB).map bv)) (by repeat first|exact .here _ _|assumption|apply Pick.there))⟩ rfl rfl rfl (fun w hI => q_string Try.runUnderlying25 Try.runUnderlying5 Try.runUnderlying9 rfl rfl (hI.choose_spec.rowRd (A := A7) (c := c7) (bs := parB 7 tTB) (by repeat first|exact .here _ _|assumption|apply Pick.there) rfl)) ?_
 refine p_one 5 rfl (by kernel_rfl) ?_
 refine t_yes rfl rfl rfl ?_
 refine t_build_bytes [_, _, _, _, _] Try.runUnderlying25 Try.sizeOf5 Try.zeroValue5 rfl rfl (by simp; try omega) (by decide) hS (fun g20 w hS => ?_)
 replace hS := hS.recast (show _ = rowA 5 1 (some ⟨g20, 0, none⟩) 5 5 ((([6, 1, 0, 3, 9] : List UInt8)).map bv) from rfl)
 refine t_nil ?_
 refine ⟨.inr ⟨_, ((hS.pick (A := blkA g3 114 [.int .i64 tT.kind, .int .i64 tT.frm, .int .i64 tT.to, .int .u64 tT.term, .int .u64 tT.index, .int .u64 tT.logTerm, .int .u64 tT.commit, .bool tT.ok, .slice tT.entries.A tT.entries.l.length tT.entries.c, .slice tT.body.A tT.body.l.length tT.body.c, .int .u64 tT.client, .int .u64 tT.req, .slice tT.events.A tT.events.l.length tT.events.c]) (by repeat first|exact .here _ _|assumption|apply Pick.there)).pick (A := rowA 5 1 A7 (parB 7 tTB).length c7 ((parB 7 tTB).map bv)) (by repeat first|exact .here _ _|assumption|apply Pick.there))⟩, ?_⟩
 refine p_one 6 rfl (by kernel_rfl) ?_
 refine t_yes rfl rfl rfl ?_
 refine t_call Try.call80 (qpbytes_calls (kk := 7) (hS.rowRd (A := some ⟨g20, 0, none⟩) (bs := [6, 1, 0, 3, 9]) (by repeat first|exact .here _ _|assumption|apply Pick.there) rfl) (by decide) (by decide)) rfl ?_
 rintro e w ⟨A21, m21, c21, rfl, hm21, hT⟩
 refine ⟨_, rfl, ?_⟩
 have hS : St W w (_ :: _) := hS.lift hT
 subst hm21
 refine t_nil ?_
 refine ⟨.inr ⟨_, ((hS.pick (A := blkA g3 114 [.int .i64 tT.kind, .int .i64 tT.frm, .int .i64 tT.to, .int .u64 tT.term, .int .u64 tT.index, .int .u64 tT.logTerm, .int .u64 tT.commit, .bool tT.ok, .slice tT.entries.A tT.entries.l.length tT.entries.c, .slice tT.body.A tT.body.l.length tT.body.c, .int .u64 tT.client, .int .u64 tT.req, .slice tT.events.A tT.events.l.length tT.events.c]) (by repeat first|exact .here _ _|assumption|apply Pick.there)).pick (A := rowA 5 1 A7 (parB 7 tTB).length c7 ((parB 7 tTB).map bv)) (by repeat first|exact .here _ _|assumption|apply Pick.there))⟩, ?_⟩
 refine p_one 7 rfl (by kernel_rfl) ?_
 refine t_yes rfl rfl rfl ?_
 refine t_q (q_string Try.runUnderlying25 Try.runUnderlying5 Try.runUnderlying9 rfl rfl (hS.rowRd (A := A21) (c := c21) (bs := parB 7 [6, 1, 0, 3, 9]) (by repeat first|exact .here _ _|assumption|apply Pick.there) rfl)) ?_
 refine t_nil ?_
 refine ⟨.inr ⟨_, ((hS.pick (A := blkA g3 114 [.int .i64 tT.kind, .int .i64 tT.frm, .int .i64 tT.to, .int .u64 tT.term, .int .u64 tT.index, .int .u64 tT.logTerm, .int .u64 tT.commit, .bool tT.ok, .slice tT.entries.A tT.entries.l.length tT.entries.c, .slice tT.body.A tT.body.l.length tT.body.c, .int .u64 tT.client, .int .u64 tT.req, .slice tT.events.A tT.events.l.length tT.events.c]) (by repeat first|exact .here _ _|assumption|apply Pick.there)).pick (A := rowA 5 1 A7 (parB 7 tTB).length c7 ((parB 7 tTB).map bv)) (by repeat first|exact .here _ _|assumption|apply Pick.there))⟩, ?_⟩
 refine p_yes hap hsel 8 rfl rfl ⟨_, ((hS.pick (A := blkA g3 114 [.int .i64 tT.kind, .int .i64 tT.frm, .int .i64 tT.to, .int .u64 tT.term, .int .u64 tT.index, .int .u64 tT.logTerm, .int .u64 tT.commit, .bool tT.ok, .slice tT.entries.A tT.entries.l.length tT.entries.c, .slice tT.body.A tT.body.l.length tT.body.c, .int .u64 tT.client, .int .u64 tT.req, .slice tT.events.A tT.events.l.length tT.events.c]) (by repeat first|exact .here _ _|assumption|apply Pick.there)).pick (A := rowA 5 1 A7 (parB 7 tTB).length c7 ((parB 7 tTB).map bv)) (by repeat first|exact .here _ _|assumption|apply Pick.there))⟩ rfl rfl rfl (fun w hI => (q_cast (v' := .bool true) (q_eql_string rfl rfl) (by rw [tTB_eq]; simp))) ?_
 refine p_q hap hsel 9 rfl rfl ⟨_, ((hS.pick (A := blkA g3 114 [.int .i64 tT.kind, .int .i64 tT.frm, .int .i64 tT.to, .int .u64 tT.term, .int .u64 tT.index, .int .u64 tT.logTerm, .int .u64 tT.commit, .bool tT.ok, .slice tT.entries.A tT.entries.l.length tT.entries.c, .slice tT.body.A tT.body.l.length tT.body.c, .int .u64 tT.client, .int .u64 tT.req, .slice tT.events.A tT.events.l.length tT.events.c]) (by repeat first|exact .here _ _|assumption|apply Pick.there)).pick (A := rowA 5 1 A7 (parB 7 tTB).length c7 ((parB 7 tTB).map bv)) (by repeat first|exact .here _ _|assumption|apply Pick.there))⟩ (fun w hI => q_pick_t rfl rfl) ?_
 refine p_q hap hsel 10 rfl rfl ⟨_, ((hS.pick (A := blkA g3 114 [.int .i64 tT.kind, .int .i64 tT.frm, .int .i64 tT.to, .int .u64 tT.term, .int .u64 tT.index, .int .u64 tT.logTerm, .int .u64 tT.commit, .bool tT.ok, .slice tT.entries.A tT.entries.l.length tT.entries.c, .slice tT.body.A tT.body.l.length tT.body.c, .int .u64 tT.client, .int .u64 tT.req, .slice tT.events.A tT.events.l.length tT.events.c]) (by repeat first|exact .here _ _|assumption|apply Pick.there)).pick (A := rowA 5 1 A7 (parB 7 tTB).length c7 ((parB 7 tTB).map bv)) (by repeat first|exact .here _ _|assumption|apply Pick.there))⟩ (fun w hI => q_mv (.bool _) rfl) ?_
 refine p_yes hap hsel 11 rfl rfl ⟨_, ((hS.pick (A := blkA g3 114 [.int .i64 tT.kind, .int .i64 tT.frm, .int .i64 tT.to, .int .u64 tT.term, .int .u64 tT.index, .int .u64 tT.logTerm, .int .u64 tT.commit, .bool tT.ok, .slice tT.entries.A tT.entries.l.length tT.entries.c, .slice tT.body.A tT.body.l.length tT.body.c, .int .u64 tT.client, .int .u64 tT.req, .slice tT.events.A tT.events.l.length tT.events.c]) (by repeat first|exact .here _ _|assumption|apply Pick.there)).pick (A := rowA 5 1 A7 (parB 7 tTB).length c7 ((parB 7 tTB).map bv)) (by repeat first|exact .here _ _|assumption|apply Pick.there))⟩ rfl rfl rfl (fun w hI => q_mv (.int _ _) rfl) ?_
 refine p_yes hap hsel 12 rfl rfl ⟨_, ((hS.pick (A := blkA g3 114 [.int .i64 tT.kind, .int .i64 tT.frm, .int .i64 tT.to, .int .u64 tT.term, .int .u64 tT.index, .int .u64 tT.logTerm, .int .u64 tT.commit, .bool tT.ok, .slice tT.entries.A tT.entries.l.length tT.entries.c, .slice tT.body.A tT.body.l.length tT.body.c, .int .u64 tT.client, .int .u64 tT.req, .slice tT.events.A tT.events.l.length tT.events.c]) (by repeat first|exact .here _ _|assumption|apply Pick.there)).pick (A := rowA 5 1 A7 (parB 7 tTB).length c7 ((parB 7 tTB).map bv)) (by repeat first|exact .here _ _|assumption|apply Pick.there))⟩ rfl rfl rfl (fun w hI => (q_cast (v' := .bool true) (q_eql rfl rfl) (by rfl))) ?_
 refine p_q hap hsel 13 rfl rfl ⟨_, ((hS.pick (A := blkA g3 114 [.int .i64 tT.kind, .int .i64 tT.frm, .int .i64 tT.to, .int .u64 tT.term, .int .u64 tT.index, .int .u64 tT.logTerm, .int .u64 tT.commit, .bool tT.ok, .slice tT.entries.A tT.entries.l.length tT.entries.c, .slice tT.body.A tT.body.l.length tT.body.c, .int .u64 tT.client, .int .u64 tT.req, .slice tT.events.A tT.events.l.length tT.events.c]) (by repeat first|exact .here _ _|assumption|apply Pick.there)).pick (A := rowA 5 1 A7 (parB 7 tTB).length c7 ((parB 7 tTB).map bv)) (by repeat first|exact .here _ _|assumption|apply Pick.there))⟩ (fun w hI => q_pick_t rfl rfl) ?_
 refine p_q hap hsel 14 rfl rfl ⟨_, ((hS.pick (A := blkA g3 114 [.int .i64 tT.kind, .int .i64 tT.frm, .int .i64 tT.to, .int .u64 tT.term, .int .u64 tT.index, .int .u64 tT.logTerm, .int .u64 tT.commit, .bool tT.ok, .slice tT.entries.A tT.entries.l.length tT.entries.c, .slice tT.body.A tT.body.l.length tT.body.c, .int .u64 tT.client, .int .u64 tT.req, .slice tT.events.A tT.events.l.length tT.events.c]) (by repeat first|exact .here _ _|assumption|apply Pick.there)).pick (A := rowA 5 1 A7 (parB 7 tTB).length c7 ((parB 7 tTB).map bv)) (by repeat first|exact .here _ _|assumption|apply Pick.there))⟩ (fun w hI => q_mv (.bool _) rfl) ?_
 refine p_yes hap hsel 15 rfl rfl ⟨_, ((hS.pick (A := blkA g3 114 [.int .i64 tT.kind, .int .i64 tT.frm, .int .i64 tT.to, .int .u64 tT.term, .int .u64 tT.index, .int .u64 tT.logTerm, .int .u64 tT.commit, .bool tT.ok, .slice tT.entries.A tT.entries.l.length tT.entries.c, .slice tT.body.A tT.body.l.length tT.body.c, .int .u64 tT.client, .int .u64 tT.req, .slice tT.events.A tT.events.l.length tT.events.c]) (by repeat first|exact .here _ _|assumption|apply Pick.there)).pick (A := rowA 5 1 A7 (parB 7 tTB).length c7 ((parB 7 tTB).map bv)) (by repeat first|exact .here _ _|assumption|apply Pick.there))⟩ rfl rfl rfl (fun w hI => q_fieldAddr 0 Try.runUnderlying114 rfl Try.sizeOf3 (by decide) rfl rfl) ?_
 refine p_yes hap hsel 16 rfl rfl ⟨_, ((hS.pick (A := blkA g3 114 [.int .i64 tT.kind, .int .i64 tT.frm, .int .i64 tT.to, .int .u64 tT.term, .int .u64 tT.index, .int .u64 tT.logTerm, .int .u64 tT.commit, .bool tT.ok, .slice tT.entries.A tT.entries.l.length tT.entries.c, .slice tT.body.A tT.body.l.length tT.body.c, .int .u64 tT.client, .int .u64 tT.req, .slice tT.events.A tT.events.l.length tT.events.c]) (by repeat first|exact .here _ _|assumption|apply Pick.there)).pick (A := rowA 5 1 A7 (parB 7 tTB).length c7 ((parB 7 tTB).map bv)) (by repeat first|exact .here _ _|assumption|apply Pick.there))⟩ rfl rfl rfl (fun w hI => q_load1 Try.isAgg3 rfl (hI.choose_spec.cell (by repeat first|exact .here _ _|assumption|apply Pick.there) rfl)) ?_
 refine p_yes hap hsel 17 rfl rfl ⟨_, ((hS.pick (A := blkA g3 114 [.int .i64 tT.kind, .int .i64 tT.frm, .int .i64 tT.to, .int .u64 tT.term, .int .u64 tT.index, .int .u64 tT.logTerm, .int .u64 tT.commit, .bool tT.ok, .slice tT.entries.A tT.entries.l.length tT.entries.c, .slice tT.body.A tT.body.l.length tT.body.c, .int .u64 tT.client, .int .u64 tT.req, .slice tT.events.A tT.events.l.length tT.events.c]) (by repeat first|exact .here _ _|assumption|apply Pick.there)).pick (A := rowA 5 1 A7 (parB 7 tTB).length c7 ((parB 7 tTB).map bv)) (by repeat first|exact .here _ _|assumption|apply Pick.there))⟩ rfl rfl rfl (fun w hI => (q_cast (v' := .bool true) (q_eql rfl rfl) (by rfl))) ?_
 refine p_q hap hsel 18 rfl rfl ⟨_, ((hS.pick (A := blkA g3 114 [.int .i64 tT.kind, .int .i64 tT.frm, .int .i64 tT.to, .int .u64 tT.term, .int .u64 tT.index, .int .u64 tT.logTerm, .int .u64 tT.commit, .bool tT.ok, .slice tT.entries.A tT.entries.l.length tT.entries.c, .slice tT.body.A tT.body.l.length tT.body.c, .int .u64 tT.client, .int .u64 tT.req, .slice tT.events.A tT.events.l.length tT.events.c]) (by repeat first|exact .here _ _|assumption|apply Pick.there)).pick (A := rowA 5 1 A7 (parB 7 tTB).length c7 ((parB 7 tTB).map bv)) (by repeat first|exact .here _ _|assumption|apply Pick.there))⟩ (fun w hI => q_pick_t rfl rfl) ?_
 refine p_q hap hsel 19 rfl rfl ⟨_, ((hS.pick (A := blkA g3 114 [.int .i64 tT.kind, .int .i64 tT.frm, .int .i64 tT.to, .int .u64 tT.term, .int .u64 tT.index, .int .u64 tT.logTerm, .int .u64 tT.commit, .bool tT.ok, .slice tT.entries.A tT.entries.l.length tT.entries.c, .slice tT.body.A tT.body.l.length tT.body.c, .int .u64 tT.client, .int .u64 tT.req, .slice tT.events.A tT.events.l.length tT.events.c]) (by repeat first|exact .here _ _|assumption|apply Pick.there)).pick (A := rowA 5 1 A7 (parB 7 tTB).length c7 ((parB 7 tTB).map bv)) (by repeat first|exact .here _ _|assumption|apply Pick.there))⟩ (fun w hI => q_mv (.bool _) rfl) ?_
 refine p_yes hap hsel 20 rfl rfl ⟨_, ((hS.pick (A := blkA g3 114 [.int .i64 tT.kind, .int .i64 tT.frm, .int .i64 tT.to, .int .u64 tT.term, .int .u64 tT.index, .int .u64 tT.logTerm, .int .u64 tT.commit, .bool tT.ok, .slice tT.entries.A tT.entries.l.length tT.entries.c, .slice tT.body.A tT.body.l.length tT.body.c, .int .u64 tT.client, .int .u64 tT.req, .slice tT.events.A tT.events.l.length tT.events.c]) (by repeat first|exact .here _ _|assumption|apply Pick.there)).pick (A := rowA 5 1 A7 (parB 7 tTB).length c7 ((parB 7 tTB).map bv)) (by repeat first|exact .here _ _|assumption|apply Pick.there))⟩ rfl rfl rfl (fun w hI => q_fieldAddr 4 Try.runUnderlying114 rfl Try.sizeOf43 (by decide) rfl rfl) ?_
 refine p_yes hap hsel 21 rfl rfl ⟨_, ((hS.pick (A := blkA g3 114 [.int .i64 tT.kind, .int .i64 tT.frm, .int .i64 tT.to, .int .u64 tT.term, .int .u64 tT.index, .int .u64 tT.logTerm, .int .u64 tT.commit, .bool tT.ok, .slice tT.entries.A tT.entries.l.length tT.entries.c, .slice tT.body.A tT.body.l.length tT.body.c, .int .u64 tT.client, .int .u64 tT.req, .slice tT.events.A tT.events.l.length tT.events.c]) (by repeat first|exact .here _ _|assumption|apply Pick.there)).pick (A := rowA 5 1 A7 (parB 7 tTB).length c7 ((parB 7 tTB).map bv)) (by repeat first|exact .here _ _|assumption|apply Pick.there))⟩ rfl rfl rfl (fun w hI => q_load1 Try.isAgg43 rfl (hI.choose_spec.cell (by repeat first|exact .here _ _|assumption|apply Pick.there) rfl)) ?_
 refine p_yes hap hsel 22 rfl rfl ⟨_, ((hS.pick (A := blkA g3 114 [.int .i64 tT.kind, .int .i64 tT.frm, .int .i64 tT.to, .int .u64 tT.term, .int .u64 tT.index, .int .u64 tT.logTerm, .int .u64 tT.commit, .bool tT.ok, .slice tT.entries.A tT.entries.l.length tT.entries.c, .slice tT.body.A tT.body.l.length tT.body.c, .int .u64 tT.client, .int .u64 tT.req, .slice tT.events.A tT.events.l.length tT.events.c]) (by repeat first|exact .here _ _|assumption|apply Pick.there)).pick (A := rowA 5 1 A7 (parB 7 tTB).length c7 ((parB 7 tTB).map bv)) (by repeat first|exact .here _ _|assumption|apply Pick.there))⟩ rfl rfl rfl (fun w hI => (q_cast (v' := .bool true) (q_eql rfl rfl) (by rfl))) ?_
 refine p_q hap hsel 23 rfl rfl ⟨_, ((hS.pick (A := blkA g3 114 [.int .i64 tT.kind, .int .i64 tT.frm, .int .i64 tT.to, .int .u64 tT.term, .int .u64 tT.index, .int .u64 tT.logTerm, .int .u64 tT.commit, .bool tT.ok, .slice tT.entries.A tT.entries.l.length tT.entries.c, .slice tT.body.A tT.body.l.length tT.body.c, .int .u64 tT.client, .int .u64 tT.req, .slice tT.events.A tT.events.l.length tT.events.c]) (by repeat first|exact .here _ _|assumption|apply Pick.there)).pick (A := rowA 5 1 A7 (parB 7 tTB).length c7 ((parB 7 tTB).map bv)) (by repeat first|exact .here _ _|assumption|apply Pick.there))⟩ (fun w hI => q_pick_t rfl rfl) ?_
 refine p_q hap hsel 24 rfl rfl ⟨_, ((hS.pick (A := blkA g3 114 [.int .i64 tT.kind, .int .i64 tT.frm, .int .i64 tT.to, .int .u64 tT.term, .int .u64 tT.index, .int .u64 tT.logTerm, .int .u64 tT.commit, .bool tT.ok, .slice tT.entries.A tT.entries.l.length tT.entries.c, .slice tT.body.A tT.body.l.length tT.body.c, .int .u64 tT.client, .int .u64 tT.req, .slice tT.events.A tT.events.l.length tT.events.c]) (by repeat first|exact .here _ _|assumption|apply Pick.there)).pick (A := rowA 5 1 A7 (parB 7 tTB).length c7 ((parB 7 tTB).map bv)) (by repeat first|exact .here _ _|assumption|apply Pick.there))⟩ (fun w hI => q_as (.bool _) rfl) ?_
 refine p_end (by kernel_rfl) ?_
 refine c_ret ?_
 refine r_one rfl rfl ?_
 exact ⟨rfl, hS.nil⟩
theorem okst {w : World} {Q : List Asn} {x : MsgV} (h : x.Ok W) (hS : St W w Q) : x.Ok w := ⟨h.kind, h.frm, h.to, h.term, h.index, h.logTerm, h.commit, h.ok, ⟨Rd.st h.entries.rd hS, fun e he => ⟨(h.entries.el e he).index, (h.entries.el e he).term, ⟨Rd.st (h.entries.el e he).body.rd hS, (h.entries.el e he).body.el, (h.entries.el e he).body.le⟩⟩, h.entries.le⟩, ⟨Rd.st h.body.rd hS, h.body.el, h.body.le⟩, h.client, h.req, ⟨Rd.st h.events.rd hS, fun e he => (by have k := h.events.el e he; exact ⟨k.kind, k.account, k.id, k.other, k.side, k.price, k.qty, k.fee, k.fee2, k.code, k.version, k.index⟩), h.events.le⟩⟩
theorem sound_own {x : MsgV} {A : Option Addr} {c : Nat} : soundB (x.own A c) = soundB x := by
  have e : (keepV (fl x.kind) (x.own A c)).vw = (keepV (fl x.kind) x).vw := by
    unfold keepV MsgV.own MsgV.vw
    cases hasF (fl x.kind) 8 <;> rfl
  unfold soundB
  show (decide (fl x.kind ≠ 0) && (nodeB x.frm && (nodeB x.to && (decide ((keepV (fl x.kind) (x.own A c)).vw = x.vw) && fitB x)))) = _
  rw [e]
set_option maxHeartbeats 4000000 in
set_option maxRecDepth 100000 in
theorem WireTells_calls {x y : MsgV} (hx : x.Ok W) (hy : y.Ok W) : Calls Try.prog 15 #[.agg x.cells.toArray, .agg y.cells.toArray] W fun e w' => e = .returned (.bool true) ∧ St W w' [] := by
 have hS := St.init W
 refine calls_of_wpE (args := [_, _]) Try.func15 rfl rfl rfl ?_
 refine c_seq ?_
 refine c_region ?_
 refine t_box (v := (.agg _)) rfl rfl hS (fun g2 w hS => ?_)
 replace hS := hS.recast (show _ = blkA g2 114 [.int .i64 x.kind, .int .i64 x.frm, .int .i64 x.to, .int .u64 x.term, .int .u64 x.index, .int .u64 x.logTerm, .int .u64 x.commit, .bool x.ok, .slice x.entries.A x.entries.l.length x.entries.c, .slice x.body.A x.body.l.length x.body.c, .int .u64 x.client, .int .u64 x.req, .slice x.events.A x.events.l.length x.events.c] from rfl)
 refine t_box (v := (.agg _)) rfl rfl hS (fun g3 w hS => ?_)
 replace hS := hS.recast (show _ = blkA g3 114 [.int .i64 y.kind, .int .i64 y.frm, .int .i64 y.to, .int .u64 y.term, .int .u64 y.index, .int .u64 y.logTerm, .int .u64 y.commit, .bool y.ok, .slice y.entries.A y.entries.l.length y.entries.c, .slice y.body.A y.body.l.length y.body.c, .int .u64 y.client, .int .u64 y.req, .slice y.events.A y.events.l.length y.events.c] from rfl)
 refine t_q (q_assign) ?_
 refine t_nil ?_
 refine c_seq ?_
 refine c_seq ?_
 refine c_region ?_
 refine t_q (q_cast (v' := .agg x.cells.toArray) (q_load_blk Try.isAgg114 Try.sizeOf114 rfl (hS.blk (by repeat first|exact .here _ _|assumption|apply Pick.there)) rfl) (by rfl)) ?_
 refine t_call Try.call57 (wlight_calls (x := x) (show x.Ok w from okst hx hS)) rfl ?_
 rintro e w ⟨rfl, hT⟩
 refine ⟨_, rfl, ?_⟩
 replace hS := hS.after hT
 refine t_q (q_not rfl) ?_
 refine t_q (q_mv (.bool _) rfl) ?_
 refine t_case 8 rfl ?_ ?_
 ·
  intro hg2
  refine t_no rfl rfl (by rw [(congrArg not (not_back hg2))]; decide) ?_
  refine t_no rfl rfl (by rw [(congrArg not (not_back hg2))]; decide) ?_
  refine t_no rfl rfl (by rw [(congrArg not (not_back hg2))]; decide) ?_
  refine t_q (q_pick_t rfl (congrArg not (not_back hg2))) ?_
  refine t_nil ?_
  refine c_cond_t rfl rfl ?_
  refine c_seq ?_
  refine c_region ?_
  refine t_call Try.call58 (wlives_calls) rfl ?_
  rintro e w ⟨rfl, hT⟩
  refine ⟨_, rfl, ?_⟩
  replace hS := hS.after hT
  refine t_q (q_as (.bool _) rfl) ?_
  refine t_nil ?_
  refine c_ret ?_
  refine r_one rfl rfl ?_
  exact ⟨rfl, hS.nil⟩
 ·
  intro hg2
  refine t_yes rfl rfl (congrArg not (not_back hg2)) ?_
  refine t_q (q_cast (v' := .agg y.cells.toArray) (q_load_blk Try.isAgg114 Try.sizeOf114 rfl (hS.blk (by repeat first|exact .here _ _|assumption|apply Pick.there)) rfl) (by rfl)) ?_
  refine t_yes rfl rfl (congrArg not (not_back hg2)) ?_
  refine t_call Try.call57 (wlight_calls (x := y) (show y.Ok w from okst hy hS)) rfl ?_
  rintro e w ⟨rfl, hT⟩
  refine ⟨_, rfl, ?_⟩
  replace hS := hS.after hT
  refine t_yes rfl rfl (congrArg not (not_back hg2)) ?_
  refine t_q (q_not rfl) ?_
  refine t_q (q_pick_f rfl (congrArg not (not_back hg2))) ?_
  refine t_nil ?_
  refine c_cond rfl ?_ ?_
  ·
   intro hc5
   refine c_seq ?_
   refine c_region ?_
   refine t_call Try.call58 (wlives_calls) rfl ?_
   rintro e w ⟨rfl, hT⟩
   refine ⟨_, rfl, ?_⟩
   replace hS := hS.after hT
   refine t_q (q_as (.bool _) rfl) ?_
   refine t_nil ?_
   refine c_ret ?_
   refine r_one rfl rfl ?_
   exact ⟨rfl, hS.nil⟩
  ·
   intro hc5
   have hgx : x.Gd W := light_gd hx (bnf (by assumption))
   have hgy : y.Gd W := light_gd hy (bnf (by assumption))
   refine c_skip ?_
   refine c_seq ?_
   refine c_draw ?_
   refine d_keep2 (blkA g2 114 [.int .i64 x.kind, .int .i64 x.frm, .int .i64 x.to, .int .u64 x.term, .int .u64 x.index, .int .u64 x.logTerm, .int .u64 x.commit, .bool x.ok, .slice x.entries.A x.entries.l.length x.entries.c, .slice x.body.A x.body.l.length x.body.c, .int .u64 x.client, .int .u64 x.req, .slice x.events.A x.events.l.length x.events.c]) (blkA g3 114 [.int .i64 y.kind, .int .i64 y.frm, .int .i64 y.to, .int .u64 y.term, .int .u64 y.index, .int .u64 y.logTerm, .int .u64 y.commit, .bool y.ok, .slice y.entries.A y.entries.l.length y.entries.c, .slice y.body.A y.body.l.length y.body.c, .int .u64 y.client, .int .u64 y.req, .slice y.events.A y.events.l.length y.events.c]) 26 [0, 1, 2, 3, 4, 5, 6, 7, 8, 9, 10, 11, 12, 13, 14, 15, 16, 17, 18, 19, 20, 21, 22, 23, 24, 25] [0, 1, 2, 3, 4, 5, 6, 7, 8, 9, 10, 11, 12, 13, 14, 15, 16, 17, 18, 19, 20, 21, 22, 23, 24, 25] hS rfl (by kernel_rfl) (by kernel_rfl) (by kernel_rfl) (by kernel_rfl) (fun hap hsel w hS => ?_)
   refine p_q hap hsel 0 rfl rfl ⟨_, ((hS.pick (A := blkA g3 114 [.int .i64 y.kind, .int .i64 y.frm, .int .i64 y.to, .int .u64 y.term, .int .u64 y.index, .int .u64 y.logTerm, .int .u64 y.commit, .bool y.ok, .slice y.entries.A y.entries.l.length y.entries.c, .slice y.body.A y.body.l.length y.body.c, .int .u64 y.client, .int .u64 y.req, .slice y.events.A y.events.l.length y.events.c]) (by repeat first|exact .here _ _|assumption|apply Pick.there)).pick (A := blkA g2 114 [.int .i64 x.kind, .int .i64 x.frm, .int .i64 x.to, .int .u64 x.term, .int .u64 x.index, .int .u64 x.logTerm, .int .u64 x.commit, .bool x.ok, .slice x.entries.A x.entries.l.length x.entries.c, .slice x.body.A x.body.l.length x.body.c, .int .u64 x.client, .int .u64 x.req, .slice x.events.A x.events.l.length x.events.c]) (by repeat first|exact .here _ _|assumption|apply Pick.there))⟩ (fun w hI => (q_cast (v' := .agg x.cells.toArray) (q_load_blk Try.isAgg114 Try.sizeOf114 rfl (hI.choose_spec.blk (by repeat first|exact .here _ _|assumption|apply Pick.there)) rfl) (by rfl))) ?_
   refine p_q hap hsel 2 rfl rfl ⟨_, ((hS.pick (A := blkA g3 114 [.int .i64 y.kind, .int .i64 y.frm, .int .i64 y.to, .int .u64 y.term, .int .u64 y.index, .int .u64 y.logTerm, .int .u64 y.commit, .bool y.ok, .slice y.entries.A y.entries.l.length y.entries.c, .slice y.body.A y.body.l.length y.body.c, .int .u64 y.client, .int .u64 y.req, .slice y.events.A y.events.l.length y.events.c]) (by repeat first|exact .here _ _|assumption|apply Pick.there)).pick (A := blkA g2 114 [.int .i64 x.kind, .int .i64 x.frm, .int .i64 x.to, .int .u64 x.term, .int .u64 x.index, .int .u64 x.logTerm, .int .u64 x.commit, .bool x.ok, .slice x.entries.A x.entries.l.length x.entries.c, .slice x.body.A x.body.l.length x.body.c, .int .u64 x.client, .int .u64 x.req, .slice x.events.A x.events.l.length x.events.c]) (by repeat first|exact .here _ _|assumption|apply Pick.there))⟩ (fun w hI => (q_cast (v' := .agg x.cells.toArray) (q_load_blk Try.isAgg114 Try.sizeOf114 rfl (hI.choose_spec.blk (by repeat first|exact .here _ _|assumption|apply Pick.there)) rfl) (by rfl))) ?_
   refine p_one 1 rfl (by kernel_rfl) ?_
   refine t_call Try.call59 (wsound_calls (x := x) (hgx.st hS)) rfl ?_
   rintro e w ⟨rfl, hT⟩
   refine ⟨_, rfl, ?_⟩
   replace hS := hS.after hT
   refine t_nil ?_
   refine ⟨.inr ⟨_, ((hS.pick (A := blkA g3 114 [.int .i64 y.kind, .int .i64 y.frm, .int .i64 y.to, .int .u64 y.term, .int .u64 y.index, .int .u64 y.logTerm, .int .u64 y.commit, .bool y.ok, .slice y.entries.A y.entries.l.length y.entries.c, .slice y.body.A y.body.l.length y.body.c, .int .u64 y.client, .int .u64 y.req, .slice y.events.A y.events.l.length y.events.c]) (by repeat first|exact .here _ _|assumption|apply Pick.there)).pick (A := blkA g2 114 [.int .i64 x.kind, .int .i64 x.frm, .int .i64 x.to, .int .u64 x.term, .int .u64 x.index, .int .u64 x.logTerm, .int .u64 x.commit, .bool x.ok, .slice x.entries.A x.entries.l.length x.entries.c, .slice x.body.A x.body.l.length x.body.c, .int .u64 x.client, .int .u64 x.req, .slice x.events.A x.events.l.length x.events.c]) (by repeat first|exact .here _ _|assumption|apply Pick.there))⟩, ?_⟩
   refine p_one 3 rfl (by kernel_rfl) ?_
   refine t_call Try.call61 (wplain_calls (x := x) (hgx.st hS)) rfl ?_
   rintro e w ⟨A17, c17, rfl, hT⟩
   refine ⟨_, rfl, ?_⟩
   have hS : St W w (_ :: _ :: _) := hS.lift hT
   refine t_nil ?_
   refine ⟨.inr ⟨_, ((hS.pick (A := blkA g3 114 [.int .i64 y.kind, .int .i64 y.frm, .int .i64 y.to, .int .u64 y.term, .int .u64 y.index, .int .u64 y.logTerm, .int .u64 y.commit, .bool y.ok, .slice y.entries.A y.entries.l.length y.entries.c, .slice y.body.A y.body.l.length y.body.c, .int .u64 y.client, .int .u64 y.req, .slice y.events.A y.events.l.length y.events.c]) (by repeat first|exact .here _ _|assumption|apply Pick.there)).pick (A := blkA g2 114 [.int .i64 x.kind, .int .i64 x.frm, .int .i64 x.to, .int .u64 x.term, .int .u64 x.index, .int .u64 x.logTerm, .int .u64 x.commit, .bool x.ok, .slice x.entries.A x.entries.l.length x.entries.c, .slice x.body.A x.body.l.length x.body.c, .int .u64 x.client, .int .u64 x.req, .slice x.events.A x.events.l.length x.events.c]) (by repeat first|exact .here _ _|assumption|apply Pick.there))⟩, ?_⟩
   refine p_one 4 rfl (by kernel_rfl) ?_
   refine t_call Try.call60 (qwsound_calls (x := x.own A17 c17) ((hgx.st hS).own (rowRdN hS (A := A17) (c := c17) (l := x.entries.l) (by repeat first|exact .here _ _|assumption|apply Pick.there) rfl))) rfl ?_
   rintro e w ⟨rfl, hT⟩
   refine ⟨_, rfl, ?_⟩
   replace hS := hS.after hT
   rw [sound_own]
   refine t_nil ?_
   refine ⟨.inr ⟨_, ((hS.pick (A := blkA g3 114 [.int .i64 y.kind, .int .i64 y.frm, .int .i64 y.to, .int .u64 y.term, .int .u64 y.index, .int .u64 y.logTerm, .int .u64 y.commit, .bool y.ok, .slice y.entries.A y.entries.l.length y.entries.c, .slice y.body.A y.body.l.length y.body.c, .int .u64 y.client, .int .u64 y.req, .slice y.events.A y.events.l.length y.events.c]) (by repeat first|exact .here _ _|assumption|apply Pick.there)).pick (A := blkA g2 114 [.int .i64 x.kind, .int .i64 x.frm, .int .i64 x.to, .int .u64 x.term, .int .u64 x.index, .int .u64 x.logTerm, .int .u64 x.commit, .bool x.ok, .slice x.entries.A x.entries.l.length x.entries.c, .slice x.body.A x.body.l.length x.body.c, .int .u64 x.client, .int .u64 x.req, .slice x.events.A x.events.l.length x.events.c]) (by repeat first|exact .here _ _|assumption|apply Pick.there))⟩, ?_⟩
   refine p_q hap hsel 5 rfl rfl ⟨_, ((hS.pick (A := blkA g3 114 [.int .i64 y.kind, .int .i64 y.frm, .int .i64 y.to, .int .u64 y.term, .int .u64 y.index, .int .u64 y.logTerm, .int .u64 y.commit, .bool y.ok, .slice y.entries.A y.entries.l.length y.entries.c, .slice y.body.A y.body.l.length y.body.c, .int .u64 y.client, .int .u64 y.req, .slice y.events.A y.events.l.length y.events.c]) (by repeat first|exact .here _ _|assumption|apply Pick.there)).pick (A := blkA g2 114 [.int .i64 x.kind, .int .i64 x.frm, .int .i64 x.to, .int .u64 x.term, .int .u64 x.index, .int .u64 x.logTerm, .int .u64 x.commit, .bool x.ok, .slice x.entries.A x.entries.l.length x.entries.c, .slice x.body.A x.body.l.length x.body.c, .int .u64 x.client, .int .u64 x.req, .slice x.events.A x.events.l.length x.events.c]) (by repeat first|exact .here _ _|assumption|apply Pick.there))⟩ (fun w hI => (q_cast (v' := .bool true) (q_eql_bool Try.runUnderlying4 rfl rfl) (by simp))) ?_
   refine p_q hap hsel 6 rfl rfl ⟨_, ((hS.pick (A := blkA g3 114 [.int .i64 y.kind, .int .i64 y.frm, .int .i64 y.to, .int .u64 y.term, .int .u64 y.index, .int .u64 y.logTerm, .int .u64 y.commit, .bool y.ok, .slice y.entries.A y.entries.l.length y.entries.c, .slice y.body.A y.body.l.length y.body.c, .int .u64 y.client, .int .u64 y.req, .slice y.events.A y.events.l.length y.events.c]) (by repeat first|exact .here _ _|assumption|apply Pick.there)).pick (A := blkA g2 114 [.int .i64 x.kind, .int .i64 x.frm, .int .i64 x.to, .int .u64 x.term, .int .u64 x.index, .int .u64 x.logTerm, .int .u64 x.commit, .bool x.ok, .slice x.entries.A x.entries.l.length x.entries.c, .slice x.body.A x.body.l.length x.body.c, .int .u64 x.client, .int .u64 x.req, .slice x.events.A x.events.l.length x.events.c]) (by repeat first|exact .here _ _|assumption|apply Pick.there))⟩ (fun w hI => q_mv (.bool _) rfl) ?_
   refine p_yes hap hsel 7 rfl rfl ⟨_, ((hS.pick (A := blkA g3 114 [.int .i64 y.kind, .int .i64 y.frm, .int .i64 y.to, .int .u64 y.term, .int .u64 y.index, .int .u64 y.logTerm, .int .u64 y.commit, .bool y.ok, .slice y.entries.A y.entries.l.length y.entries.c, .slice y.body.A y.body.l.length y.body.c, .int .u64 y.client, .int .u64 y.req, .slice y.events.A y.events.l.length y.events.c]) (by repeat first|exact .here _ _|assumption|apply Pick.there)).pick (A := blkA g2 114 [.int .i64 x.kind, .int .i64 x.frm, .int .i64 x.to, .int .u64 x.term, .int .u64 x.index, .int .u64 x.logTerm, .int .u64 x.commit, .bool x.ok, .slice x.entries.A x.entries.l.length x.entries.c, .slice x.body.A x.body.l.length x.body.c, .int .u64 x.client, .int .u64 x.req, .slice x.events.A x.events.l.length x.events.c]) (by repeat first|exact .here _ _|assumption|apply Pick.there))⟩ rfl rfl rfl (fun w hI => (q_cast (v' := .agg x.cells.toArray) (q_load_blk Try.isAgg114 Try.sizeOf114 rfl (hI.choose_spec.blk (by repeat first|exact .here _ _|assumption|apply Pick.there)) rfl) (by rfl))) ?_
   refine p_yes hap hsel 8 rfl rfl ⟨_, ((hS.pick (A := blkA g3 114 [.int .i64 y.kind, .int .i64 y.frm, .int .i64 y.to, .int .u64 y.term, .int .u64 y.index, .int .u64 y.logTerm, .int .u64 y.commit, .bool y.ok, .slice y.entries.A y.entries.l.length y.entries.c, .slice y.body.A y.body.l.length y.body.c, .int .u64 y.client, .int .u64 y.req, .slice y.events.A y.events.l.length y.events.c]) (by repeat first|exact .here _ _|assumption|apply Pick.there)).pick (A := blkA g2 114 [.int .i64 x.kind, .int .i64 x.frm, .int .i64 x.to, .int .u64 x.term, .int .u64 x.index, .int .u64 x.logTerm, .int .u64 x.commit, .bool x.ok, .slice x.entries.A x.entries.l.length x.entries.c, .slice x.body.A x.body.l.length x.body.c, .int .u64 x.client, .int .u64 x.req, .slice x.events.A x.events.l.length x.events.c]) (by repeat first|exact .here _ _|assumption|apply Pick.there))⟩ rfl rfl rfl (fun w hI => (q_cast (v' := .agg y.cells.toArray) (q_load_blk Try.isAgg114 Try.sizeOf114 rfl (hI.choose_spec.blk (by repeat first|exact .here _ _|assumption|apply Pick.there)) rfl) (by rfl))) ?_
   refine p_yes hap hsel 10 rfl rfl ⟨_, ((hS.pick (A := blkA g3 114 [.int .i64 y.kind, .int .i64 y.frm, .int .i64 y.to, .int .u64 y.term, .int .u64 y.index, .int .u64 y.logTerm, .int .u64 y.commit, .bool y.ok, .slice y.entries.A y.entries.l.length y.entries.c, .slice y.body.A y.body.l.length y.body.c, .int .u64 y.client, .int .u64 y.req, .slice y.events.A y.events.l.length y.events.c]) (by repeat first|exact .here _ _|assumption|apply Pick.there)).pick (A := blkA g2 114 [.int .i64 x.kind, .int .i64 x.frm, .int .i64 x.to, .int .u64 x.term, .int .u64 x.index, .int .u64 x.logTerm, .int .u64 x.commit, .bool x.ok, .slice x.entries.A x.entries.l.length x.entries.c, .slice x.body.A x.body.l.length x.body.c, .int .u64 x.client, .int .u64 x.req, .slice x.events.A x.events.l.length x.events.c]) (by repeat first|exact .here _ _|assumption|apply Pick.there))⟩ rfl rfl rfl (fun w hI => (q_cast (v' := .agg x.cells.toArray) (q_load_blk Try.isAgg114 Try.sizeOf114 rfl (hI.choose_spec.blk (by repeat first|exact .here _ _|assumption|apply Pick.there)) rfl) (by rfl))) ?_
   refine p_yes hap hsel 12 rfl rfl ⟨_, ((hS.pick (A := blkA g3 114 [.int .i64 y.kind, .int .i64 y.frm, .int .i64 y.to, .int .u64 y.term, .int .u64 y.index, .int .u64 y.logTerm, .int .u64 y.commit, .bool y.ok, .slice y.entries.A y.entries.l.length y.entries.c, .slice y.body.A y.body.l.length y.body.c, .int .u64 y.client, .int .u64 y.req, .slice y.events.A y.events.l.length y.events.c]) (by repeat first|exact .here _ _|assumption|apply Pick.there)).pick (A := blkA g2 114 [.int .i64 x.kind, .int .i64 x.frm, .int .i64 x.to, .int .u64 x.term, .int .u64 x.index, .int .u64 x.logTerm, .int .u64 x.commit, .bool x.ok, .slice x.entries.A x.entries.l.length x.entries.c, .slice x.body.A x.body.l.length x.body.c, .int .u64 x.client, .int .u64 x.req, .slice x.events.A x.events.l.length x.events.c]) (by repeat first|exact .here _ _|assumption|apply Pick.there))⟩ rfl rfl rfl (fun w hI => (q_cast (v' := .agg y.cells.toArray) (q_load_blk Try.isAgg114 Try.sizeOf114 rfl (hI.choose_spec.blk (by repeat first|exact .here _ _|assumption|apply Pick.there)) rfl) (by rfl))) ?_
   refine p_one 9 rfl (by kernel_rfl) ?_
   refine t_yes rfl rfl rfl ?_
   refine t_call Try.call62 (wsame_calls (x := x) (y := y) (hgx.st hS) (hgy.st hS)) rfl ?_
   rintro e w ⟨rfl, hT⟩
   refine ⟨_, rfl, ?_⟩
   replace hS := hS.after hT
   refine t_nil ?_
   refine ⟨.inr ⟨_, ((hS.pick (A := blkA g3 114 [.int .i64 y.kind, .int .i64 y.frm, .int .i64 y.to, .int .u64 y.term, .int .u64 y.index, .int .u64 y.logTerm, .int .u64 y.commit, .bool y.ok, .slice y.entries.A y.entries.l.length y.entries.c, .slice y.body.A y.body.l.length y.body.c, .int .u64 y.client, .int .u64 y.req, .slice y.events.A y.events.l.length y.events.c]) (by repeat first|exact .here _ _|assumption|apply Pick.there)).pick (A := blkA g2 114 [.int .i64 x.kind, .int .i64 x.frm, .int .i64 x.to, .int .u64 x.term, .int .u64 x.index, .int .u64 x.logTerm, .int .u64 x.commit, .bool x.ok, .slice x.entries.A x.entries.l.length x.entries.c, .slice x.body.A x.body.l.length x.body.c, .int .u64 x.client, .int .u64 x.req, .slice x.events.A x.events.l.length x.events.c]) (by repeat first|exact .here _ _|assumption|apply Pick.there))⟩, ?_⟩
   refine p_one 11 rfl (by kernel_rfl) ?_
   refine t_yes rfl rfl rfl ?_
   refine t_call Try.call61 (wplain_calls (x := x) (hgx.st hS)) rfl ?_
   rintro e w ⟨A25, c25, rfl, hT⟩
   refine ⟨_, rfl, ?_⟩
   have hS : St W w (_ :: _ :: _) := hS.lift hT
   refine t_nil ?_
   refine ⟨.inr ⟨_, ((hS.pick (A := blkA g3 114 [.int .i64 y.kind, .int .i64 y.frm, .int .i64 y.to, .int .u64 y.term, .int .u64 y.index, .int .u64 y.logTerm, .int .u64 y.commit, .bool y.ok, .slice y.entries.A y.entries.l.length y.entries.c, .slice y.body.A y.body.l.length y.body.c, .int .u64 y.client, .int .u64 y.req, .slice y.events.A y.events.l.length y.events.c]) (by repeat first|exact .here _ _|assumption|apply Pick.there)).pick (A := blkA g2 114 [.int .i64 x.kind, .int .i64 x.frm, .int .i64 x.to, .int .u64 x.term, .int .u64 x.index, .int .u64 x.logTerm, .int .u64 x.commit, .bool x.ok, .slice x.entries.A x.entries.l.length x.entries.c, .slice x.body.A x.body.l.length x.body.c, .int .u64 x.client, .int .u64 x.req, .slice x.events.A x.events.l.length x.events.c]) (by repeat first|exact .here _ _|assumption|apply Pick.there))⟩, ?_⟩
   refine p_one 13 rfl (by kernel_rfl) ?_
   refine t_yes rfl rfl rfl ?_
   refine t_call Try.call61 (wplain_calls (x := y) (hgy.st hS)) rfl ?_
   rintro e w ⟨A27, c27, rfl, hT⟩
   refine ⟨_, rfl, ?_⟩
   have hS : St W w (_ :: _ :: _) := hS.lift hT
   refine t_nil ?_
   refine ⟨.inr ⟨_, ((hS.pick (A := blkA g3 114 [.int .i64 y.kind, .int .i64 y.frm, .int .i64 y.to, .int .u64 y.term, .int .u64 y.index, .int .u64 y.logTerm, .int .u64 y.commit, .bool y.ok, .slice y.entries.A y.entries.l.length y.entries.c, .slice y.body.A y.body.l.length y.body.c, .int .u64 y.client, .int .u64 y.req, .slice y.events.A y.events.l.length y.events.c]) (by repeat first|exact .here _ _|assumption|apply Pick.there)).pick (A := blkA g2 114 [.int .i64 x.kind, .int .i64 x.frm, .int .i64 x.to, .int .u64 x.term, .int .u64 x.index, .int .u64 x.logTerm, .int .u64 x.commit, .bool x.ok, .slice x.entries.A x.entries.l.length x.entries.c, .slice x.body.A x.body.l.length x.body.c, .int .u64 x.client, .int .u64 x.req, .slice x.events.A x.events.l.length x.events.c]) (by repeat first|exact .here _ _|assumption|apply Pick.there))⟩, ?_⟩
   refine p_one 14 rfl (by kernel_rfl) ?_
   refine t_yes rfl rfl rfl ?_
   refine t_call Try.call63 (qwsame_calls (x := x.own A25 c25) (y := y.own A27 c27) ((hgx.st hS).own (rowRdN hS (A := A25) (c := c25) (l := x.entries.l) (by repeat first|exact .here _ _|assumption|apply Pick.there) rfl)) ((hgy.st hS).own (rowRdN hS (A := A27) (c := c27) (l := y.entries.l) (by repeat first|exact .here _ _|assumption|apply Pick.there) rfl))) rfl ?_
   rintro e w ⟨rfl, hT⟩
   refine ⟨_, rfl, ?_⟩
   replace hS := hS.after hT
   refine t_nil ?_
   refine ⟨.inr ⟨_, ((hS.pick (A := blkA g3 114 [.int .i64 y.kind, .int .i64 y.frm, .int .i64 y.to, .int .u64 y.term, .int .u64 y.index, .int .u64 y.logTerm, .int .u64 y.commit, .bool y.ok, .slice y.entries.A y.entries.l.length y.entries.c, .slice y.body.A y.body.l.length y.body.c, .int .u64 y.client, .int .u64 y.req, .slice y.events.A y.events.l.length y.events.c]) (by repeat first|exact .here _ _|assumption|apply Pick.there)).pick (A := blkA g2 114 [.int .i64 x.kind, .int .i64 x.frm, .int .i64 x.to, .int .u64 x.term, .int .u64 x.index, .int .u64 x.logTerm, .int .u64 x.commit, .bool x.ok, .slice x.entries.A x.entries.l.length x.entries.c, .slice x.body.A x.body.l.length x.body.c, .int .u64 x.client, .int .u64 x.req, .slice x.events.A x.events.l.length x.events.c]) (by repeat first|exact .here _ _|assumption|apply Pick.there))⟩, ?_⟩
   refine p_yes hap hsel 15 rfl rfl ⟨_, ((hS.pick (A := blkA g3 114 [.int .i64 y.kind, .int .i64 y.frm, .int .i64 y.to, .int .u64 y.term, .int .u64 y.index, .int .u64 y.logTerm, .int .u64 y.commit, .bool y.ok, .slice y.entries.A y.entries.l.length y.entries.c, .slice y.body.A y.body.l.length y.body.c, .int .u64 y.client, .int .u64 y.req, .slice y.events.A y.events.l.length y.events.c]) (by repeat first|exact .here _ _|assumption|apply Pick.there)).pick (A := blkA g2 114 [.int .i64 x.kind, .int .i64 x.frm, .int .i64 x.to, .int .u64 x.term, .int .u64 x.index, .int .u64 x.logTerm, .int .u64 x.commit, .bool x.ok, .slice x.entries.A x.entries.l.length x.entries.c, .slice x.body.A x.body.l.length x.body.c, .int .u64 x.client, .int .u64 x.req, .slice x.events.A x.events.l.length x.events.c]) (by repeat first|exact .here _ _|assumption|apply Pick.there))⟩ rfl rfl rfl (fun w hI => (q_cast (v' := .bool true) (q_eql_bool Try.runUnderlying4 rfl rfl) (congrArg Value.bool (decide_eq_true rfl)))) ?_
   refine p_q hap hsel 16 rfl rfl ⟨_, ((hS.pick (A := blkA g3 114 [.int .i64 y.kind, .int .i64 y.frm, .int .i64 y.to, .int .u64 y.term, .int .u64 y.index, .int .u64 y.logTerm, .int .u64 y.commit, .bool y.ok, .slice y.entries.A y.entries.l.length y.entries.c, .slice y.body.A y.body.l.length y.body.c, .int .u64 y.client, .int .u64 y.req, .slice y.events.A y.events.l.length y.events.c]) (by repeat first|exact .here _ _|assumption|apply Pick.there)).pick (A := blkA g2 114 [.int .i64 x.kind, .int .i64 x.frm, .int .i64 x.to, .int .u64 x.term, .int .u64 x.index, .int .u64 x.logTerm, .int .u64 x.commit, .bool x.ok, .slice x.entries.A x.entries.l.length x.entries.c, .slice x.body.A x.body.l.length x.body.c, .int .u64 x.client, .int .u64 x.req, .slice x.events.A x.events.l.length x.events.c]) (by repeat first|exact .here _ _|assumption|apply Pick.there))⟩ (fun w hI => q_pick_t rfl rfl) ?_
   refine p_q hap hsel 17 rfl rfl ⟨_, ((hS.pick (A := blkA g3 114 [.int .i64 y.kind, .int .i64 y.frm, .int .i64 y.to, .int .u64 y.term, .int .u64 y.index, .int .u64 y.logTerm, .int .u64 y.commit, .bool y.ok, .slice y.entries.A y.entries.l.length y.entries.c, .slice y.body.A y.body.l.length y.body.c, .int .u64 y.client, .int .u64 y.req, .slice y.events.A y.events.l.length y.events.c]) (by repeat first|exact .here _ _|assumption|apply Pick.there)).pick (A := blkA g2 114 [.int .i64 x.kind, .int .i64 x.frm, .int .i64 x.to, .int .u64 x.term, .int .u64 x.index, .int .u64 x.logTerm, .int .u64 x.commit, .bool x.ok, .slice x.entries.A x.entries.l.length x.entries.c, .slice x.body.A x.body.l.length x.body.c, .int .u64 x.client, .int .u64 x.req, .slice x.events.A x.events.l.length x.events.c]) (by repeat first|exact .here _ _|assumption|apply Pick.there))⟩ (fun w hI => q_mv (.bool _) rfl) ?_
   refine p_yes hap hsel 18 rfl rfl ⟨_, ((hS.pick (A := blkA g3 114 [.int .i64 y.kind, .int .i64 y.frm, .int .i64 y.to, .int .u64 y.term, .int .u64 y.index, .int .u64 y.logTerm, .int .u64 y.commit, .bool y.ok, .slice y.entries.A y.entries.l.length y.entries.c, .slice y.body.A y.body.l.length y.body.c, .int .u64 y.client, .int .u64 y.req, .slice y.events.A y.events.l.length y.events.c]) (by repeat first|exact .here _ _|assumption|apply Pick.there)).pick (A := blkA g2 114 [.int .i64 x.kind, .int .i64 x.frm, .int .i64 x.to, .int .u64 x.term, .int .u64 x.index, .int .u64 x.logTerm, .int .u64 x.commit, .bool x.ok, .slice x.entries.A x.entries.l.length x.entries.c, .slice x.body.A x.body.l.length x.body.c, .int .u64 x.client, .int .u64 x.req, .slice x.events.A x.events.l.length x.events.c]) (by repeat first|exact .here _ _|assumption|apply Pick.there))⟩ rfl rfl rfl (fun w hI => (q_cast (v' := .agg x.cells.toArray) (q_load_blk Try.isAgg114 Try.sizeOf114 rfl (hI.choose_spec.blk (by repeat first|exact .here _ _|assumption|apply Pick.there)) rfl) (by rfl))) ?_
   refine p_yes hap hsel 19 rfl rfl ⟨_, ((hS.pick (A := blkA g3 114 [.int .i64 y.kind, .int .i64 y.frm, .int .i64 y.to, .int .u64 y.term, .int .u64 y.index, .int .u64 y.logTerm, .int .u64 y.commit, .bool y.ok, .slice y.entries.A y.entries.l.length y.entries.c, .slice y.body.A y.body.l.length y.body.c, .int .u64 y.client, .int .u64 y.req, .slice y.events.A y.events.l.length y.events.c]) (by repeat first|exact .here _ _|assumption|apply Pick.there)).pick (A := blkA g2 114 [.int .i64 x.kind, .int .i64 x.frm, .int .i64 x.to, .int .u64 x.term, .int .u64 x.index, .int .u64 x.logTerm, .int .u64 x.commit, .bool x.ok, .slice x.entries.A x.entries.l.length x.entries.c, .slice x.body.A x.body.l.length x.body.c, .int .u64 x.client, .int .u64 x.req, .slice x.events.A x.events.l.length x.events.c]) (by repeat first|exact .here _ _|assumption|apply Pick.there))⟩ rfl rfl rfl (fun w hI => (q_cast (v' := .agg x.cells.toArray) (q_load_blk Try.isAgg114 Try.sizeOf114 rfl (hI.choose_spec.blk (by repeat first|exact .here _ _|assumption|apply Pick.there)) rfl) (by rfl))) ?_
   refine p_one 20 rfl (by kernel_rfl) ?_
   refine t_yes rfl rfl rfl ?_
   refine t_call Try.call62 (wsame_calls (x := x) (y := x) (hgx.st hS) (hgx.st hS)) rfl ?_
   rintro e w ⟨rfl, hT⟩
   refine ⟨_, rfl, ?_⟩
   replace hS := hS.after hT
   rw [show decide (x.vw = x.vw) = true from decide_eq_true rfl]
   refine t_nil ?_
   refine ⟨.inr ⟨_, ((hS.pick (A := blkA g3 114 [.int .i64 y.kind, .int .i64 y.frm, .int .i64 y.to, .int .u64 y.term, .int .u64 y.index, .int .u64 y.logTerm, .int .u64 y.commit, .bool y.ok, .slice y.entries.A y.entries.l.length y.entries.c, .slice y.body.A y.body.l.length y.body.c, .int .u64 y.client, .int .u64 y.req, .slice y.events.A y.events.l.length y.events.c]) (by repeat first|exact .here _ _|assumption|apply Pick.there)).pick (A := blkA g2 114 [.int .i64 x.kind, .int .i64 x.frm, .int .i64 x.to, .int .u64 x.term, .int .u64 x.index, .int .u64 x.logTerm, .int .u64 x.commit, .bool x.ok, .slice x.entries.A x.entries.l.length x.entries.c, .slice x.body.A x.body.l.length x.body.c, .int .u64 x.client, .int .u64 x.req, .slice x.events.A x.events.l.length x.events.c]) (by repeat first|exact .here _ _|assumption|apply Pick.there))⟩, ?_⟩
   refine p_q hap hsel 21 rfl rfl ⟨_, ((hS.pick (A := blkA g3 114 [.int .i64 y.kind, .int .i64 y.frm, .int .i64 y.to, .int .u64 y.term, .int .u64 y.index, .int .u64 y.logTerm, .int .u64 y.commit, .bool y.ok, .slice y.entries.A y.entries.l.length y.entries.c, .slice y.body.A y.body.l.length y.body.c, .int .u64 y.client, .int .u64 y.req, .slice y.events.A y.events.l.length y.events.c]) (by repeat first|exact .here _ _|assumption|apply Pick.there)).pick (A := blkA g2 114 [.int .i64 x.kind, .int .i64 x.frm, .int .i64 x.to, .int .u64 x.term, .int .u64 x.index, .int .u64 x.logTerm, .int .u64 x.commit, .bool x.ok, .slice x.entries.A x.entries.l.length x.entries.c, .slice x.body.A x.body.l.length x.body.c, .int .u64 x.client, .int .u64 x.req, .slice x.events.A x.events.l.length x.events.c]) (by repeat first|exact .here _ _|assumption|apply Pick.there))⟩ (fun w hI => q_pick_t rfl rfl) ?_
   refine p_q hap hsel 22 rfl rfl ⟨_, ((hS.pick (A := blkA g3 114 [.int .i64 y.kind, .int .i64 y.frm, .int .i64 y.to, .int .u64 y.term, .int .u64 y.index, .int .u64 y.logTerm, .int .u64 y.commit, .bool y.ok, .slice y.entries.A y.entries.l.length y.entries.c, .slice y.body.A y.body.l.length y.body.c, .int .u64 y.client, .int .u64 y.req, .slice y.events.A y.events.l.length y.events.c]) (by repeat first|exact .here _ _|assumption|apply Pick.there)).pick (A := blkA g2 114 [.int .i64 x.kind, .int .i64 x.frm, .int .i64 x.to, .int .u64 x.term, .int .u64 x.index, .int .u64 x.logTerm, .int .u64 x.commit, .bool x.ok, .slice x.entries.A x.entries.l.length x.entries.c, .slice x.body.A x.body.l.length x.body.c, .int .u64 x.client, .int .u64 x.req, .slice x.events.A x.events.l.length x.events.c]) (by repeat first|exact .here _ _|assumption|apply Pick.there))⟩ (fun w hI => q_mv (.bool _) rfl) ?_
   refine p_one 23 rfl (by kernel_rfl) ?_
   refine t_yes rfl rfl rfl ?_
   refine t_call Try.call58 (wlives_calls) rfl ?_
   rintro e w ⟨rfl, hT⟩
   refine ⟨_, rfl, ?_⟩
   replace hS := hS.after hT
   refine t_nil ?_
   refine ⟨.inr ⟨_, ((hS.pick (A := blkA g3 114 [.int .i64 y.kind, .int .i64 y.frm, .int .i64 y.to, .int .u64 y.term, .int .u64 y.index, .int .u64 y.logTerm, .int .u64 y.commit, .bool y.ok, .slice y.entries.A y.entries.l.length y.entries.c, .slice y.body.A y.body.l.length y.body.c, .int .u64 y.client, .int .u64 y.req, .slice y.events.A y.events.l.length y.events.c]) (by repeat first|exact .here _ _|assumption|apply Pick.there)).pick (A := blkA g2 114 [.int .i64 x.kind, .int .i64 x.frm, .int .i64 x.to, .int .u64 x.term, .int .u64 x.index, .int .u64 x.logTerm, .int .u64 x.commit, .bool x.ok, .slice x.entries.A x.entries.l.length x.entries.c, .slice x.body.A x.body.l.length x.body.c, .int .u64 x.client, .int .u64 x.req, .slice x.events.A x.events.l.length x.events.c]) (by repeat first|exact .here _ _|assumption|apply Pick.there))⟩, ?_⟩
   refine p_q hap hsel 24 rfl rfl ⟨_, ((hS.pick (A := blkA g3 114 [.int .i64 y.kind, .int .i64 y.frm, .int .i64 y.to, .int .u64 y.term, .int .u64 y.index, .int .u64 y.logTerm, .int .u64 y.commit, .bool y.ok, .slice y.entries.A y.entries.l.length y.entries.c, .slice y.body.A y.body.l.length y.body.c, .int .u64 y.client, .int .u64 y.req, .slice y.events.A y.events.l.length y.events.c]) (by repeat first|exact .here _ _|assumption|apply Pick.there)).pick (A := blkA g2 114 [.int .i64 x.kind, .int .i64 x.frm, .int .i64 x.to, .int .u64 x.term, .int .u64 x.index, .int .u64 x.logTerm, .int .u64 x.commit, .bool x.ok, .slice x.entries.A x.entries.l.length x.entries.c, .slice x.body.A x.body.l.length x.body.c, .int .u64 x.client, .int .u64 x.req, .slice x.events.A x.events.l.length x.events.c]) (by repeat first|exact .here _ _|assumption|apply Pick.there))⟩ (fun w hI => q_pick_t rfl rfl) ?_
   refine p_q hap hsel 25 rfl rfl ⟨_, ((hS.pick (A := blkA g3 114 [.int .i64 y.kind, .int .i64 y.frm, .int .i64 y.to, .int .u64 y.term, .int .u64 y.index, .int .u64 y.logTerm, .int .u64 y.commit, .bool y.ok, .slice y.entries.A y.entries.l.length y.entries.c, .slice y.body.A y.body.l.length y.body.c, .int .u64 y.client, .int .u64 y.req, .slice y.events.A y.events.l.length y.events.c]) (by repeat first|exact .here _ _|assumption|apply Pick.there)).pick (A := blkA g2 114 [.int .i64 x.kind, .int .i64 x.frm, .int .i64 x.to, .int .u64 x.term, .int .u64 x.index, .int .u64 x.logTerm, .int .u64 x.commit, .bool x.ok, .slice x.entries.A x.entries.l.length x.entries.c, .slice x.body.A x.body.l.length x.body.c, .int .u64 x.client, .int .u64 x.req, .slice x.events.A x.events.l.length x.events.c]) (by repeat first|exact .here _ _|assumption|apply Pick.there))⟩ (fun w hI => q_as (.bool _) rfl) ?_
   refine p_end (by kernel_rfl) ?_
   refine c_ret ?_
   refine r_one rfl rfl ?_
   exact ⟨rfl, hS.nil⟩
end Go.Proofs.Ytlppgpidakfnlaa
