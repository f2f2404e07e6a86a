/- The document's table of acks: what its functions tell. -/
import Derived.Test.YtmgobaojioaioaaAl
namespace Go.Proofs.Ytmgobaojioaioaa
open Go Go.RowKit Go.Lib
variable {W : World}
def ackC (a : Int × Int) : List Value := [.int .i64 a.1, .int .i64 a.2]
def RdA (w : World) (A : Option Addr) (L : AckL) : Prop := Rd w 2 A L.length (fun i => ackC (L.getD i default))
theorem RdA.st {w : World} {Q : List Asn} {A : Option Addr} {L : AckL} (h : RdA W A L) (hS : St W w Q) : RdA w A L := Rd.st h hS
theorem hasL_at {L : AckL} {r v : Int} {j : Nat} (hj : j < L.length) (h1 : (L.getD j default).1 = r) (h2 : (L.getD j default).2 = v) : hasL L r v = true := by
  unfold hasL
  rw [List.any_eq_true]
  refine ⟨L.getD j default, ?_, by simp only [h1, h2, decide_true, Bool.and_self]⟩
  rw [List.getD_eq_getElem?_getD, List.getElem?_eq_getElem hj]
  exact List.getElem_mem hj
theorem hasL_none {L : AckL} {r v : Int} (h : ∀ j, j < L.length → ¬ ((L.getD j default).1 = r ∧ (L.getD j default).2 = v)) : hasL L r v = false := by
  unfold hasL
  rw [List.any_eq_false]
  intro a ha
  obtain ⟨j, hj, rfl⟩ := List.mem_iff_getElem.1 ha
  have := h j hj
  rw [List.getD_eq_getElem?_getD, List.getElem?_eq_getElem hj] at this
  simpa using this
theorem ofK_yes {L : AckL} {r : Int} {j : Nat} (hj : j < 32) (h : hasL L r ((j : Int) + 1) = true) : ofK L r j + bitN ((j : Int) + 1) = ofK L r (j + 1) := by
  rw [ofK, if_pos h, bitN_in (by omega), show ((j : Int) + 1 - 1).toNat = j from by omega]
theorem ofK_no {L : AckL} {r : Int} {j : Nat} (h : hasL L r ((j : Int) + 1) = false) : ofK L r (j + 1) = ofK L r j := by
  rw [ofK, if_neg (by rw [h]; decide), Nat.add_zero]
theorem ofK_b {L : AckL} {r : Int} {j : Nat} (hj : j ≤ 32) : ofK L r j ≤ 4294967296 := by
  have h1 := ofK_lt L r j
  have h2 : 2 ^ j ≤ 2 ^ 32 := Nat.pow_le_pow_right (by decide) hj
  omega
def allL (n : Int) (L : AckL) (v : Int) : Bool := decide (0 < n) && decide (∀ i : Nat, i < n.toNat → hasL L (i : Int) v = true)
set_option maxRecDepth 100000 in
theorem has2_calls {A : Option Addr} {c : Nat} {L : AckL} {n : Int} (hR : RdA W A L) {r v : Int} (hm : L.length ≤ 1000000) : Calls Try.prog 138 #[.agg #[.int .i64 n, .slice A L.length c], .int .i64 r, .int .i64 v] W fun e w' => e = .returned (.bool (hasL L r v)) ∧ St W w' [] := by
  have hS := St.init W
  refine calls_of_wpE (args := [_, _, _]) Try.func138 rfl rfl rfl ?_
  refine c_seq ?_
  refine c_region ?_
  refine t_box (v := (.agg _)) rfl rfl hS (fun g3 w hS => ?_)
  refine t_q (q_assign) ?_
  refine t_nil ?_
  refine c_seq ?_
  refine c_seq ?_
  refine c_region ?_
  refine t_q (q_assign) ?_
  refine t_nil ?_
  refine c_block ?_
  refine c_loop [6, 7, 8, 9, 10, 11, 12, 13, 14, 15, 16, 17, 18, 19, 20, 21, 22, 23, 24, 25, 26, 27, 28, 29, 30, 31, 32] (fun k σ w => ∃ j : Nat, σ 7 = .int .i64 (j : Int) ∧ j ≤ L.length ∧ L.length - j ≤ k ∧ (∀ i, i < j → ¬ ((L.getD i default).1 = r ∧ (L.getD i default).2 = v)) ∧ St W w [blkA g3 39 [.int .i64 n, .slice A L.length c]]) (L.length) rfl (⟨0, rfl, by omega, by omega, fun i h => absurd h (by omega), hS⟩) ?_
  skip
  rintro k σ w ⟨j, h7, hj, hk, hall, hS⟩
  refine c_know 7 h7 ?_
  clear h7
  refine c_seq ?_
  refine c_seq ?_
  refine c_region ?_
  refine t_q (q_mv (.int _ _) rfl) ?_
  refine t_q (q_fieldAddr 1 Try.runUnderlying39 rfl Try.sizeOf37 (by decide) rfl rfl) ?_
  refine t_q (q_load1 Try.isAgg37 rfl (hS.cell (by repeat first | exact .here _ _ | assumption | apply Pick.there) rfl)) ?_
  refine t_q (q_len_slice Try.runUnderlying37 rfl) ?_
  refine t_q (q_lss rfl rfl) ?_
  refine t_nil ?_
  refine c_cond rfl ?_ ?_
  · intro hc2
    have hc2d := of_decide_eq_true hc2
    refine c_skip ?_
    refine c_seq ?_
    refine c_block ?_
    refine c_seq ?_
    refine c_region ?_
    refine t_q (q_fieldAddr 1 Try.runUnderlying39 rfl Try.sizeOf37 (by decide) rfl rfl) ?_
    refine t_q (q_load1 Try.isAgg37 rfl (hS.cell (by repeat first | exact .here _ _ | assumption | apply Pick.there) rfl)) ?_
    refine t_q (q_mv (.int _ _) rfl) ?_
    first | refine t_index_nat Try.runUnderlying37 Try.sizeOf199 (hR.st hS) rfl rfl (by omega) (fun ad3 hl3 hx3 => ?_) | refine t_index Try.runUnderlying37 Try.sizeOf199 (hR.st hS) rfl rfl (by omega) (fun ad3 hl3 hx3 => ?_)
    refine t_q (q_fieldAddr 0 Try.runUnderlying199 rfl Try.sizeOf3 (by decide) rfl rfl) ?_
    refine t_q (q_load1 Try.isAgg3 rfl (hx3 0 _ rfl)) ?_
    refine t_q (q_mv (.int _ _) rfl) ?_
    refine t_q (q_eql rfl rfl) ?_
    refine t_q (q_mv (.bool _) rfl) ?_
    refine t_case 23 rfl ?_ ?_
    · intro hg5
      have hg5d := of_decide_eq_true hg5
      refine t_yes rfl rfl hg5 ?_
      refine t_q (q_fieldAddr 1 Try.runUnderlying39 rfl Try.sizeOf37 (by decide) rfl rfl) ?_
      refine t_yes rfl rfl hg5 ?_
      refine t_q (q_load1 Try.isAgg37 rfl (hS.cell (by repeat first | exact .here _ _ | assumption | apply Pick.there) rfl)) ?_
      refine t_yes rfl rfl hg5 ?_
      refine t_q (q_mv (.int _ _) rfl) ?_
      refine t_yes rfl rfl hg5 ?_
      first | refine t_index_nat Try.runUnderlying37 Try.sizeOf199 (hR.st hS) rfl rfl (by omega) (fun ad6 hl6 hx6 => ?_) | refine t_index Try.runUnderlying37 Try.sizeOf199 (hR.st hS) rfl rfl (by omega) (fun ad6 hl6 hx6 => ?_)
      refine t_yes rfl rfl hg5 ?_
      refine t_q (q_fieldAddr 1 Try.runUnderlying199 rfl Try.sizeOf3 (by decide) rfl rfl) ?_
      refine t_yes rfl rfl hg5 ?_
      refine t_q (q_load1 Try.isAgg3 rfl (hx6 1 _ rfl)) ?_
      refine t_yes rfl rfl hg5 ?_
      refine t_q (q_mv (.int _ _) rfl) ?_
      refine t_yes rfl rfl hg5 ?_
      refine t_q (q_eql rfl rfl) ?_
      refine t_q (q_pick_t rfl hg5) ?_
      refine t_nil ?_
      refine c_cond rfl ?_ ?_
      · intro hc8
        have hc8d := of_decide_eq_true hc8
        refine c_seq ?_
        refine c_region ?_
        refine t_q (q_assign) ?_
        refine t_nil ?_
        refine c_ret ?_
        refine r_one rfl rfl ?_
        first
          | exact ⟨congrArg (fun b => Ending.returned (.bool b)) (hasL_at (j := j) (by omega) (by omega) (by omega)).symm, hS.nil⟩
          | exact ⟨congrArg (fun b => Ending.returned (.bool b)) (hasL_none fun i hi => hall i (by omega)).symm, hS.nil⟩
      · intro hc8
        have hc8d := of_decide_eq_false hc8
        refine c_skip ?_
        refine c_region ?_
        refine t_q (q_mv (.int _ _) rfl) ?_
        refine t_q (q_add_i64 rfl rfl (by omega)) ?_
        refine t_q (q_as (.int _ _) rfl) ?_
        refine t_nil ?_
        exact ⟨k - 1, by omega, j + 1, rfl, by omega, by omega, fun i hi => (by
          rcases Nat.lt_or_ge i j with h | h
          · exact hall i h
          · obtain rfl : i = j := by omega
            omega), hS⟩
    · intro hg5
      have hg5d := of_decide_eq_false hg5
      refine t_no rfl rfl (by rw [hg5]; decide) ?_
      refine t_no rfl rfl (by rw [hg5]; decide) ?_
      refine t_no rfl rfl (by rw [hg5]; decide) ?_
      refine t_no rfl rfl (by rw [hg5]; decide) ?_
      refine t_no rfl rfl (by rw [hg5]; decide) ?_
      refine t_no rfl rfl (by rw [hg5]; decide) ?_
      refine t_no rfl rfl (by rw [hg5]; decide) ?_
      refine t_no rfl rfl (by rw [hg5]; decide) ?_
      refine t_q (q_pick_f rfl hg5) ?_
      refine t_nil ?_
      refine c_cond_f rfl rfl ?_
      refine c_skip ?_
      refine c_region ?_
      refine t_q (q_mv (.int _ _) rfl) ?_
      refine t_q (q_add_i64 rfl rfl (by omega)) ?_
      refine t_q (q_as (.int _ _) rfl) ?_
      refine t_nil ?_
      exact ⟨k - 1, by omega, j + 1, rfl, by omega, by omega, fun i hi => (by
        rcases Nat.lt_or_ge i j with h | h
        · exact hall i h
        · obtain rfl : i = j := by omega
          omega), hS⟩
  · intro hc2
    have hc2d := of_decide_eq_false hc2
    refine c_exit ?_
    refine ite_t rfl ?_
    refine c_seq ?_
    refine c_region ?_
    refine t_q (q_assign) ?_
    refine t_nil ?_
    refine c_ret ?_
    refine r_one rfl rfl ?_
    first
      | exact ⟨congrArg (fun b => Ending.returned (.bool b)) (hasL_at (j := j) (by omega) (by omega) (by omega)).symm, hS.nil⟩
      | exact ⟨congrArg (fun b => Ending.returned (.bool b)) (hasL_none fun i hi => hall i (by omega)).symm, hS.nil⟩
set_option maxRecDepth 100000 in
theorem of2_calls {A : Option Addr} {c : Nat} {L : AckL} {n : Int} (hR : RdA W A L) {r : Int} (hm : L.length ≤ 1000000) : Calls Try.prog 113 #[.agg #[.int .i64 n, .slice A L.length c], .int .i64 r] W fun e w' => e = .returned (.int .u64 (ofN L r : Int)) ∧ St W w' [] := by
  have hS := St.init W
  refine calls_of_wpE (args := [_, _]) Try.func113 rfl rfl rfl ?_
  refine c_seq ?_
  refine c_region ?_
  refine t_box (v := (.agg _)) rfl rfl hS (fun g2 w hS => ?_)
  refine t_q (q_assign) ?_
  refine t_nil ?_
  refine c_seq ?_
  refine c_region ?_
  refine t_q (q_assign) ?_
  refine t_nil ?_
  refine c_seq ?_
  refine c_seq ?_
  refine c_region ?_
  refine t_q (q_assign) ?_
  refine t_nil ?_
  refine c_block ?_
  refine c_loop [5, 6, 7, 8, 9, 10, 11, 12, 13, 14, 15, 16, 17, 18] (fun k σ w => ∃ j : Nat, σ 6 = .int .i64 ((j : Int) + 1) ∧ σ 5 = .int .u64 (ofK L r j : Int) ∧ j ≤ 32 ∧ 32 - j ≤ k ∧ St W w [blkA g2 39 [.int .i64 n, .slice A L.length c]]) (32) rfl (⟨0, rfl, rfl, by omega, by omega, hS⟩) ?_
  skip
  rintro k σ w ⟨j, h6, h5, hj, hk, hS⟩
  refine c_know 6 h6 ?_
  refine c_know 5 h5 ?_
  clear h6 h5
  have hb1 := ofK_b (L := L) (r := r) hj
  have hb2 := bitN_lt ((j : Int) + 1)
  refine c_seq ?_
  refine c_seq ?_
  refine c_region ?_
  refine t_q (q_mv (.int _ _) rfl) ?_
  refine t_q (q_leq rfl rfl) ?_
  refine t_nil ?_
  refine c_cond rfl ?_ ?_
  · intro hc2
    have hc2d := of_decide_eq_true hc2
    refine c_skip ?_
    refine c_seq ?_
    refine c_block ?_
    refine c_seq ?_
    refine c_region ?_
    refine t_q (q_load_blk Try.isAgg39 Try.sizeOf39 rfl (hS.blk (by repeat first | exact .here _ _ | assumption | apply Pick.there)) rfl) ?_
    refine t_q (q_mv (.int _ _) rfl) ?_
    refine t_q (q_mv (.int _ _) rfl) ?_
    refine t_call Try.call138 (has2_calls (hR.st hS) hm) rfl ?_
    rintro e w ⟨rfl, hT⟩
    refine ⟨_, rfl, ?_⟩
    replace hS := hS.after hT
    refine t_nil ?_
    refine c_cond rfl ?_ ?_
    · intro hc4
      have hyes := hc4
      refine c_region ?_
      refine t_q (q_mv (.int _ _) rfl) ?_
      refine t_q (q_mv (.int _ _) rfl) ?_
      refine t_call Try.call82 (qbit_calls) rfl ?_
      rintro e w ⟨rfl, hT⟩
      refine ⟨_, rfl, ?_⟩
      replace hS := hS.after hT
      refine t_q (q_cast (v' := .int .u64 ((ofK L r (j + 1) : Nat) : Int)) (q_add_u64 rfl rfl (by omega)) (by rw [← ofK_yes (by omega) hyes]; rfl)) ?_
      refine t_q (q_as (.int _ _) rfl) ?_
      refine t_nil ?_
      refine c_region ?_
      refine t_q (q_mv (.int _ _) rfl) ?_
      refine t_q (q_cast (v' := .int .i64 (((j + 1 : Nat) : Int) + 1)) (q_add_i64 rfl rfl (by omega)) (by congr 1)) ?_
      refine t_q (q_as (.int _ _) rfl) ?_
      refine t_nil ?_
      first
        | exact ⟨k - 1, by omega, j + 1, rfl, rfl, by omega, by omega, hS⟩
        | exact ⟨k - 1, by omega, j + 1, rfl, by rw [ofK_no hno]; rfl, by omega, by omega, hS⟩
    · intro hc4
      have hno := hc4
      refine c_skip ?_
      refine c_region ?_
      refine t_q (q_mv (.int _ _) rfl) ?_
      refine t_q (q_cast (v' := .int .i64 (((j + 1 : Nat) : Int) + 1)) (q_add_i64 rfl rfl (by omega)) (by congr 1)) ?_
      refine t_q (q_as (.int _ _) rfl) ?_
      refine t_nil ?_
      first
        | exact ⟨k - 1, by omega, j + 1, rfl, rfl, by omega, by omega, hS⟩
        | exact ⟨k - 1, by omega, j + 1, rfl, by rw [ofK_no hno]; rfl, by omega, by omega, hS⟩
  · intro hc2
    have hc2d := of_decide_eq_false hc2
    refine c_exit ?_
    refine ite_t rfl ?_
    refine c_seq ?_
    refine c_region ?_
    refine t_q (q_mv (.int _ _) rfl) ?_
    refine t_q (q_as (.int _ _) rfl) ?_
    refine t_nil ?_
    refine c_ret ?_
    refine r_one rfl rfl ?_
    obtain rfl : j = 32 := by omega
    exact ⟨rfl, hS.nil⟩
set_option maxRecDepth 100000 in
theorem all2_calls {A : Option Addr} {c : Nat} {L : AckL} {n : Int} (hR : RdA W A L) {v : Int} (hm : L.length ≤ 1000000) (hn : n ≤ 1000) : Calls Try.prog 110 #[.agg #[.int .i64 n, .slice A L.length c], .int .i64 v] W fun e w' => e = .returned (.bool (allL n L v)) ∧ St W w' [] := by
  have hS := St.init W
  refine calls_of_wpE (args := [_, _]) Try.func110 rfl rfl rfl ?_
  refine c_seq ?_
  refine c_region ?_
  refine t_box (v := (.agg _)) rfl rfl hS (fun g2 w hS => ?_)
  refine t_q (q_assign) ?_
  refine t_nil ?_
  refine c_seq ?_
  refine c_seq ?_
  refine c_region ?_
  refine t_q (q_assign) ?_
  refine t_nil ?_
  refine c_block ?_
  refine c_loop [4, 5, 6, 7, 8, 9, 10, 11, 12, 13, 14, 15, 16] (fun k σ w => ∃ j : Nat, σ 5 = .int .i64 (j : Int) ∧ (j : Int) ≤ max n 0 ∧ n.toNat - j ≤ k ∧ (∀ i : Nat, i < j → hasL L (i : Int) v = true) ∧ St W w [blkA g2 39 [.int .i64 n, .slice A L.length c]]) (n.toNat) rfl (⟨0, rfl, by omega, by omega, fun i h => absurd h (by omega), hS⟩) ?_
  skip
  rintro k σ w ⟨j, h5, hj, hk, hall, hS⟩
  refine c_know 5 h5 ?_
  clear h5
  refine c_seq ?_
  refine c_seq ?_
  refine c_region ?_
  refine t_q (q_mv (.int _ _) rfl) ?_
  refine t_q (q_fieldAddr 0 Try.runUnderlying39 rfl Try.sizeOf3 (by decide) rfl rfl) ?_
  refine t_q (q_load1 Try.isAgg3 rfl (hS.cell (by repeat first | exact .here _ _ | assumption | apply Pick.there) rfl)) ?_
  refine t_q (q_lss rfl rfl) ?_
  refine t_nil ?_
  refine c_cond rfl ?_ ?_
  · intro hc2
    have hc2d := of_decide_eq_true hc2
    refine c_skip ?_
    refine c_seq ?_
    refine c_block ?_
    refine c_seq ?_
    refine c_region ?_
    refine t_q (q_load_blk Try.isAgg39 Try.sizeOf39 rfl (hS.blk (by repeat first | exact .here _ _ | assumption | apply Pick.there)) rfl) ?_
    refine t_q (q_mv (.int _ _) rfl) ?_
    refine t_q (q_mv (.int _ _) rfl) ?_
    refine t_call Try.call138 (has2_calls (hR.st hS) hm) rfl ?_
    rintro e w ⟨rfl, hT⟩
    refine ⟨_, rfl, ?_⟩
    replace hS := hS.after hT
    refine t_q (q_not rfl) ?_
    refine t_nil ?_
    refine c_cond rfl ?_ ?_
    · intro hc4
      have hno : hasL L (j : Int) v = false := by simpa using hc4
      refine c_seq ?_
      refine c_region ?_
      refine t_q (q_assign) ?_
      refine t_nil ?_
      refine c_ret ?_
      refine r_one rfl rfl ?_
      refine ⟨congrArg (fun b => Ending.returned (.bool b)) ?_, hS.nil⟩
      unfold allL
      first
        | (rw [decide_eq_false (p := ∀ i : Nat, i < n.toNat → hasL L (i : Int) v = true) (fun h => by have := h j (by omega); rw [hno] at this; cases this), Bool.and_false])
        | (rw [decide_eq_true (p := ∀ i : Nat, i < n.toNat → hasL L (i : Int) v = true) (fun i hi => hall i (by omega)), Bool.and_true])
    · intro hc4
      have hyes : hasL L (j : Int) v = true := by simpa using hc4
      refine c_skip ?_
      refine c_region ?_
      refine t_q (q_mv (.int _ _) rfl) ?_
      refine t_q (q_add_i64 rfl rfl (by omega)) ?_
      refine t_q (q_as (.int _ _) rfl) ?_
      refine t_nil ?_
      exact ⟨k - 1, by omega, j + 1, rfl, by omega, by omega, fun i hi => (by
        rcases Nat.lt_or_ge i j with h | h
        · exact hall i h
        · obtain rfl : i = j := by omega
          exact hyes), hS⟩
  · intro hc2
    have hc2d := of_decide_eq_false hc2
    refine c_exit ?_
    refine ite_t rfl ?_
    refine c_seq ?_
    refine c_region ?_
    refine t_q (q_fieldAddr 0 Try.runUnderlying39 rfl Try.sizeOf3 (by decide) rfl rfl) ?_
    refine t_q (q_load1 Try.isAgg3 rfl (hS.cell (by repeat first | exact .here _ _ | assumption | apply Pick.there) rfl)) ?_
    refine t_q (q_gtr rfl rfl) ?_
    refine t_q (q_as (.bool _) rfl) ?_
    refine t_nil ?_
    refine c_ret ?_
    refine r_one rfl rfl ?_
    refine ⟨congrArg (fun b => Ending.returned (.bool b)) ?_, hS.nil⟩
    unfold allL
    first
      | (rw [decide_eq_false (p := ∀ i : Nat, i < n.toNat → hasL L (i : Int) v = true) (fun h => by have := h j (by omega); rw [hno] at this; cases this), Bool.and_false])
      | (rw [decide_eq_true (p := ∀ i : Nat, i < n.toNat → hasL L (i : Int) v = true) (fun i hi => hall i (by omega)), Bool.and_true])
end Go.Proofs.Ytmgobaojioaioaa
