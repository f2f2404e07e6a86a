/- However often an error is wrapped. -/
import Derived.Test.YtcgagmojgjbfpaaDoorDe
namespace Go.Proofs.YtcgagmojgjbfpaaDoor
open Go Go.RowKit Go.Lib
variable {W : World}
theorem txtL_pre (a : Int) {l : List Int} (h : l ≠ []) : txtL (a :: l) = decI a ++ [62] ++ txtL l := by
  cases l with
  | nil => exact absurd rfl h
  | cons b l => rw [txtL_cons, List.append_assoc]; rfl
theorem want_step {i : Int} {l : List Int} {j : Nat} (h : j < l.length) : decI (l.getD j 0) ++ [62] ++ txtL ((l.take j).reverse ++ [i]) = txtL ((l.take (j + 1)).reverse ++ [i]) := by
  rw [List.take_succ_eq_append_getElem h, List.reverse_append, List.reverse_singleton, List.append_assoc [l[j]], List.singleton_append, txtL_pre _ (by simp), List.getD_eq_getElem?_getD, List.getElem?_eq_getElem h]
  rfl
theorem want_len {i : Int} {l : List Int} (h : ∀ x ∈ l, -9223372036854775808 ≤ x ∧ x ≤ 9223372036854775807) (hi : -9223372036854775808 ≤ i ∧ i ≤ 9223372036854775807) : (txtL (l.reverse ++ [i])).length ≤ 21 * (l.length + 1) := by
  have h1 := txtL_len (l := l.reverse ++ [i]) fun x hx => by
    rcases List.mem_append.1 hx with h2 | h2
    · exact h x (List.mem_reverse.1 h2)
    · rw [List.mem_singleton.1 h2]; exact hi
  rw [List.length_append, List.length_reverse] at h1
  exact h1
theorem txt_one (i : Int) : decI i = txtL [i] := by rw [txtL_eq, List.flatMap_nil, List.append_nil]
theorem rev_at {l : List Int} {i : Int} {j : Nat} (h : j < l.length) : (l.reverse ++ [i]).getD j 0 = l.getD (l.length - 1 - j) 0 := by
  rw [List.getD_eq_getElem?_getD, List.getElem?_append_left (by rw [List.length_reverse]; exact h), List.getElem?_reverse h, ← List.getD_eq_getElem?_getD]
theorem rev_last {l : List Int} {i : Int} : (l.reverse ++ [i]).getD l.length 0 = i := by
  rw [List.getD_eq_getElem?_getD, List.getElem?_append_right (by simp), List.length_reverse, Nat.sub_self]
  rfl
attribute [local irreducible] blkA rowA rdsA decI txtL txtF chF
set_option maxHeartbeats 4000000 in
set_option maxRecDepth 100000 in
theorem FaultChains_calls {code inner : Int} {A : Option Addr} {l : List Int} {c : Nat} (hl : RdL W A l) (hlc : l.length ≤ c ∧ c ≤ 9223372036854775807) (hli : (∀ x ∈ l, -9223372036854775808 ≤ x ∧ x ≤ 9223372036854775807)) (hcode : -9223372036854775808 ≤ code ∧ code ≤ 9223372036854775807) (hinner : -9223372036854775808 ≤ inner ∧ inner ≤ 9223372036854775807) (hE : EtOk W) : Calls Tryd.prog 3 #[.int .i64 code, .int .i64 inner, .slice A l.length c] W fun e w' => e = .returned (.bool true) ∧ St W w' [] := by
  have hS := (St.init W).rds0
  have hLi : ∀ x ∈ l.take 100, -9223372036854775808 ≤ x ∧ x ≤ 9223372036854775807 := fun x hx => hli x (List.mem_of_mem_take hx)
  refine calls_of_wpE (args := [_, _, _]) Tryd.func3 rfl rfl rfl ?_
  refine c_seq ?_
  refine c_region ?_
  refine t_q (q_assign) ?_
  refine t_nil ?_
  refine c_cut [2, 13, 14, 15, 16, 17] (fun σ w => σ 2 = .slice A (l.take 100).length c ∧ St W w [rdsA []]) rfl ?_ ?_
  ·
    refine c_seq ?_
    refine c_region ?_
    refine t_q (q_mv (.slice _ _ _) rfl) ?_
    refine t_q (q_len_slice Tryd.runUnderlying22 rfl) ?_
    refine t_q (q_gtr rfl rfl) ?_
    refine t_nil ?_
    refine c_cond rfl ?_ ?_
    · intro hc2
      have hc2d := of_decide_eq_true hc2
      refine c_region ?_
      refine t_q (q_mv (.slice _ _ _) rfl) ?_
      refine t_q (q_cast (v' := .slice A (l.take 100).length c) (q_slice Tryd.runUnderlying22 Tryd.sizeOf3 rfl ⟨_, _, rfl, by omega, by omega, rfl⟩ rfl) (by rw [cut_zero, List.length_take, Nat.min_eq_left (by omega)]; rfl)) ?_
      refine t_q (q_as (.slice _ _ _) rfl) ?_
      refine t_nil ?_
      first
        | exact ⟨rfl, hS⟩
        | exact ⟨congrArg (fun n => Value.slice A n c) (show l.length = (l.take 100).length from by rw [List.length_take]; omega), hS⟩
    · intro hc2
      have hc2d := of_decide_eq_false hc2
      refine c_skip ?_
      first
        | exact ⟨rfl, hS⟩
        | exact ⟨congrArg (fun n => Value.slice A n c) (show l.length = (l.take 100).length from by rw [List.length_take]; omega), hS⟩
  ·
    rintro σ w ⟨h2, hS⟩
    have hll : (l.take 100).length ≤ 100 := by rw [List.length_take]; omega
    refine c_know 2 h2 ?_
    refine c_seq ?_
    refine c_region ?_
    refine t_q (q_mv (.int _ _) rfl) ?_
    refine t_q (q_mv (.int _ _) rfl) ?_
    refine t_call Tryd.call11 (enew_calls (l := inner) (c := code) (hS.pick (A := rdsA []) (by repeat first | exact .here _ _ | assumption | apply Pick.there))) rfl ?_
    rintro e w ⟨v0, ps0, rfl, hv0, _, hS⟩
    refine ⟨_, rfl, ?_⟩
    rw [chF_new] at hv0
    refine t_q (q_as v0 rfl) ?_
    refine t_nil ?_
    refine c_seq ?_
    refine c_region ?_
    refine t_q (q_mv (.int _ _) rfl) ?_
    refine t_call Tryd.call12 (ldig_calls hinner) rfl ?_
    rintro e w ⟨rfl, hT⟩
    refine ⟨_, rfl, ?_⟩
    replace hS := hS.after hT
    refine t_q (q_as (.string _) rfl) ?_
    refine t_nil ?_
    refine c_seq ?_
    refine c_seq ?_
    refine c_region ?_
    refine t_q (q_mv (.slice _ _ _) rfl) ?_
    refine t_q (q_len_slice Tryd.runUnderlying22 rfl) ?_
    refine t_q (q_move) ?_
    refine t_nil ?_
    refine c_block ?_
    refine c_loop [7, 8, 10, 25, 26, 27, 28, 29, 30, 31, 32, 33, 34, 35, 36, 37] (fun k σ w => ∃ (j : Nat) (v : Value) (ps : List RdP), σ 25 = .int .i64 (j : Int) ∧ σ 7 = v ∧ σ 8 = .string ⟨(txtL (((l.take 100).take j).reverse ++ [inner])).toArray⟩ ∧ j ≤ (l.take 100).length ∧ (l.take 100).length - j ≤ k ∧ ErrL ps v (chF inner code ((l.take 100).take j)) ∧ St W w [rdsA ps]) ((l.take 100).length) rfl (⟨0, v0, ps0, rfl, rfl, (show Value.string ⟨(decI inner).toArray⟩ = _ from by rw [txt_one]; rfl), by omega, by omega, hv0, hS⟩) ?_
    skip
    rintro k σ w ⟨j, v, ps, h25, h7, h8, hj, hk, hv, hS⟩
    refine c_know 25 h25 ?_
    refine c_know 7 h7 ?_
    refine c_know 8 h8 ?_
    clear h25 h7 h8
    refine c_seq ?_
    refine c_region ?_
    refine t_q (q_lss rfl rfl) ?_
    refine t_nil ?_
    refine c_seq ?_
    refine c_cond rfl ?_ ?_
    · intro hc6
      have hc6d := of_decide_eq_true hc6
      have hwl := want_len (l := (l.take 100).take j) (i := inner) (fun x hx => hLi x (List.mem_of_mem_take hx)) hinner
      rw [List.length_take] at hwl
      have hdl := decI_len (hLi _ (getD_mem (l := (l.take 100)) (j := j) (d := 0) (by omega)))
      refine c_skip ?_
      refine c_seq ?_
      refine c_block ?_
      refine c_seq ?_
      refine c_region ?_
      first | refine t_index_nat Tryd.runUnderlying22 Tryd.sizeOf3 (RdL.take (Rd.st hl hS) 100) rfl rfl (by omega) (fun ad7 hl7 hx7 => ?_) | refine t_index Tryd.runUnderlying22 Tryd.sizeOf3 (RdL.take (Rd.st hl hS) 100) rfl rfl (by omega) (fun ad7 hl7 hx7 => ?_)
      refine t_q (q_load1 Tryd.isAgg3 rfl (hx7 0 _ rfl)) ?_
      refine t_q (q_as (.int _ _) rfl) ?_
      refine t_nil ?_
      refine c_seq ?_
      refine c_region ?_
      refine t_q (q_mv (.int _ _) rfl) ?_
      refine t_q (q_mv v rfl) ?_
      refine t_call Tryd.call13 (ewrap_calls (l := ((l.take 100).getD j 0)) (hS.pick (A := rdsA ps) (by repeat first | exact .here _ _ | assumption | apply Pick.there)) hv) rfl ?_
      rintro e w ⟨v1, ps1, rfl, hv1, _, hS⟩
      refine ⟨_, rfl, ?_⟩
      rw [chF_step (by omega)] at hv1
      refine t_q (q_as v1 rfl) ?_
      refine t_nil ?_
      refine c_region ?_
      refine t_q (q_mv (.int _ _) rfl) ?_
      refine t_call Tryd.call12 (ldig_calls (hLi _ (getD_mem (l := (l.take 100)) (j := j) (d := 0) (by omega)))) rfl ?_
      rintro e w ⟨rfl, hT⟩
      refine ⟨_, rfl, ?_⟩
      replace hS := hS.after hT
      refine t_q (q_add_lst (a := decI ((l.take 100).getD j 0)) (b := [62]) rfl rfl (by show _ + 1 ≤ _; omega)) ?_
      refine t_q (q_mv (.string _) rfl) ?_
      refine t_q (q_cast (v' := .string ⟨(txtL (((l.take 100).take (j + 1)).reverse ++ [inner])).toArray⟩) (q_add_lst (a := decI ((l.take 100).getD j 0) ++ [62]) (b := txtL (((l.take 100).take j).reverse ++ [inner])) rfl rfl (by rw [List.length_append]; show _ + 1 + _ ≤ _; omega)) (by rw [want_step (by omega)])) ?_
      refine t_q (q_as (.string _) rfl) ?_
      refine t_nil ?_
      refine c_region ?_
      refine t_q (q_add_i64 rfl rfl (by omega)) ?_
      refine t_q (q_mv (.int _ _) rfl) ?_
      refine t_nil ?_
      exact ⟨k - 1, by omega, j + 1, v1, ps1, rfl, rfl, rfl, by omega, by omega, hv1, hS⟩
    · intro hc6
      have hc6d := of_decide_eq_false hc6
      obtain rfl : j = (l.take 100).length := by omega
      rw [List.take_length] at *
      have hFl : (chF inner code (l.take 100)).length ≤ 1000 := by have := chF_len inner code (l.take 100); omega
      have hwl := want_len (l := (l.take 100)) (i := inner) hLi hinner
      have hdl := decI_len hcode
      have hlr : ∀ x ∈ layF (chF inner code (l.take 100)), -9223372036854775808 ≤ x ∧ x ≤ 9223372036854775807 := fun x hx => by
        by_cases h0 : code = 0
        · subst h0; rw [chF_zero] at hx; cases hx
        · rw [chF_lay _ h0] at hx
          rcases List.mem_append.1 hx with h | h
          · exact hLi x (List.mem_reverse.1 h)
          · rw [List.mem_singleton.1 h]; exact hinner
      refine c_exit ?_
      refine ite_t rfl ?_
      refine c_seq ?_
      refine c_region ?_
      refine t_q (q_mv v rfl) ?_
      refine t_call Tryd.call14 (layers_calls (F := (chF inner code (l.take 100))) hE (hS.pick (A := rdsA ps) (by repeat first | exact .here _ _ | assumption | apply Pick.there)) hv hFl) rfl ?_
      rintro e w ⟨A39, c39, rfl, hS⟩
      refine ⟨_, rfl, ?_⟩
      refine t_q (q_as (.slice _ _ _) rfl) ?_
      refine t_nil ?_
      refine c_seq ?_
      refine c_seq ?_
      refine c_region ?_
      refine t_q (q_mv (.int _ _) rfl) ?_
      refine t_q (q_eql rfl rfl) ?_
      refine t_nil ?_
      refine c_cond rfl ?_ ?_
      · intro hc12
        have hc12d := of_decide_eq_true hc12
        have hc0 : code = 0 := by omega
        have hz : (chF inner code (l.take 100)) = [] := by rw [hc0]; exact chF_zero _ _
        obtain rfl : v = .nilIface := by rw [hz] at hv; exact hv
        refine c_seq ?_
        refine c_region ?_
        refine t_q (q_mv .nilIface rfl) ?_
        refine t_q (q_cast (v' := .bool true) (q_eql_iface_nil Tryd.runUnderlying24 rfl (.inl rfl)) (by rfl)) ?_
        refine t_q (q_mv (.bool _) rfl) ?_
        refine t_yes rfl rfl rfl ?_
        refine t_q (q_mv (.slice _ _ _) rfl) ?_
        refine t_yes rfl rfl rfl ?_
        refine t_q (q_len_slice Tryd.runUnderlying22 rfl) ?_
        refine t_yes rfl rfl rfl ?_
        refine t_q (q_cast (v' := .bool true) (q_eql rfl rfl) (congrArg Value.bool (decide_eq_true (by rw [hz]; rfl)))) ?_
        refine t_q (q_pick_t rfl rfl) ?_
        refine t_q (q_mv (.bool _) rfl) ?_
        refine t_yes rfl rfl rfl ?_
        refine t_q (q_mv .nilIface rfl) ?_
        refine t_yes rfl rfl rfl ?_
        refine t_call Tryd.call15 (code_calls (F := (chF inner code (l.take 100))) hE (hS.pick (A := rdsA ps) (by repeat first | exact .here _ _ | assumption | apply Pick.there)) hv hFl) rfl ?_
        rintro e w ⟨rfl, hS⟩
        refine ⟨_, rfl, ?_⟩
        refine t_yes rfl rfl rfl ?_
        refine t_q (q_cast (v' := .bool true) (q_eql rfl rfl) (congrArg Value.bool (decide_eq_true (by rw [hz]; rfl)))) ?_
        refine t_q (q_pick_t rfl rfl) ?_
        refine t_q (q_mv (.bool _) rfl) ?_
        refine t_yes rfl rfl rfl ?_
        refine t_q (q_mv .nilIface rfl) ?_
        refine t_yes rfl rfl rfl ?_
        refine t_call Tryd.call16 (text_calls (F := (chF inner code (l.take 100))) hE (hS.pick (A := rdsA ps) (by repeat first | exact .here _ _ | assumption | apply Pick.there)) hv hFl hlr (by rw [chF_code]; exact hcode)) rfl ?_
        rintro e w ⟨rfl, hS⟩
        refine ⟨_, rfl, ?_⟩
        refine t_yes rfl rfl rfl ?_
        refine t_q (q_cast (v' := .bool true) (q_eql_lst (a := txtF (chF inner code (l.take 100))) (b := []) rfl rfl) (congrArg Value.bool (decide_eq_true (by rw [hz]; unfold txtF; exact if_pos rfl)))) ?_
        refine t_q (q_pick_t rfl rfl) ?_
        refine t_q (q_mv (.bool _) rfl) ?_
        refine t_yes rfl rfl rfl ?_
        refine t_call Tryd.call17 (lives4_calls (hE.st hS)) rfl ?_
        rintro e w ⟨rfl, hT⟩
        refine ⟨_, rfl, ?_⟩
        replace hS := hS.after hT
        refine t_q (q_pick_t rfl rfl) ?_
        refine t_q (q_as (.bool _) rfl) ?_
        refine t_nil ?_
        refine c_ret ?_
        refine r_one rfl rfl ?_
        exact ⟨rfl, hS.nil⟩
      · intro hc12
        have hc12d := of_decide_eq_false hc12
        have hc0 : code ≠ 0 := by omega
        have hlay : layF (chF inner code (l.take 100)) = ((l.take 100).reverse ++ [inner]) := chF_lay _ hc0
        have htx : txtF (chF inner code (l.take 100)) = txtL ((l.take 100).reverse ++ [inner]) ++ [32] ++ decI code := by
          unfold txtF
          rw [if_neg (fun h => by rw [h] at hlay; exact absurd (congrArg List.length hlay) (by simp [layF])), hlay, chF_code]
        refine c_skip ?_
        refine c_seq ?_
        refine c_seq ?_
        refine c_region ?_
        refine t_q (q_mv (.slice _ _ _) rfl) ?_
        refine t_q (q_len_slice Tryd.runUnderlying22 rfl) ?_
        refine t_q (q_mv (.slice _ _ _) rfl) ?_
        refine t_q (q_len_slice Tryd.runUnderlying22 rfl) ?_
        refine t_q (q_add_i64 rfl rfl (by omega)) ?_
        refine t_q (q_cast (v' := .bool false) (q_neq rfl rfl) (congrArg Value.bool (decide_eq_false (by rw [hlay, List.length_append, List.length_reverse]; show ¬ _ ≠ _; simp)))) ?_
        refine t_q (q_mv (.bool _) rfl) ?_
        refine t_yes rfl rfl rfl ?_
        refine t_q (q_mv (.slice _ _ _) rfl) ?_
        refine t_yes rfl rfl rfl ?_
        refine t_q (q_mv (.slice _ _ _) rfl) ?_
        refine t_yes rfl rfl rfl ?_
        refine t_q (q_len_slice Tryd.runUnderlying22 rfl) ?_
        refine t_yes rfl rfl rfl ?_
        first | refine t_index_nat Tryd.runUnderlying22 Tryd.sizeOf3 ((hS.rowInts (ns := layF (chF inner code (l.take 100))) (A := A39) (c := c39) (by repeat first | exact .here _ _ | assumption | apply Pick.there) rfl)) rfl rfl (by rw [hlay, List.length_append, List.length_reverse]; show _ < _ + 1; omega) (fun ad20 hl20 hx20 => ?_) | refine t_index Tryd.runUnderlying22 Tryd.sizeOf3 ((hS.rowInts (ns := layF (chF inner code (l.take 100))) (A := A39) (c := c39) (by repeat first | exact .here _ _ | assumption | apply Pick.there) rfl)) rfl rfl (by rw [hlay, List.length_append, List.length_reverse]; show _ < _ + 1; omega) (fun ad20 hl20 hx20 => ?_)
        refine t_yes rfl rfl rfl ?_
        refine t_q (q_load1 Tryd.isAgg3 rfl (hx20 0 _ rfl)) ?_
        refine t_yes rfl rfl rfl ?_
        refine t_q (q_mv (.int _ _) rfl) ?_
        refine t_yes rfl rfl rfl ?_
        refine t_q (q_cast (v' := .bool false) (q_neq rfl rfl) (congrArg Value.bool (decide_eq_false (not_not_intro (by rw [hlay]; exact rev_last))))) ?_
        refine t_q (q_pick_f rfl rfl) ?_
        refine t_q (q_mv (.bool _) rfl) ?_
        refine t_yes rfl rfl rfl ?_
        refine t_q (q_mv v rfl) ?_
        refine t_yes rfl rfl rfl ?_
        refine t_call Tryd.call15 (code_calls (F := (chF inner code (l.take 100))) hE (hS.pick (A := rdsA ps) (by repeat first | exact .here _ _ | assumption | apply Pick.there)) hv hFl) rfl ?_
        rintro e w ⟨rfl, hS⟩
        refine ⟨_, rfl, ?_⟩
        refine t_yes rfl rfl rfl ?_
        refine t_q (q_mv (.int _ _) rfl) ?_
        refine t_yes rfl rfl rfl ?_
        refine t_q (q_cast (v' := .bool false) (q_neq rfl rfl) (congrArg Value.bool (decide_eq_false (not_not_intro (chF_code _ _ _))))) ?_
        refine t_q (q_pick_f rfl rfl) ?_
        refine t_q (q_mv (.bool _) rfl) ?_
        refine t_yes rfl rfl rfl ?_
        refine t_q (q_mv v rfl) ?_
        refine t_yes rfl rfl rfl ?_
        refine t_call Tryd.call16 (text_calls (F := (chF inner code (l.take 100))) hE (hS.pick (A := rdsA ps) (by repeat first | exact .here _ _ | assumption | apply Pick.there)) hv hFl hlr (by rw [chF_code]; exact hcode)) rfl ?_
        rintro e w ⟨rfl, hS⟩
        refine ⟨_, rfl, ?_⟩
        refine t_yes rfl rfl rfl ?_
        refine t_q (q_mv (.string _) rfl) ?_
        refine t_yes rfl rfl rfl ?_
        refine t_q (q_add_lst (a := txtL ((l.take 100).reverse ++ [inner])) (b := [32]) rfl rfl (by show _ + 1 ≤ _; omega)) ?_
        refine t_yes rfl rfl rfl ?_
        refine t_q (q_mv (.int _ _) rfl) ?_
        refine t_yes rfl rfl rfl ?_
        refine t_call Tryd.call12 (ldig_calls hcode) rfl ?_
        rintro e w ⟨rfl, hT⟩
        refine ⟨_, rfl, ?_⟩
        replace hS := hS.after hT
        refine t_yes rfl rfl rfl ?_
        refine t_q (q_add_lst (a := txtL ((l.take 100).reverse ++ [inner]) ++ [32]) (b := decI code) rfl rfl (by rw [List.length_append]; show _ + 1 + _ ≤ _; omega)) ?_
        refine t_yes rfl rfl rfl ?_
        refine t_q (q_cast (v' := .bool false) (q_neq_lst (a := txtF (chF inner code (l.take 100))) (b := txtL ((l.take 100).reverse ++ [inner]) ++ [32] ++ decI code) rfl rfl) (congrArg Value.bool (decide_eq_false (not_not_intro htx)))) ?_
        refine t_q (q_pick_f rfl rfl) ?_
        refine t_nil ?_
        refine c_cond_f rfl rfl ?_
        refine c_skip ?_
        refine c_seq ?_
        refine c_seq ?_
        refine c_region ?_
        refine t_q (q_mv (.slice _ _ _) rfl) ?_
        refine t_q (q_len_slice Tryd.runUnderlying22 rfl) ?_
        refine t_q (q_move) ?_
        refine t_nil ?_
        refine c_block ?_
        refine c_loop [6, 12, 95, 96, 97, 98, 99, 100, 101, 102, 103, 104, 105, 106, 107, 108, 109, 110, 111] (fun k σ w => ∃ j : Nat, σ 95 = .int .i64 (j : Int) ∧ j ≤ (l.take 100).length ∧ (l.take 100).length - j ≤ k ∧ St W w [rowA 3 1 A39 (layF (chF inner code (l.take 100))).length c39 ((layF (chF inner code (l.take 100))).map (Value.int .i64)), rdsA ps]) ((l.take 100).length) rfl (⟨0, rfl, by omega, by omega, ((hS.pick (A := rdsA ps) (by repeat first | exact .here _ _ | assumption | apply Pick.there)).pick (A := rowA 3 1 A39 (layF (chF inner code (l.take 100))).length c39 ((layF (chF inner code (l.take 100))).map (Value.int .i64))) (by repeat first | exact .here _ _ | assumption | apply Pick.there)).front2⟩) ?_
        skip
        rintro k σ w ⟨j, h95, hj, hk, hS⟩
        refine c_know 95 h95 ?_
        clear h95
        refine c_seq ?_
        refine c_region ?_
        refine t_q (q_lss rfl rfl) ?_
        refine t_nil ?_
        refine c_seq ?_
        refine c_cond rfl ?_ ?_
        · intro hc27
          have hc27d := of_decide_eq_true hc27
          refine c_skip ?_
          refine c_seq ?_
          refine c_block ?_
          refine c_seq ?_
          refine c_region ?_
          refine t_q (q_mv (.int _ _) rfl) ?_
          refine t_q (q_as (.int _ _) rfl) ?_
          refine t_nil ?_
          refine c_seq ?_
          refine c_draw ?_
          refine d_quiet 13 [0, 1, 2, 3, 4, 5, 6, 7, 8, 9, 10, 11, 12] [0, 1, 2, 3, 4, 5, 6, 7, 8, 9, 10, 11, 12] hS rfl (by kernel_rfl) (by kernel_rfl) (by kernel_rfl) (by kernel_rfl) (fun hap hsel w hS => ?_)
          refine p_q hap hsel 0 rfl rfl hS (fun w hS => q_mv (.slice _ _ _) rfl) ?_
          refine p_q hap hsel 1 rfl rfl hS (fun w hS => q_mv (.int _ _) rfl) ?_
          refine p_index hap hsel 2 rfl rfl hS Tryd.runUnderlying22 Tryd.sizeOf3 (fun w hS => (hS.rowInts (ns := layF (chF inner code (l.take 100))) (A := A39) (c := c39) (by repeat first | exact .here _ _ | assumption | apply Pick.there) rfl)) rfl rfl (by rw [hlay, List.length_append, List.length_reverse, List.length_singleton]; omega) (fun ad28 hl28 hx28 => ?_)
          refine p_q hap hsel 3 rfl rfl hS (fun w hS => q_load1 Tryd.isAgg3 rfl ((hx28 w hS) 0 _ rfl)) ?_
          refine p_q hap hsel 4 rfl rfl hS (fun w hS => q_mv (.slice _ _ _) rfl) ?_
          refine p_q hap hsel 5 rfl rfl hS (fun w hS => q_mv (.slice _ _ _) rfl) ?_
          refine p_q hap hsel 6 rfl rfl hS (fun w hS => q_len_slice Tryd.runUnderlying22 rfl) ?_
          refine p_q hap hsel 7 rfl rfl hS (fun w hS => q_sub_i64 rfl rfl (by omega)) ?_
          refine p_q hap hsel 8 rfl rfl hS (fun w hS => q_mv (.int _ _) rfl) ?_
          refine p_q hap hsel 9 rfl rfl hS (fun w hS => (q_cast (v' := .int .i64 (((l.take 100).length - 1 - j : Nat) : Int)) (q_sub_i64 rfl rfl (by omega)) (congrArg (Value.int .i64) (by omega)))) ?_
          refine p_index hap hsel 10 rfl rfl hS Tryd.runUnderlying22 Tryd.sizeOf3 (fun w hS => RdL.take (Rd.st hl hS) 100) rfl rfl (by omega) (fun ad29 hl29 hx29 => ?_)
          refine p_q hap hsel 11 rfl rfl hS (fun w hS => q_load1 Tryd.isAgg3 rfl ((hx29 w hS) 0 _ rfl)) ?_
          refine p_q hap hsel 12 rfl rfl hS (fun w hS => (q_cast (v' := .bool false) (q_neq rfl rfl) (congrArg Value.bool (decide_eq_false (not_not_intro (by show (layF (chF inner code (l.take 100))).getD j 0 = (l.take 100).getD _ 0; rw [hlay]; exact rev_at (by omega))))))) ?_
          refine p_end (by kernel_rfl) ?_
          refine c_cond_f rfl rfl ?_
          refine c_skip ?_
          refine c_region ?_
          refine t_q (q_add_i64 rfl rfl (by omega)) ?_
          refine t_q (q_mv (.int _ _) rfl) ?_
          refine t_nil ?_
          exact ⟨k - 1, by omega, j + 1, rfl, by omega, by omega, ((hS.pick (A := rdsA ps) (by repeat first | exact .here _ _ | assumption | apply Pick.there)).pick (A := rowA 3 1 A39 (layF (chF inner code (l.take 100))).length c39 ((layF (chF inner code (l.take 100))).map (Value.int .i64))) (by repeat first | exact .here _ _ | assumption | apply Pick.there)).front2⟩
        · intro hc27
          have hc27d := of_decide_eq_false hc27
          refine c_exit ?_
          refine ite_t rfl ?_
          refine c_seq ?_
          refine c_region ?_
          refine t_call Tryd.call17 (lives4_calls (hE.st hS)) rfl ?_
          rintro e w ⟨rfl, hT⟩
          refine ⟨_, rfl, ?_⟩
          replace hS := hS.after hT
          refine t_q (q_as (.bool _) rfl) ?_
          refine t_nil ?_
          refine c_ret ?_
          refine r_one rfl rfl ?_
          exact ⟨rfl, hS.nil⟩
end Go.Proofs.YtcgagmojgjbfpaaDoor
