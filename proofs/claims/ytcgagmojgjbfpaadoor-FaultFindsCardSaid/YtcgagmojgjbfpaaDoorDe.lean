/- errors.Is, Has; new faults and wrapped ones as chains. -/
import Derived.Test.YtcgagmojgjbfpaaDoorDd
namespace Go.Proofs.YtcgagmojgjbfpaaDoor
open Go Go.RowKit Go.Lib Go.Extern
variable {W : World}
def chF (i c : Int) (l : List Int) : List (Int × Int) := if c = 0 then [] else (l.reverse.map fun n => (n, (0 : Int))) ++ [(i, c)]
theorem chF_new (i c : Int) : newE i c = chF i c [] := by
  unfold newE chF
  rfl
theorem chF_wrap (i c n : Int) (l : List Int) : wrE n (chF i c l) = chF i c (l ++ [n]) := by
  unfold wrE chF
  by_cases h : c = 0
  · rw [if_pos h, if_pos rfl, if_pos h]
  · rw [if_neg h, if_neg (by simp), if_neg h, List.reverse_append]
    rfl
theorem chF_step {i c : Int} {l : List Int} {j : Nat} (h : j < l.length) : wrE (l.getD j 0) (chF i c (l.take j)) = chF i c (l.take (j + 1)) := by
  rw [chF_wrap, List.take_succ_eq_append_getElem h, List.getD_eq_getElem?_getD, List.getElem?_eq_getElem h]
  rfl
theorem chF_code (i c : Int) (l : List Int) : codeF (chF i c l) = c := by
  unfold chF codeF
  by_cases h : c = 0
  · rw [if_pos h]; exact h.symm
  · rw [if_neg h, List.length_append, List.length_map, List.length_reverse, List.length_singleton, List.getD_eq_getElem?_getD, List.getElem?_append_right (by simp), List.length_map, List.length_reverse, show l.length + 1 - 1 - l.length = 0 by omega]
    rfl
def RdL (w : World) (A : Option Addr) (l : List Int) : Prop := Rd w 1 A l.length (isf .i64 l)
theorem RdL.take {w : World} {A : Option Addr} {l : List Int} (h : RdL w A l) (n : Nat) : RdL w A (l.take n) := fun hn => by
  rw [List.length_take] at hn
  obtain ⟨ad, hA, hlt, hc⟩ := h (by omega)
  refine ⟨ad, hA, hlt, fun i hi => ?_⟩
  rw [List.length_take] at hi
  have e : isf .i64 (l.take n) i = isf .i64 l i := by
    unfold isf
    rw [List.getD_eq_getElem?_getD, List.getElem?_take, if_pos (by omega), ← List.getD_eq_getElem?_getD]
  rw [e]
  exact hc i (by omega)
theorem cut_zero {A : Option Addr} {c : Nat} : (if c = 0 then A else A.map (·.add (0 * 1))) = A := by
  split
  · rfl
  · cases A <;> simp [Addr.add]
attribute [local irreducible] blkA rowA rdsA fltsA
theorem bnewE_calls {w : World} {R : List Asn} {ls : List (Nat × List Value)} (hS : St W w (fltsA ls :: R)) {l c : Int} : Calls Tryd.prog 11 #[.int .i64 l, .int .i64 c] w fun e w' => ∃ v ls', e = .returned v ∧ ErrB ls' v (newE l c) ∧ (∀ p ∈ ls, p ∈ ls') ∧ St W w' (fltsA ls' :: R) := by
  unfold newE
  by_cases h : c = 0
  · subst h
    exact (bnew_0 hS).mono fun e w' ⟨h1, h2⟩ => ⟨_, ls, h1, by rw [if_pos rfl]; rfl, fun _ h => h, h2⟩
  · exact (bnew_calls hS h).mono fun e w' ⟨g, h1, h2⟩ => ⟨_, (g, fcs l c .nilIface) :: ls, h1, by rw [if_neg h]; exact ⟨g, .nilIface, rfl, List.mem_cons_self, rfl⟩, fun _ h => List.mem_cons_of_mem _ h, h2.flts_add⟩
theorem bwrapE_calls {w : World} {R : List Asn} {ls : List (Nat × List Value)} (hS : St W w (fltsA ls :: R)) {l : Int} {v : Value} {F : List (Int × Int)} (hv : ErrB ls v F) : Calls Tryd.prog 13 #[.int .i64 l, v] w fun e w' => ∃ v ls', e = .returned v ∧ ErrB ls' v (wrE l F) ∧ (∀ p ∈ ls, p ∈ ls') ∧ St W w' (fltsA ls' :: R) := by
  cases F with
  | nil =>
    obtain rfl : v = .nilIface := hv
    exact (bwrap_nil hS).mono fun e w' h => ⟨.nilIface, ls, h.1, rfl, fun _ h => h, h.2⟩
  | cons a F' =>
    obtain ⟨l1, c1⟩ := a
    obtain ⟨g, u, rfl, hm, hu⟩ := hv
    refine (bwrap_if hS).mono fun e w' h => ?_
    obtain ⟨g1, h1, h2⟩ := h
    refine ⟨_, _, h1, ?_, fun _ h => List.mem_cons_of_mem _ h, h2.flts_add⟩
    show ErrB _ _ (if (l1, c1) :: F' = [] then [] else (l, 0) :: (l1, c1) :: F')
    rw [if_neg (by simp)]
    exact ⟨g1, _, rfl, List.mem_cons_self, ⟨g, u, rfl, List.mem_cons_of_mem _ hm, hu.mono fun _ h => List.mem_cons_of_mem _ h⟩⟩
set_option maxRecDepth 100000 in
theorem Is_nil {w : World} {L : List Asn} (hS : St W w L) {gx : Nat} : Calls Tryd.prog 43 #[.nilIface, .iface 35 (.pointer (some ⟨gx, 0, none⟩))] w fun e w' => e = .returned (.bool false) ∧ St W w' L := by
  refine calls_of_wpE (args := [_, _]) Tryd.func43 rfl rfl rfl ?_
  refine c_seq ?_
  refine c_region ?_
  refine t_q (q_assign) ?_
  refine t_nil ?_
  refine c_seq ?_
  refine c_seq ?_
  refine c_region ?_
  refine t_q (q_mv .nilIface rfl) ?_
  refine t_q (q_cast (v' := .bool true) (q_eql_iface_nil Tryd.runUnderlying24 rfl (.inl rfl)) (by rfl)) ?_
  refine t_q (q_mv (.bool _) rfl) ?_
  refine t_no rfl rfl (by decide) ?_
  refine t_no rfl rfl (by decide) ?_
  refine t_q (q_pick_t rfl rfl) ?_
  refine t_nil ?_
  refine c_cond_t rfl rfl ?_
  refine c_seq ?_
  refine c_region ?_
  refine t_q (q_mv .nilIface rfl) ?_
  refine t_q (q_mv (.iface _ _) rfl) ?_
  refine t_q (q_eql_if_nil_left Tryd.runUnderlying24 rfl rfl) ?_
  refine t_q (q_as (.bool _) rfl) ?_
  refine t_nil ?_
  refine c_ret ?_
  refine r_one rfl rfl ?_
  exact ⟨rfl, hS⟩
set_option maxHeartbeats 1000000 in
set_option maxRecDepth 100000 in
theorem Is_if {w : World} {R : List Asn} {ls : List (Nat × List Value)} {gx : Nat} {cx : Int} {F : List (Int × Int)} {t : Nat} {y : Value} (hS : St W w (blkA gx 76 (fcs 0 cx .nilIface) :: fltsA ls :: R)) (hv : ErrB ls (.iface t y) F) (hF : F ≠ []) : Calls Tryd.prog 43 #[.iface t y, .iface 35 (.pointer (some ⟨gx, 0, none⟩))] w fun e w' => e = .returned (.bool (decide (codeF F = cx))) ∧ St W w' (blkA gx 76 (fcs 0 cx .nilIface) :: fltsA ls :: R) := by
  refine calls_of_wpE (args := [_, _]) Tryd.func43 rfl rfl rfl ?_
  refine c_seq ?_
  refine c_region ?_
  refine t_q (q_assign) ?_
  refine t_nil ?_
  refine c_seq ?_
  refine c_seq ?_
  refine c_region ?_
  refine t_q (q_mv (.iface _ _) rfl) ?_
  refine t_q (q_cast (v' := .bool false) (q_eql_iface_nil Tryd.runUnderlying24 rfl (.inr ⟨_, _, rfl⟩)) (by rfl)) ?_
  refine t_q (q_mv (.bool _) rfl) ?_
  refine t_yes rfl rfl rfl ?_
  refine t_q (q_mv (.iface _ _) rfl) ?_
  refine t_yes rfl rfl rfl ?_
  refine t_q (q_cast (v' := .bool false) (q_eql_iface_nil Tryd.runUnderlying24 rfl (.inr ⟨_, _, rfl⟩)) (by rfl)) ?_
  refine t_q (q_pick_f rfl rfl) ?_
  refine t_nil ?_
  refine c_cond_f rfl rfl ?_
  refine c_skip ?_
  refine c_seq ?_
  refine c_region ?_
  refine t_q (q_mv (.iface _ _) rfl) ?_
  refine t_extern rfl (is_typeOf _ _) ?_
  refine t_invoke_extern rfl (is_method _ _) (is_comp _) ?_
  refine t_q (q_as (.bool _) rfl) ?_
  refine t_nil ?_
  refine c_seq ?_
  refine c_region ?_
  refine t_q (q_mv (.iface _ _) rfl) ?_
  refine t_q (q_mv (.iface _ _) rfl) ?_
  refine t_q (q_mv (.bool _) rfl) ?_
  refine t_call Tryd.call78 (is_calls (cx := cx) hS hv hF) rfl ?_
  rintro e w ⟨rfl, hS⟩
  refine ⟨_, rfl, ?_⟩
  refine t_q (q_as (.bool _) rfl) ?_
  refine t_nil ?_
  refine c_ret ?_
  refine r_one rfl rfl ?_
  exact ⟨rfl, hS⟩
theorem Is_calls {w : World} {R : List Asn} {ls : List (Nat × List Value)} {gx : Nat} {cx : Int} {F : List (Int × Int)} {v : Value} (hS : St W w (blkA gx 76 (fcs 0 cx .nilIface) :: fltsA ls :: R)) (hv : ErrB ls v F) (hc : cx ≠ 0) : Calls Tryd.prog 43 #[v, .iface 35 (.pointer (some ⟨gx, 0, none⟩))] w fun e w' => e = .returned (.bool (decide (codeF F = cx))) ∧ St W w' (blkA gx 76 (fcs 0 cx .nilIface) :: fltsA ls :: R) := by
  cases F with
  | nil =>
    obtain rfl : v = .nilIface := hv
    refine (Is_nil hS).mono fun e w' h => ⟨h.1.trans ?_, h.2⟩
    rw [decide_eq_false (show ¬ codeF [] = cx from fun h => hc h.symm)]
  | cons a F' =>
    have hv2 := hv
    obtain ⟨l1, c1⟩ := a
    obtain ⟨g, u, rfl, hm, hu⟩ := hv
    exact Is_if hS hv2 (by simp)
set_option maxHeartbeats 1000000 in
set_option maxRecDepth 100000 in
theorem has_calls {w : World} {R : List Asn} {ls : List (Nat × List Value)} (hS : St W w (fltsA ls :: R)) {v : Value} {F : List (Int × Int)} {c : Int} (hv : ErrB ls v F) : Calls Tryd.prog 18 #[v, .int .i64 c] w fun e w' => e = .returned (.bool (decide (c ≠ 0 ∧ codeF F = c))) ∧ St W w' (fltsA ls :: R) := by
  refine calls_of_wpE (args := [_, _]) Tryd.func18 rfl rfl rfl ?_
  refine c_seq ?_
  refine c_region ?_
  refine t_q (q_assign) ?_
  refine t_nil ?_
  refine c_seq ?_
  refine c_region ?_
  refine t_q (q_mv (.int _ _) rfl) ?_
  refine t_q (q_neq rfl rfl) ?_
  refine t_q (q_mv (.bool _) rfl) ?_
  refine t_case 7 rfl ?_ ?_
  · intro hg2
    have hg2d := of_decide_eq_true hg2
    refine t_yes rfl rfl hg2 ?_
    refine t_q (q_mv v rfl) ?_
    refine t_yes rfl rfl hg2 ?_
    refine t_q (q_mv (.int _ _) rfl) ?_
    refine t_yes rfl rfl hg2 ?_
    refine t_call Tryd.call11 (bnew_calls (l := 0) (c := c) hS (by omega)) rfl ?_
    rintro e w ⟨gx, rfl, hS⟩
    refine ⟨_, rfl, ?_⟩
    refine t_yes rfl rfl hg2 ?_
    refine t_call Tryd.call43 (Is_calls (cx := c) hS hv (by omega)) rfl ?_
    rintro e w ⟨rfl, hS⟩
    refine ⟨_, rfl, ?_⟩
    replace hS := hS.drop
    refine t_q (q_pick_t rfl hg2) ?_
    refine t_q (q_as (.bool _) rfl) ?_
    refine t_nil ?_
    refine c_ret ?_
    refine r_one rfl rfl ?_
    refine ⟨congrArg (fun b => Ending.returned (.bool b)) ?_, hS⟩
    first
      | (rw [decide_eq_decide]; omega)
      | (symm; apply decide_eq_false; omega)
  · intro hg2
    have hg2d := of_decide_eq_false hg2
    refine t_no rfl rfl (by rw [hg2]; decide) ?_
    refine t_no rfl rfl (by rw [hg2]; decide) ?_
    refine t_no rfl rfl (by rw [hg2]; decide) ?_
    refine t_no rfl rfl (by rw [hg2]; decide) ?_
    refine t_q (q_pick_f rfl hg2) ?_
    refine t_q (q_as (.bool _) rfl) ?_
    refine t_nil ?_
    refine c_ret ?_
    refine r_one rfl rfl ?_
    refine ⟨congrArg (fun b => Ending.returned (.bool b)) ?_, hS⟩
    first
      | (rw [decide_eq_decide]; omega)
      | (symm; apply decide_eq_false; omega)
set_option maxHeartbeats 2000000 in
set_option maxRecDepth 100000 in
theorem FaultFinds_calls {code other : Int} {A : Option Addr} {l : List Int} {c : Nat} (hl : RdL W A l) (hlc : l.length ≤ c ∧ c ≤ 9223372036854775807) (hE : EtOk W) : Calls Tryd.prog 4 #[.int .i64 code, .int .i64 other, .slice A l.length c] W fun e w' => e = .returned (.bool true) ∧ St W w' [] := by
  have hS := (St.init W).flts0
  refine calls_of_wpE (args := [_, _, _]) Tryd.func4 rfl rfl rfl ?_
  refine c_seq ?_
  refine c_region ?_
  refine t_q (q_assign) ?_
  refine t_nil ?_
  refine c_cut [2, 10, 11, 12, 13, 14] (fun σ w => σ 2 = .slice A (l.take 100).length c ∧ St W w [fltsA []]) rfl ?_ ?_
  ·
    refine c_seq ?_
    refine c_region ?_
    refine t_q (q_mv (.slice _ _ _) rfl) ?_
    refine t_q (q_len_slice Tryd.runUnderlying22 rfl) ?_
    refine t_q (q_gtr rfl rfl) ?_
    refine t_nil ?_
    refine c_cond rfl ?_ ?_
    · intro hc2
      have hc2d := of_decide_eq_true hc2
      refine c_region ?_
      refine t_q (q_mv (.slice _ _ _) rfl) ?_
      refine t_q (q_cast (v' := .slice A (l.take 100).length c) (q_slice Tryd.runUnderlying22 Tryd.sizeOf3 rfl ⟨_, _, rfl, by omega, by omega, rfl⟩ rfl) (by rw [cut_zero, List.length_take, Nat.min_eq_left (by omega)]; rfl)) ?_
      refine t_q (q_as (.slice _ _ _) rfl) ?_
      refine t_nil ?_
      first
        | exact ⟨rfl, hS⟩
        | exact ⟨congrArg (fun n => Value.slice A n c) (show l.length = (l.take 100).length from by rw [List.length_take]; omega), hS⟩
    · intro hc2
      have hc2d := of_decide_eq_false hc2
      refine c_skip ?_
      first
        | exact ⟨rfl, hS⟩
        | exact ⟨congrArg (fun n => Value.slice A n c) (show l.length = (l.take 100).length from by rw [List.length_take]; omega), hS⟩
  ·
    rintro σ w ⟨h2, hS⟩
    have hll : (l.take 100).length ≤ 100 := by rw [List.length_take]; omega
    refine c_know 2 h2 ?_
    refine c_seq ?_
    refine c_region ?_
    refine t_q (q_mv (.int _ _) rfl) ?_
    refine t_call Tryd.call11 (bnewE_calls (l := 1) (c := code) hS) rfl ?_
    rintro e w ⟨v0, ls0, rfl, hv0, _, hS⟩
    refine ⟨_, rfl, ?_⟩
    rw [chF_new] at hv0
    refine t_q (q_as v0 rfl) ?_
    refine t_nil ?_
    refine c_seq ?_
    refine c_seq ?_
    refine c_region ?_
    refine t_q (q_mv (.slice _ _ _) rfl) ?_
    refine t_q (q_len_slice Tryd.runUnderlying22 rfl) ?_
    refine t_q (q_move) ?_
    refine t_nil ?_
    refine c_block ?_
    refine c_loop [7, 9, 19, 20, 21, 22, 23, 24, 25, 26] (fun k σ w => ∃ (j : Nat) (v : Value) (ls : List (Nat × List Value)), σ 19 = .int .i64 (j : Int) ∧ σ 7 = v ∧ j ≤ (l.take 100).length ∧ (l.take 100).length - j ≤ k ∧ ErrB ls v (chF 1 code ((l.take 100).take j)) ∧ St W w [fltsA ls]) ((l.take 100).length) rfl (⟨0, v0, ls0, rfl, rfl, by omega, by omega, hv0, hS⟩) ?_
    skip
    rintro k σ w ⟨j, v, ls, h19, h7, hj, hk, hv, hS⟩
    refine c_know 19 h19 ?_
    refine c_know 7 h7 ?_
    clear h19 h7
    refine c_seq ?_
    refine c_region ?_
    refine t_q (q_lss rfl rfl) ?_
    refine t_nil ?_
    refine c_seq ?_
    refine c_cond rfl ?_ ?_
    · intro hc5
      have hc5d := of_decide_eq_true hc5
      refine c_skip ?_
      refine c_seq ?_
      refine c_block ?_
      refine c_seq ?_
      refine c_region ?_
      first | refine t_index_nat Tryd.runUnderlying22 Tryd.sizeOf3 (RdL.take (Rd.st hl hS) 100) rfl rfl (by omega) (fun ad6 hl6 hx6 => ?_) | refine t_index Tryd.runUnderlying22 Tryd.sizeOf3 (RdL.take (Rd.st hl hS) 100) rfl rfl (by omega) (fun ad6 hl6 hx6 => ?_)
      refine t_q (q_load1 Tryd.isAgg3 rfl (hx6 0 _ rfl)) ?_
      skip
      refine t_q (q_as (.int _ _) rfl) ?_
      refine t_nil ?_
      refine c_region ?_
      refine t_q (q_mv (.int _ _) rfl) ?_
      refine t_q (q_mv v rfl) ?_
      refine t_call Tryd.call13 (bwrapE_calls (l := ((l.take 100).getD j 0)) hS hv) rfl ?_
      rintro e w ⟨v1, ls1, rfl, hv1, _, hS⟩
      refine ⟨_, rfl, ?_⟩
      rw [chF_step (by omega)] at hv1
      refine t_q (q_as v1 rfl) ?_
      refine t_nil ?_
      refine c_region ?_
      refine t_q (q_add_i64 rfl rfl (by omega)) ?_
      refine t_q (q_mv (.int _ _) rfl) ?_
      refine t_nil ?_
      exact ⟨k - 1, by omega, j + 1, v1, ls1, rfl, rfl, by omega, by omega, hv1, hS⟩
    · intro hc5
      have hc5d := of_decide_eq_false hc5
      refine c_exit ?_
      refine ite_t rfl ?_
      refine c_seq ?_
      refine c_region ?_
      refine t_q (q_mv v rfl) ?_
      refine t_q (q_mv (.int _ _) rfl) ?_
      refine t_call Tryd.call18 (has_calls (c := other) hS hv) rfl ?_
      rintro e w ⟨rfl, hS⟩
      refine ⟨_, rfl, ?_⟩
      refine t_q (q_mv (.int _ _) rfl) ?_
      refine t_q (q_mv (.int _ _) rfl) ?_
      refine t_q (q_eql rfl rfl) ?_
      refine t_q (q_mv (.bool _) rfl) ?_
      refine t_case 33 rfl ?_ ?_
      · intro hg10
        have hg10d := of_decide_eq_true hg10
        refine t_yes rfl rfl hg10 ?_
        refine t_q (q_mv (.int _ _) rfl) ?_
        refine t_yes rfl rfl hg10 ?_
        refine t_q (q_neq rfl rfl) ?_
        refine t_q (q_pick_t rfl hg10) ?_
        refine t_q (q_cast (v' := .bool true) (q_eql_bool Tryd.runUnderlying4 rfl rfl) (congrArg Value.bool (decide_eq_true (by rw [chF_code]; first | (rw [decide_eq_decide]; omega) | exact decide_eq_false (by omega))))) ?_
        refine t_q (q_mv (.bool _) rfl) ?_
        refine t_yes rfl rfl rfl ?_
        refine t_call Tryd.call17 (lives4_calls (hE.st hS)) rfl ?_
        rintro e w ⟨rfl, hT⟩
        refine ⟨_, rfl, ?_⟩
        replace hS := hS.after hT
        refine t_q (q_pick_t rfl rfl) ?_
        refine t_q (q_as (.bool _) rfl) ?_
        refine t_nil ?_
        refine c_ret ?_
        refine r_one rfl rfl ?_
        exact ⟨rfl, hS.nil⟩
      · intro hg10
        have hg10d := of_decide_eq_false hg10
        refine t_no rfl rfl (by rw [hg10]; decide) ?_
        refine t_no rfl rfl (by rw [hg10]; decide) ?_
        refine t_q (q_pick_f rfl hg10) ?_
        refine t_q (q_cast (v' := .bool true) (q_eql_bool Tryd.runUnderlying4 rfl rfl) (congrArg Value.bool (decide_eq_true (by rw [chF_code]; first | (rw [decide_eq_decide]; omega) | exact decide_eq_false (by omega))))) ?_
        refine t_q (q_mv (.bool _) rfl) ?_
        refine t_yes rfl rfl rfl ?_
        refine t_call Tryd.call17 (lives4_calls (hE.st hS)) rfl ?_
        rintro e w ⟨rfl, hT⟩
        refine ⟨_, rfl, ?_⟩
        replace hS := hS.after hT
        refine t_q (q_pick_t rfl rfl) ?_
        refine t_q (q_as (.bool _) rfl) ?_
        refine t_nil ?_
        refine c_ret ?_
        refine r_one rfl rfl ?_
        exact ⟨rfl, hS.nil⟩
end Go.Proofs.YtcgagmojgjbfpaaDoor
