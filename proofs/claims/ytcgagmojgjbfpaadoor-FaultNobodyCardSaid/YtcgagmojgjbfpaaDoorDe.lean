/- errors.Is, Has; new faults and wrapped ones as chains. -/
import Derived.Test.YtcgagmojgjbfpaaDoorDd
namespace Go.Proofs.YtcgagmojgjbfpaaDoor
open Go Go.RowKit Go.Lib Go.Extern
variable {W : World}
def RdL (w : World) (A : Option Addr) (l : List Int) : Prop := Rd w 1 A l.length (isf .i64 l)
theorem RdL.take {w : World} {A : Option Addr} {l : List Int} (h : RdL w A l) (n : Nat) : RdL w A (l.take n) := fun hn => by
  rw [List.length_take] at hn
  obtain ⟨ad, hA, hlt, hc⟩ := h (by omega)
  refine ⟨ad, hA, hlt, fun i hi => ?_⟩
  rw [List.length_take] at hi
  have e : isf .i64 (l.take n) i = isf .i64 l i := by
    unfold isf
    rw [List.getD_eq_getElem?_getD, List.getElem?_take, if_pos (by omega), ← List.getD_eq_getElem?_getD]
  rw [e]
  exact hc i (by omega)
attribute [local irreducible] blkA rowA rdsA fltsA
set_option maxRecDepth 100000 in
theorem Is_nil {w : World} {L : List Asn} (hS : St W w L) {gx : Nat} : Calls Tryd.prog 43 #[.nilIface, .iface 35 (.pointer (some ⟨gx, 0, none⟩))] w fun e w' => e = .returned (.bool false) ∧ St W w' L := by
  refine calls_of_wpE (args := [_, _]) Tryd.func43 rfl rfl rfl ?_
  refine c_seq ?_
  refine c_region ?_
  refine t_q (q_assign) ?_
  refine t_nil ?_
  refine c_seq ?_
  refine c_seq ?_
  refine c_region ?_
  refine t_q (q_mv .nilIface rfl) ?_
  refine t_q (q_cast (v' := .bool true) (q_eql_iface_nil Tryd.runUnderlying24 rfl (.inl rfl)) (by rfl)) ?_
  refine t_q (q_mv (.bool _) rfl) ?_
  refine t_no rfl rfl (by decide) ?_
  refine t_no rfl rfl (by decide) ?_
  refine t_q (q_pick_t rfl rfl) ?_
  refine t_nil ?_
  refine c_cond_t rfl rfl ?_
  refine c_seq ?_
  refine c_region ?_
  refine t_q (q_mv .nilIface rfl) ?_
  refine t_q (q_mv (.iface _ _) rfl) ?_
  refine t_q (q_eql_if_nil_left Tryd.runUnderlying24 rfl rfl) ?_
  refine t_q (q_as (.bool _) rfl) ?_
  refine t_nil ?_
  refine c_ret ?_
  refine r_one rfl rfl ?_
  exact ⟨rfl, hS⟩
set_option maxHeartbeats 1000000 in
set_option maxRecDepth 100000 in
theorem Is_if {w : World} {R : List Asn} {ls : List (Nat × List Value)} {gx : Nat} {cx : Int} {F : List (Int × Int)} {t : Nat} {y : Value} (hS : St W w (blkA gx 76 (fcs 0 cx .nilIface) :: fltsA ls :: R)) (hv : ErrB ls (.iface t y) F) (hF : F ≠ []) : Calls Tryd.prog 43 #[.iface t y, .iface 35 (.pointer (some ⟨gx, 0, none⟩))] w fun e w' => e = .returned (.bool (decide (codeF F = cx))) ∧ St W w' (blkA gx 76 (fcs 0 cx .nilIface) :: fltsA ls :: R) := by
  refine calls_of_wpE (args := [_, _]) Tryd.func43 rfl rfl rfl ?_
  refine c_seq ?_
  refine c_region ?_
  refine t_q (q_assign) ?_
  refine t_nil ?_
  refine c_seq ?_
  refine c_seq ?_
  refine c_region ?_
  refine t_q (q_mv (.iface _ _) rfl) ?_
  refine t_q (q_cast (v' := .bool false) (q_eql_iface_nil Tryd.runUnderlying24 rfl (.inr ⟨_, _, rfl⟩)) (by rfl)) ?_
  refine t_q (q_mv (.bool _) rfl) ?_
  refine t_yes rfl rfl rfl ?_
  refine t_q (q_mv (.iface _ _) rfl) ?_
  refine t_yes rfl rfl rfl ?_
  refine t_q (q_cast (v' := .bool false) (q_eql_iface_nil Tryd.runUnderlying24 rfl (.inr ⟨_, _, rfl⟩)) (by rfl)) ?_
  refine t_q (q_pick_f rfl rfl) ?_
  refine t_nil ?_
  refine c_cond_f rfl rfl ?_
  refine c_skip ?_
  refine c_seq ?_
  refine c_region ?_
  refine t_q (q_mv (.iface _ _) rfl) ?_
  refine t_extern rfl (is_typeOf _ _) ?_
  refine t_invoke_extern rfl (is_method _ _) (is_comp _) ?_
  refine t_q (q_as (.bool _) rfl) ?_
  refine t_nil ?_
  refine c_seq ?_
  refine c_region ?_
  refine t_q (q_mv (.iface _ _) rfl) ?_
  refine t_q (q_mv (.iface _ _) rfl) ?_
  refine t_q (q_mv (.bool _) rfl) ?_
  refine t_call Tryd.call78 (is_calls (cx := cx) hS hv hF) rfl ?_
  rintro e w ⟨rfl, hS⟩
  refine ⟨_, rfl, ?_⟩
  refine t_q (q_as (.bool _) rfl) ?_
  refine t_nil ?_
  refine c_ret ?_
  refine r_one rfl rfl ?_
  exact ⟨rfl, hS⟩
theorem Is_calls {w : World} {R : List Asn} {ls : List (Nat × List Value)} {gx : Nat} {cx : Int} {F : List (Int × Int)} {v : Value} (hS : St W w (blkA gx 76 (fcs 0 cx .nilIface) :: fltsA ls :: R)) (hv : ErrB ls v F) (hc : cx ≠ 0) : Calls Tryd.prog 43 #[v, .iface 35 (.pointer (some ⟨gx, 0, none⟩))] w fun e w' => e = .returned (.bool (decide (codeF F = cx))) ∧ St W w' (blkA gx 76 (fcs 0 cx .nilIface) :: fltsA ls :: R) := by
  cases F with
  | nil =>
    obtain rfl : v = .nilIface := hv
    refine (Is_nil hS).mono fun e w' h => ⟨h.1.trans ?_, h.2⟩
    rw [decide_eq_false (show ¬ codeF [] = cx from fun h => hc h.symm)]
  | cons a F' =>
    have hv2 := hv
    obtain ⟨l1, c1⟩ := a
    obtain ⟨g, u, rfl, hm, hu⟩ := hv
    exact Is_if hS hv2 (by simp)
set_option maxHeartbeats 1000000 in
set_option maxRecDepth 100000 in
theorem has_calls {w : World} {R : List Asn} {ls : List (Nat × List Value)} (hS : St W w (fltsA ls :: R)) {v : Value} {F : List (Int × Int)} {c : Int} (hv : ErrB ls v F) : Calls Tryd.prog 18 #[v, .int .i64 c] w fun e w' => e = .returned (.bool (decide (c ≠ 0 ∧ codeF F = c))) ∧ St W w' (fltsA ls :: R) := by
  refine calls_of_wpE (args := [_, _]) Tryd.func18 rfl rfl rfl ?_
  refine c_seq ?_
  refine c_region ?_
  refine t_q (q_assign) ?_
  refine t_nil ?_
  refine c_seq ?_
  refine c_region ?_
  refine t_q (q_mv (.int _ _) rfl) ?_
  refine t_q (q_neq rfl rfl) ?_
  refine t_q (q_mv (.bool _) rfl) ?_
  refine t_case 7 rfl ?_ ?_
  · intro hg2
    have hg2d := of_decide_eq_true hg2
    refine t_yes rfl rfl hg2 ?_
    refine t_q (q_mv v rfl) ?_
    refine t_yes rfl rfl hg2 ?_
    refine t_q (q_mv (.int _ _) rfl) ?_
    refine t_yes rfl rfl hg2 ?_
    refine t_call Tryd.call11 (bnew_calls (l := 0) (c := c) hS (by omega)) rfl ?_
    rintro e w ⟨gx, rfl, hS⟩
    refine ⟨_, rfl, ?_⟩
    refine t_yes rfl rfl hg2 ?_
    refine t_call Tryd.call43 (Is_calls (cx := c) hS hv (by omega)) rfl ?_
    rintro e w ⟨rfl, hS⟩
    refine ⟨_, rfl, ?_⟩
    replace hS := hS.drop
    refine t_q (q_pick_t rfl hg2) ?_
    refine t_q (q_as (.bool _) rfl) ?_
    refine t_nil ?_
    refine c_ret ?_
    refine r_one rfl rfl ?_
    refine ⟨congrArg (fun b => Ending.returned (.bool b)) ?_, hS⟩
    first
      | (rw [decide_eq_decide]; omega)
      | (symm; apply decide_eq_false; omega)
  · intro hg2
    have hg2d := of_decide_eq_false hg2
    refine t_no rfl rfl (by rw [hg2]; decide) ?_
    refine t_no rfl rfl (by rw [hg2]; decide) ?_
    refine t_no rfl rfl (by rw [hg2]; decide) ?_
    refine t_no rfl rfl (by rw [hg2]; decide) ?_
    refine t_q (q_pick_f rfl hg2) ?_
    refine t_q (q_as (.bool _) rfl) ?_
    refine t_nil ?_
    refine c_ret ?_
    refine r_one rfl rfl ?_
    refine ⟨congrArg (fun b => Ending.returned (.bool b)) ?_, hS⟩
    first
      | (rw [decide_eq_decide]; omega)
      | (symm; apply decide_eq_false; omega)
set_option maxRecDepth 100000 in
theorem ferror_nil {w : World} {L : List Asn} (hS : St W w L) : Calls Tryd.prog 19 #[.pointer none] w fun e w' => e = .returned (.string ⟨([] : List UInt8).toArray⟩) ∧ St W w' L := by
  refine calls_of_wpE (args := [_]) Tryd.func19 rfl rfl rfl ?_
  refine c_seq ?_
  refine c_region ?_
  refine t_q (q_assign) ?_
  refine t_nil ?_
  refine c_seq ?_
  refine c_seq ?_
  refine c_region ?_
  refine t_q (q_mv (.pointer _) rfl) ?_
  refine t_q (q_eql_ptr_nil Tryd.runUnderlying35 rfl rfl) ?_
  refine t_nil ?_
  refine c_cond_t rfl rfl ?_
  refine c_seq ?_
  refine c_region ?_
  refine t_q (q_assign) ?_
  refine t_nil ?_
  refine c_ret ?_
  refine r_one rfl rfl ?_
  exact ⟨rfl, hS⟩
set_option maxRecDepth 100000 in
theorem funwrap_nil {w : World} {L : List Asn} (hS : St W w L) : Calls Tryd.prog 20 #[.pointer none] w fun e w' => e = .returned .nilIface ∧ St W w' L := by
  refine calls_of_wpE (args := [_]) Tryd.func20 rfl rfl rfl ?_
  refine c_seq ?_
  refine c_region ?_
  refine t_q (q_assign) ?_
  refine t_nil ?_
  refine c_seq ?_
  refine c_seq ?_
  refine c_region ?_
  refine t_q (q_mv (.pointer _) rfl) ?_
  refine t_q (q_eql_ptr_nil Tryd.runUnderlying35 rfl rfl) ?_
  refine t_nil ?_
  refine c_cond_t rfl rfl ?_
  refine c_seq ?_
  refine c_region ?_
  refine t_q (q_assign) ?_
  refine t_nil ?_
  refine c_ret ?_
  refine r_one rfl rfl ?_
  exact ⟨rfl, hS⟩
set_option maxHeartbeats 1000000 in
set_option maxRecDepth 100000 in
theorem FaultNobody_calls {n : Int} (hE : EtOk W) : Calls Tryd.prog 5 #[.int .i64 n] W fun e w' => e = .returned (.bool true) ∧ St W w' [] := by
  have hS := (St.init W).flts0
  refine calls_of_wpE (args := [_]) Tryd.func5 rfl rfl rfl ?_
  refine c_seq ?_
  refine c_region ?_
  refine t_q (q_assign) ?_
  refine t_nil ?_
  refine c_seq ?_
  refine c_region ?_
  refine t_q (q_assign) ?_
  refine t_nil ?_
  refine c_seq ?_
  refine c_region ?_
  refine t_q (q_mv (.pointer _) rfl) ?_
  refine t_call Tryd.call19 (ferror_nil hS) rfl ?_
  rintro e w ⟨rfl, hS⟩
  refine ⟨_, rfl, ?_⟩
  refine t_q (q_cast (v' := .bool true) (q_eql_lst (a := []) (b := []) rfl rfl) (by rfl)) ?_
  refine t_q (q_mv (.bool _) rfl) ?_
  refine t_yes rfl rfl rfl ?_
  refine t_q (q_mv (.pointer _) rfl) ?_
  refine t_yes rfl rfl rfl ?_
  refine t_call Tryd.call20 (funwrap_nil hS) rfl ?_
  rintro e w ⟨rfl, hS⟩
  refine ⟨_, rfl, ?_⟩
  refine t_yes rfl rfl rfl ?_
  refine t_q (q_cast (v' := .bool true) (q_eql_iface_nil Tryd.runUnderlying24 rfl (.inl rfl)) (by rfl)) ?_
  refine t_q (q_pick_t rfl rfl) ?_
  refine t_q (q_mv (.bool _) rfl) ?_
  refine t_yes rfl rfl rfl ?_
  refine t_q (q_mv (.int _ _) rfl) ?_
  refine t_yes rfl rfl rfl ?_
  refine t_call Tryd.call13 (bwrap_nil hS) rfl ?_
  rintro e w ⟨rfl, hS⟩
  refine ⟨_, rfl, ?_⟩
  refine t_yes rfl rfl rfl ?_
  refine t_q (q_cast (v' := .bool true) (q_eql_iface_nil Tryd.runUnderlying24 rfl (.inl rfl)) (by rfl)) ?_
  refine t_q (q_pick_t rfl rfl) ?_
  refine t_q (q_mv (.bool _) rfl) ?_
  refine t_yes rfl rfl rfl ?_
  refine t_q (q_mv (.int _ _) rfl) ?_
  refine t_yes rfl rfl rfl ?_
  refine t_call Tryd.call11 (bnew_0 hS) rfl ?_
  rintro e w ⟨rfl, hS⟩
  refine ⟨_, rfl, ?_⟩
  refine t_yes rfl rfl rfl ?_
  refine t_q (q_cast (v' := .bool true) (q_eql_iface_nil Tryd.runUnderlying24 rfl (.inl rfl)) (by rfl)) ?_
  refine t_q (q_pick_t rfl rfl) ?_
  refine t_q (q_mv (.bool _) rfl) ?_
  refine t_yes rfl rfl rfl ?_
  refine t_call Tryd.call18 (has_calls (v := .nilIface) (F := []) (c := 2) hS rfl) rfl ?_
  rintro e w ⟨rfl, hS⟩
  refine ⟨_, rfl, ?_⟩
  refine t_yes rfl rfl rfl ?_
  refine t_q (q_cast (v' := .bool true) (q_not rfl) (by rfl)) ?_
  refine t_q (q_pick_t rfl rfl) ?_
  refine t_q (q_mv (.bool _) rfl) ?_
  refine t_yes rfl rfl rfl ?_
  refine t_call Tryd.call17 (lives4_calls (hE.st hS)) rfl ?_
  rintro e w ⟨rfl, hT⟩
  refine ⟨_, rfl, ?_⟩
  replace hS := hS.after hT
  refine t_q (q_pick_t rfl rfl) ?_
  refine t_q (q_as (.bool _) rfl) ?_
  refine t_nil ?_
  refine c_ret ?_
  refine r_one rfl rfl ?_
  exact ⟨rfl, hS.nil⟩
end Go.Proofs.YtcgagmojgjbfpaaDoor
