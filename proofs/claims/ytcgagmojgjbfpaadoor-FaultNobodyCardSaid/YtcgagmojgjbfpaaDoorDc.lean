/- The chapter's example of faults. -/
import Derived.Test.YtcgagmojgjbfpaaDoorDb
namespace Go.Proofs.YtcgagmojgjbfpaaDoor
open Go Go.RowKit Go.Lib
variable {W : World}
theorem txt9 : txtF [(9, 0), (6, 0), (1, 10)] = [57, 62, 54, 62, 49, 32, 49, 48] := by
  unfold txtF
  rw [if_neg (by simp)]
  have h9 : decI 9 = [57] := by unfold decI; rw [if_neg (by decide), decN_lt (by decide)]; rfl
  have h6 : decI 6 = [54] := by unfold decI; rw [if_neg (by decide), decN_lt (by decide)]; rfl
  have h1 : decI 1 = [49] := by unfold decI; rw [if_neg (by decide), decN_lt (by decide)]; rfl
  have h10 : decI 10 = [49, 48] := by unfold decI; rw [if_neg (by decide), decN_ge (by decide), decN_lt (by decide)]; rfl
  rw [show layF [(9, 0), (6, 0), (1, 10)] = [9, 6, 1] from rfl, show codeF [(9, 0), (6, 0), (1, 10)] = 10 from rfl, txtL_cons, txtL_cons, h9, h6, h10, txtL_eq, h1]
  rfl
attribute [local irreducible] blkA rowA rdsA decI txtL txtF
set_option maxHeartbeats 2000000 in
set_option maxRecDepth 100000 in
theorem lives4_calls (hE : EtOk W) : Calls Tryd.prog 17 #[] W fun e w' => e = .returned (.bool true) ∧ St W w' [] := by
  have hS := (St.init W).rds0
  refine calls_of_wpE (args := []) Tryd.func17 rfl rfl rfl ?_
  refine c_seq ?_
  refine c_region ?_
  refine t_q (q_assign) ?_
  refine t_nil ?_
  refine c_seq ?_
  refine c_region ?_
  refine t_call Tryd.call11 (enew_calls (l := 1) (c := 10) (hS.pick (A := rdsA []) (by repeat first | exact .here _ _ | assumption | apply Pick.there))) rfl ?_
  rintro e w ⟨v1, ps1, rfl, hv1, hs1, hS⟩
  refine ⟨_, rfl, ?_⟩
  replace hv1 : ErrL ps1 v1 [(1, 10)] := hv1
  refine t_call Tryd.call13 (ewrap_calls (l := 6) (hS.pick (A := rdsA ps1) (by repeat first | exact .here _ _ | assumption | apply Pick.there)) hv1) rfl ?_
  rintro e w ⟨v2, ps2, rfl, hv2, hs2, hS⟩
  refine ⟨_, rfl, ?_⟩
  replace hv2 : ErrL ps2 v2 [(6, 0), (1, 10)] := hv2
  refine t_call Tryd.call13 (ewrap_calls (l := 9) (hS.pick (A := rdsA ps2) (by repeat first | exact .here _ _ | assumption | apply Pick.there)) hv2) rfl ?_
  rintro e w ⟨v3, ps3, rfl, hv3, hs3, hS⟩
  refine ⟨_, rfl, ?_⟩
  replace hv3 : ErrL ps3 v3 [(9, 0), (6, 0), (1, 10)] := hv3
  refine t_q (q_as v3 rfl) ?_
  refine t_nil ?_
  refine c_seq ?_
  refine c_region ?_
  refine t_q (q_mv v3 rfl) ?_
  refine t_call Tryd.call14 (layers_calls hE (hS.pick (A := rdsA ps3) (by repeat first | exact .here _ _ | assumption | apply Pick.there)) hv3 (by decide)) rfl ?_
  rintro e w ⟨A7, c7, rfl, hS⟩
  refine ⟨_, rfl, ?_⟩
  refine t_q (q_as (.slice _ _ _) rfl) ?_
  refine t_nil ?_
  refine c_seq ?_
  refine c_region ?_
  refine t_q (q_mv (.slice _ _ _) rfl) ?_
  refine t_q (q_len_slice Tryd.runUnderlying22 rfl) ?_
  refine t_q (q_cast (v' := .bool true) (q_eql rfl rfl) (by rfl)) ?_
  refine t_q (q_mv (.bool _) rfl) ?_
  refine t_yes rfl rfl rfl ?_
  refine t_q (q_mv (.slice _ _ _) rfl) ?_
  refine t_yes rfl rfl rfl ?_
  first | refine t_index_nat Tryd.runUnderlying22 Tryd.sizeOf3 ((hS.rowInts (ns := layF [(9, 0), (6, 0), (1, 10)]) (A := A7) (c := c7) (by repeat first | exact .here _ _ | assumption | apply Pick.there) rfl)) rfl rfl (by show (0 : Int) ≤ 0 ∧ (0 : Int) < 3; decide) (fun ad6 hl6 hx6 => ?_) | refine t_index Tryd.runUnderlying22 Tryd.sizeOf3 ((hS.rowInts (ns := layF [(9, 0), (6, 0), (1, 10)]) (A := A7) (c := c7) (by repeat first | exact .here _ _ | assumption | apply Pick.there) rfl)) rfl rfl (by show (0 : Int) ≤ 0 ∧ (0 : Int) < 3; decide) (fun ad6 hl6 hx6 => ?_)
  refine t_yes rfl rfl rfl ?_
  refine t_q (q_load1 Tryd.isAgg3 rfl (hx6 0 _ rfl)) ?_
  refine t_yes rfl rfl rfl ?_
  refine t_q (q_cast (v' := .bool true) (q_eql rfl rfl) (by rfl)) ?_
  refine t_q (q_pick_t rfl rfl) ?_
  refine t_q (q_mv (.bool _) rfl) ?_
  refine t_yes rfl rfl rfl ?_
  refine t_q (q_mv (.slice _ _ _) rfl) ?_
  refine t_yes rfl rfl rfl ?_
  first | refine t_index_nat Tryd.runUnderlying22 Tryd.sizeOf3 ((hS.rowInts (ns := layF [(9, 0), (6, 0), (1, 10)]) (A := A7) (c := c7) (by repeat first | exact .here _ _ | assumption | apply Pick.there) rfl)) rfl rfl (by show (0 : Int) ≤ 1 ∧ (1 : Int) < 3; decide) (fun ad8 hl8 hx8 => ?_) | refine t_index Tryd.runUnderlying22 Tryd.sizeOf3 ((hS.rowInts (ns := layF [(9, 0), (6, 0), (1, 10)]) (A := A7) (c := c7) (by repeat first | exact .here _ _ | assumption | apply Pick.there) rfl)) rfl rfl (by show (0 : Int) ≤ 1 ∧ (1 : Int) < 3; decide) (fun ad8 hl8 hx8 => ?_)
  refine t_yes rfl rfl rfl ?_
  refine t_q (q_load1 Tryd.isAgg3 rfl (hx8 0 _ rfl)) ?_
  refine t_yes rfl rfl rfl ?_
  refine t_q (q_cast (v' := .bool true) (q_eql rfl rfl) (by rfl)) ?_
  refine t_q (q_pick_t rfl rfl) ?_
  refine t_q (q_mv (.bool _) rfl) ?_
  refine t_yes rfl rfl rfl ?_
  refine t_q (q_mv (.slice _ _ _) rfl) ?_
  refine t_yes rfl rfl rfl ?_
  first | refine t_index_nat Tryd.runUnderlying22 Tryd.sizeOf3 ((hS.rowInts (ns := layF [(9, 0), (6, 0), (1, 10)]) (A := A7) (c := c7) (by repeat first | exact .here _ _ | assumption | apply Pick.there) rfl)) rfl rfl (by show (0 : Int) ≤ 2 ∧ (2 : Int) < 3; decide) (fun ad10 hl10 hx10 => ?_) | refine t_index Tryd.runUnderlying22 Tryd.sizeOf3 ((hS.rowInts (ns := layF [(9, 0), (6, 0), (1, 10)]) (A := A7) (c := c7) (by repeat first | exact .here _ _ | assumption | apply Pick.there) rfl)) rfl rfl (by show (0 : Int) ≤ 2 ∧ (2 : Int) < 3; decide) (fun ad10 hl10 hx10 => ?_)
  refine t_yes rfl rfl rfl ?_
  refine t_q (q_load1 Tryd.isAgg3 rfl (hx10 0 _ rfl)) ?_
  refine t_yes rfl rfl rfl ?_
  refine t_q (q_cast (v' := .bool true) (q_eql rfl rfl) (by rfl)) ?_
  refine t_q (q_pick_t rfl rfl) ?_
  refine t_q (q_mv (.bool _) rfl) ?_
  refine t_yes rfl rfl rfl ?_
  refine t_q (q_mv v3 rfl) ?_
  refine t_yes rfl rfl rfl ?_
  refine t_call Tryd.call15 (code_calls hE (hS.pick (A := rdsA ps3) (by repeat first | exact .here _ _ | assumption | apply Pick.there)) hv3 (by decide)) rfl ?_
  rintro e w ⟨rfl, hS⟩
  refine ⟨_, rfl, ?_⟩
  refine t_yes rfl rfl rfl ?_
  refine t_q (q_cast (v' := .bool true) (q_eql rfl rfl) (by rfl)) ?_
  refine t_q (q_pick_t rfl rfl) ?_
  refine t_q (q_mv (.bool _) rfl) ?_
  refine t_yes rfl rfl rfl ?_
  refine t_q (q_mv v3 rfl) ?_
  refine t_yes rfl rfl rfl ?_
  refine t_call Tryd.call16 (text_calls hE (hS.pick (A := rdsA ps3) (by repeat first | exact .here _ _ | assumption | apply Pick.there)) hv3 (by decide) (by decide) (by decide)) rfl ?_
  rintro e w ⟨rfl, hS⟩
  refine ⟨_, rfl, ?_⟩
  refine t_yes rfl rfl rfl ?_
  refine t_q (q_cast (v' := .bool true) (q_eql_lst (a := txtF [(9, 0), (6, 0), (1, 10)]) (b := [57, 62, 54, 62, 49, 32, 49, 48]) rfl rfl) (congrArg Value.bool (decide_eq_true txt9))) ?_
  refine t_q (q_pick_t rfl rfl) ?_
  refine t_q (q_as (.bool _) rfl) ?_
  refine t_nil ?_
  refine c_ret ?_
  refine r_one rfl rfl ?_
  exact ⟨rfl, hS.nil⟩
end Go.Proofs.YtcgagmojgjbfpaaDoor
