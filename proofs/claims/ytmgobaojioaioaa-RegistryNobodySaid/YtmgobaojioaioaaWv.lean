/- Registries: the chapter's example. -/
import Derived.Test.YtmgobaojioaioaaWu
import Derived.Test.YtmgobaojioaioaaWd
import Derived.Test.YtmgobaojioaioaaWt
namespace Go.Proofs.Ytmgobaojioaioaa
open Go Go.RowKit Go.Lib
variable {W : World}
theorem gputE_nf (M : List RuV) (r : RuV) : gputE M (nf r) = gputE M r := rfl
theorem gputM_nf (M : List RuV) (r : RuV) : gputM M (nf r) = gputM M r := rfl
theorem glives : gputE [bas 1 none 0 none 0] (bas 3 none 0 none 0) = 0 ∧ gputM [bas 1 none 0 none 0] (bas 3 none 0 none 0) = [bas 1 none 0 none 0, bas 3 none 0 none 0] ∧ gputE [bas 1 none 0 none 0, bas 3 none 0 none 0] (bas 3 none 0 none 0) = 52 ∧ gputM [bas 1 none 0 none 0, bas 3 none 0 none 0] (bas 3 none 0 none 0) = [bas 1 none 0 none 0, bas 3 none 0 none 0] := by
  have hg : goodR (bas 3 none 0 none 0) = true := by rw [bas_goodP]; decide
  obtain ⟨a1, a2⟩ := gputE_4 (M := [bas 1 none 0 none 0]) hg (by rfl) (by decide)
  obtain ⟨b1, b2⟩ := gputE_2 (M := [bas 1 none 0 none 0, bas 3 none 0 none 0]) hg (by rfl)
  exact ⟨a1, a2.trans rfl, b1, b2⟩
attribute [local irreducible] blkA rowA rdsA mapA regA
set_option maxHeartbeats 1000000 in
set_option maxRecDepth 100000 in
theorem rglives_calls : Calls Try.prog 53 #[] W fun e w' => e = .returned (.bool true) ∧ St W w' [] := by
  have hS := St.init W
  obtain ⟨l1, l2, l3, l4⟩ := glives
  refine calls_of_wpE (args := []) Try.func53 rfl rfl rfl ?_
  refine c_seq ?_
  refine c_region ?_
  refine t_q (q_assign) ?_
  refine t_nil ?_
  refine c_seq ?_
  refine c_region ?_
  refine t_call Try.call103 (rgof_calls (v := 1) hS (by decide)) rfl ?_
  rintro e w ⟨y1, rfl, hy1, hb1, hS⟩
  refine ⟨_, rfl, ?_⟩
  refine t_call Try.call54 (rgnew_calls (x := y1) hS hb1) rfl ?_
  rintro e w ⟨p, ps1, rfl, hs1, hor⟩
  refine ⟨_, rfl, ?_⟩
  have hgy : goodR y1 = true := by rw [← nf_good, hy1, bas_goodP]; decide
  rcases hor with ⟨_, g, rfl, hS⟩ | ⟨h, _⟩
  rotate_left
  · rw [hgy] at h; cases h
  rw [hy1] at hS
  refine t_q (q_as (.pointer _) rfl) ?_
  refine t_nil ?_
  refine c_seq ?_
  refine c_region ?_
  refine t_q (q_mv (.pointer _) rfl) ?_
  refine t_call Try.call103 (rgof_calls (v := 3) hS (by decide)) rfl ?_
  rintro e w ⟨y2, rfl, hy2, hb2, hS⟩
  refine ⟨_, rfl, ?_⟩
  replace hS := rds_join ((hS.pick (A := rdsA ps1) (by repeat first | exact .here _ _ | assumption | apply Pick.there)).pick (A := rdsA (ruP y2)) (by repeat first | exact .here _ _ | assumption | apply Pick.there))
  replace hS := St.reg_mono (hS.pick (A := regA W g [(bas 1 none 0 none 0)] ps1) (by repeat first | exact .here _ _ | assumption | apply Pick.there)) (ps' := ruP y2 ++ ps1) (fun p hp => List.mem_append_right _ hp)
  refine t_call Try.call21 (rgput_calls (x := y2) ((hS.pick (A := rdsA _) (by repeat first | exact .here _ _ | assumption | apply Pick.there)).pick (A := regA W g [(bas 1 none 0 none 0)] _) (by repeat first | exact .here _ _ | assumption | apply Pick.there)) (hb2.mono fun p hp => List.mem_append_left _ hp)) rfl ?_
  rintro e w ⟨ps3, rfl, hs3, hS⟩
  refine ⟨_, rfl, ?_⟩
  rw [← gputE_nf, hy2, l1]
  rw [← gputM_nf, hy2, l2] at hS
  refine t_q (q_mv (.pointer _) rfl) ?_
  refine t_call Try.call103 (rgof_calls (v := 3) hS (by decide)) rfl ?_
  rintro e w ⟨y3, rfl, hy3, hb3, hS⟩
  refine ⟨_, rfl, ?_⟩
  replace hS := rds_join ((hS.pick (A := rdsA ps3) (by repeat first | exact .here _ _ | assumption | apply Pick.there)).pick (A := rdsA (ruP y3)) (by repeat first | exact .here _ _ | assumption | apply Pick.there))
  replace hS := St.reg_mono (hS.pick (A := regA W g [(bas 1 none 0 none 0), (bas 3 none 0 none 0)] ps3) (by repeat first | exact .here _ _ | assumption | apply Pick.there)) (ps' := ruP y3 ++ ps3) (fun p hp => List.mem_append_right _ hp)
  refine t_call Try.call21 (rgput_calls (x := y3) ((hS.pick (A := rdsA _) (by repeat first | exact .here _ _ | assumption | apply Pick.there)).pick (A := regA W g [(bas 1 none 0 none 0), (bas 3 none 0 none 0)] _) (by repeat first | exact .here _ _ | assumption | apply Pick.there)) (hb3.mono fun p hp => List.mem_append_left _ hp)) rfl ?_
  rintro e w ⟨ps5, rfl, hs5, hS⟩
  refine ⟨_, rfl, ?_⟩
  rw [← gputE_nf, hy3, l3]
  rw [← gputM_nf, hy3, l4] at hS
  refine t_q (q_as (.int _ _) rfl) ?_
  refine t_q (q_as (.int _ _) rfl) ?_
  refine t_nil ?_
  refine c_seq ?_
  refine c_region ?_
  refine t_q (q_mv (.pointer _) rfl) ?_
  refine t_call Try.call63 (rgver_calls (hS.pick (A := regA W g [(bas 1 none 0 none 0), (bas 3 none 0 none 0)] _) (by repeat first | exact .here _ _ | assumption | apply Pick.there))) rfl ?_
  rintro e w ⟨A4, c4, rfl, hS⟩
  refine ⟨_, rfl, ?_⟩
  have hrv := rd_vers (M := [(bas 1 none 0 none 0), (bas 3 none 0 none 0)]) hS (by repeat first | exact .here _ _ | assumption | apply Pick.there)
  refine t_q (q_as (.slice _ _ _) rfl) ?_
  refine t_nil ?_
  refine c_seq ?_
  refine c_region ?_
  refine t_q (q_mv (.int _ _) rfl) ?_
  refine t_q (q_cast (v' := .bool true) (q_eql rfl rfl) (by rfl)) ?_
  refine t_q (q_mv (.bool _) rfl) ?_
  refine t_yes rfl rfl rfl ?_
  refine t_q (q_mv (.int _ _) rfl) ?_
  refine t_yes rfl rfl rfl ?_
  refine t_q (q_cast (v' := .bool true) (q_eql rfl rfl) (by rfl)) ?_
  refine t_q (q_pick_t rfl rfl) ?_
  refine t_q (q_mv (.bool _) rfl) ?_
  refine t_yes rfl rfl rfl ?_
  refine t_q (q_mv (.slice _ _ _) rfl) ?_
  refine t_yes rfl rfl rfl ?_
  refine t_q (q_len_slice Try.runUnderlying59 rfl) ?_
  refine t_yes rfl rfl rfl ?_
  refine t_q (q_cast (v' := .bool true) (q_eql rfl rfl) (by rfl)) ?_
  refine t_q (q_pick_t rfl rfl) ?_
  refine t_q (q_mv (.bool _) rfl) ?_
  refine t_yes rfl rfl rfl ?_
  refine t_q (q_mv (.slice _ _ _) rfl) ?_
  refine t_yes rfl rfl rfl ?_
  first | refine t_index_nat Try.runUnderlying59 Try.sizeOf3 (hrv) rfl rfl (by show (0 : Int) ≤ 0 ∧ (0 : Int) < 2; decide) (fun ad11 hl11 hx11 => ?_) | refine t_index Try.runUnderlying59 Try.sizeOf3 (hrv) rfl rfl (by show (0 : Int) ≤ 0 ∧ (0 : Int) < 2; decide) (fun ad11 hl11 hx11 => ?_)
  refine t_yes rfl rfl rfl ?_
  refine t_q (q_load1 Try.isAgg3 rfl (hx11 0 _ rfl)) ?_
  refine t_yes rfl rfl rfl ?_
  refine t_q (q_cast (v' := .bool true) (q_eql rfl rfl) (by rfl)) ?_
  refine t_q (q_pick_t rfl rfl) ?_
  refine t_q (q_mv (.bool _) rfl) ?_
  refine t_yes rfl rfl rfl ?_
  refine t_q (q_mv (.slice _ _ _) rfl) ?_
  refine t_yes rfl rfl rfl ?_
  first | refine t_index_nat Try.runUnderlying59 Try.sizeOf3 (hrv) rfl rfl (by show (0 : Int) ≤ 1 ∧ (1 : Int) < 2; decide) (fun ad13 hl13 hx13 => ?_) | refine t_index Try.runUnderlying59 Try.sizeOf3 (hrv) rfl rfl (by show (0 : Int) ≤ 1 ∧ (1 : Int) < 2; decide) (fun ad13 hl13 hx13 => ?_)
  refine t_yes rfl rfl rfl ?_
  refine t_q (q_load1 Try.isAgg3 rfl (hx13 0 _ rfl)) ?_
  refine t_yes rfl rfl rfl ?_
  refine t_q (q_cast (v' := .bool true) (q_eql rfl rfl) (by rfl)) ?_
  refine t_q (q_pick_t rfl rfl) ?_
  refine t_q (q_as (.bool _) rfl) ?_
  refine t_nil ?_
  refine c_ret ?_
  refine r_one rfl rfl ?_
  exact ⟨rfl, hS.nil⟩
end Go.Proofs.Ytmgobaojioaioaa
