/- Any bytes are read as the document's registry: the walk. -/
import Derived.Test.YtmgobaojioaioaaWv
import Derived.Test.YtmgobaojioaioaaWu
import Derived.Test.YtmgobaojioaioaaWg
import Derived.Test.YtmgobaojioaioaaWs
import Derived.Test.YtmgobaojioaioaaWf
import Derived.Test.YtmgobaojioaioaaCt
namespace Go.Proofs.Ytmgobaojioaioaa
open Go Go.RowKit Go.Lib
variable {W : World}
attribute [local irreducible] blkA rowA rdsA mapA regA wrA rdrA
set_option maxHeartbeats 2000000 in
set_option maxRecDepth 100000 in
theorem greads_yes {A : Option Addr} {c : Nat} {bs : List UInt8} (hR : RdB W A bs) (hc : bs.length ≤ c ∧ bs.length ≤ 9223372036854775807) (hyes : rgOk (⟨bs, false⟩ : Rs) = true) : Calls Try.prog 12 #[.slice A bs.length c] W fun e w' => e = .returned (.bool true) ∧ St W w' [] := by
  have hS := St.init W
  obtain ⟨hby, _, hbf, hG, hne⟩ := rg_only hyes
  replace hby : bs = rgB (rgM (⟨bs, false⟩ : Rs)) ++ (rgS (⟨bs, false⟩ : Rs)).left := hby
  have hbll := congrArg List.length hby
  rw [List.length_append] at hbll
  have htake : bs.take (bs.length - (rgS (⟨bs, false⟩ : Rs)).left.length) = rgB (rgM (⟨bs, false⟩ : Rs)) := by
    rw [show bs.length - (rgS (⟨bs, false⟩ : Rs)).left.length = (rgB (rgM (⟨bs, false⟩ : Rs))).length by omega]
    exact (congrArg (List.take _) hby).trans List.take_left
  refine calls_of_wpE (args := [_]) Try.func12 rfl rfl rfl ?_
  refine c_seq ?_
  refine c_region ?_
  refine t_q (q_assign) ?_
  refine t_nil ?_
  refine c_seq ?_
  refine c_seq ?_
  refine c_region ?_
  refine t_q (q_mv (.slice _ _ _) rfl) ?_
  refine t_q (q_len_slice Try.runUnderlying74 rfl) ?_
  refine t_q (q_gtr rfl rfl) ?_
  refine t_nil ?_
  refine c_cond rfl ?_ ?_
  · intro hc2
    have hc2d := of_decide_eq_true hc2
    refine c_seq ?_
    refine c_region ?_
    refine t_call Try.call53 (rglives_calls) rfl ?_
    rintro e w ⟨rfl, hT⟩
    refine ⟨_, rfl, ?_⟩
    replace hS := hS.after hT
    refine t_q (q_as (.bool _) rfl) ?_
    refine t_nil ?_
    refine c_ret ?_
    refine r_one rfl rfl ?_
    exact ⟨rfl, hS.nil⟩
  · intro hc2
    have hc2d := of_decide_eq_false hc2
    refine c_skip ?_
    refine c_seq ?_
    refine c_region ?_
    refine t_q (q_mv (.slice _ _ _) rfl) ?_
    refine t_call Try.call33 (Open_calls hS hR hc) rfl ?_
    rintro e w ⟨g13, rfl, hS⟩
    refine ⟨_, rfl, ?_⟩
    refine t_q (q_as (.pointer _) rfl) ?_
    refine t_nil ?_
    refine c_seq ?_
    refine c_region ?_
    refine t_q (q_mv (.slice _ _ _) rfl) ?_
    refine t_q (q_build (qs := [(0, 1), (1, 1)]) [(.slice _ _ _), (.bool _)] Try.zeroValue87 Try.runUnderlying87 ⟨rfl, Try.sizeOf74, rfl, Try.sizeOf4, trivial⟩ rfl rfl) ?_
    refine t_box (v := (.agg _)) rfl rfl hS (fun g16 w hS => ?_)
    replace hS := hS.recast (show _ = blkA g16 87 [.slice A bs.length c, .bool false] from rfl)
    replace hS := hS.unrdr (s := (⟨bs, false⟩ : Rs)) rfl rfl hR hc
    refine t_q (q_as (.pointer _) rfl) ?_
    refine t_nil ?_
    refine c_seq ?_
    replace hS := hS.rds0
    refine c_region ?_
    refine t_q (q_mv (.pointer _) rfl) ?_
    refine t_call Try.call65 (rgread_calls (V := W) (W := W) (s := (⟨bs, false⟩ : Rs)) ((hS.pick (A := rdsA []) (by repeat first | exact .here _ _ | assumption | apply Pick.there)).pick (A := rdrA W 149 g13 _) (by repeat first | exact .here _ _ | assumption | apply Pick.there))) rfl ?_
    rintro e w ⟨p, ps1, rfl, hs1, hor⟩
    refine ⟨_, rfl, ?_⟩
    rcases hor with ⟨_, gP, rfl, hS⟩ | ⟨h, _⟩
    rotate_left
    · rw [hyes] at h; cases h
    refine t_q (q_as (.pointer _) rfl) ?_
    refine t_nil ?_
    refine c_seq ?_
    refine c_region ?_
    refine t_q (q_mv (.pointer _) rfl) ?_
    refine t_call Try.call66 (qgread_calls (V := W) (W := W) (s := (⟨bs, false⟩ : Rs)) ((hS.pick (A := rdsA ps1) (by repeat first | exact .here _ _ | assumption | apply Pick.there)).pick (A := rdrA W 87 g16 _) (by repeat first | exact .here _ _ | assumption | apply Pick.there))) rfl ?_
    rintro e w ⟨p2, ps2, rfl, hs2, hor2⟩
    refine ⟨_, rfl, ?_⟩
    rw [hyes]
    rcases hor2 with ⟨_, q, A5, c5, Y, rfl, hYM, hD, hS⟩ | ⟨h, _⟩
    rotate_left
    · rw [hyes] at h; cases h
    replace hS := St.reg_mono (hS.pick (A := regA W gP _ ps1) (by repeat first | exact .here _ _ | assumption | apply Pick.there)) hs2
    refine t_q (q_mv (.tuple _) rfl) ?_
    refine t_q (q_extract rfl rfl) ?_
    refine t_q (q_extract rfl rfl) ?_
    refine t_q (q_as (.pointer _) rfl) ?_
    refine t_q (q_as (.bool _) rfl) ?_
    refine t_nil ?_
    refine c_seq ?_
    refine c_seq ?_
    obtain ⟨A1, c1, hR1, hc1, hS⟩ := (hS.pick (A := rdrA W 87 g16 _) (by repeat first | exact .here _ _ | assumption | apply Pick.there)).rdr
    refine c_draw ?_
    refine d_keep (blkA g16 87 [.slice A1 (rgS (⟨bs, false⟩ : Rs)).left.length c1, .bool (rgS (⟨bs, false⟩ : Rs)).bad]) 23 [0, 1, 2, 3, 4, 5, 6, 7, 8, 9, 10, 11, 12, 13, 14, 15, 16, 17, 18, 19, 20, 21, 22] [0, 1, 2, 3, 4, 5, 6, 7, 8, 9, 10, 11, 12, 13, 14, 15, 16, 17, 18, 19, 20, 21, 22] hS rfl (by kernel_rfl) (by kernel_rfl) (by kernel_rfl) (by kernel_rfl) (fun hap hsel w hS => ?_)
    refine p_q hap hsel 0 rfl rfl ⟨_, hS.pick (by repeat first | exact .here _ _ | assumption | apply Pick.there)⟩ (fun w hI => q_mv (.pointer _) rfl) ?_
    refine p_q hap hsel 1 rfl rfl ⟨_, hS.pick (by repeat first | exact .here _ _ | assumption | apply Pick.there)⟩ (fun w hI => q_neq_ptr_nil Try.runUnderlying29 rfl rfl) ?_
    refine p_q hap hsel 2 rfl rfl ⟨_, hS.pick (by repeat first | exact .here _ _ | assumption | apply Pick.there)⟩ (fun w hI => q_mv (.bool _) rfl) ?_
    refine p_q hap hsel 3 rfl rfl ⟨_, hS.pick (by repeat first | exact .here _ _ | assumption | apply Pick.there)⟩ (fun w hI => (q_cast (v' := .bool false) (q_neq_bool Try.runUnderlying4 rfl rfl) (by rfl))) ?_
    refine p_q hap hsel 4 rfl rfl ⟨_, hS.pick (by repeat first | exact .here _ _ | assumption | apply Pick.there)⟩ (fun w hI => q_mv (.bool _) rfl) ?_
    refine p_yes hap hsel 5 rfl rfl ⟨_, hS.pick (by repeat first | exact .here _ _ | assumption | apply Pick.there)⟩ rfl rfl rfl (fun w hI => q_mv (.pointer _) rfl) ?_
    refine p_yes hap hsel 7 rfl rfl ⟨_, hS.pick (by repeat first | exact .here _ _ | assumption | apply Pick.there)⟩ rfl rfl rfl (fun w hI => q_mv (.pointer _) rfl) ?_
    refine p_yes hap hsel 8 rfl rfl ⟨_, hS.pick (by repeat first | exact .here _ _ | assumption | apply Pick.there)⟩ rfl rfl rfl (fun w hI => q_nilCheck rfl) ?_
    refine p_yes hap hsel 9 rfl rfl ⟨_, hS.pick (by repeat first | exact .here _ _ | assumption | apply Pick.there)⟩ rfl rfl rfl (fun w hI => q_fieldAddr 0 Try.runUnderlying87 rfl Try.sizeOf74 (by decide) rfl rfl) ?_
    refine p_yes hap hsel 10 rfl rfl ⟨_, hS.pick (by repeat first | exact .here _ _ | assumption | apply Pick.there)⟩ rfl rfl rfl (fun w hI => q_load1 Try.isAgg74 rfl (hI.choose_spec.cell (by repeat first | exact .here _ _ | assumption | apply Pick.there) rfl)) ?_
    refine p_yes hap hsel 11 rfl rfl ⟨_, hS.pick (by repeat first | exact .here _ _ | assumption | apply Pick.there)⟩ rfl rfl rfl (fun w hI => q_len_slice Try.runUnderlying74 rfl) ?_
    refine p_one 6 rfl (by kernel_rfl) ?_
    refine t_yes rfl rfl rfl ?_
    refine t_call Try.call39 (rLeft hS (by repeat first | exact .here _ _ | assumption | apply Pick.there)) rfl ?_
    rintro e w ⟨rfl, hS⟩
    refine ⟨_, rfl, ?_⟩
    refine t_nil ?_
    refine ⟨.inr ⟨_, hS.pick (by repeat first | exact .here _ _ | assumption | apply Pick.there)⟩, ?_⟩
    refine p_yes hap hsel 12 rfl rfl ⟨_, hS.pick (by repeat first | exact .here _ _ | assumption | apply Pick.there)⟩ rfl rfl rfl (fun w hI => (q_cast (v' := .bool false) (q_neq rfl rfl) (by simp))) ?_
    refine p_q hap hsel 13 rfl rfl ⟨_, hS.pick (by repeat first | exact .here _ _ | assumption | apply Pick.there)⟩ (fun w hI => q_pick_f rfl rfl) ?_
    refine p_q hap hsel 14 rfl rfl ⟨_, hS.pick (by repeat first | exact .here _ _ | assumption | apply Pick.there)⟩ (fun w hI => q_mv (.bool _) rfl) ?_
    refine p_yes hap hsel 15 rfl rfl ⟨_, hS.pick (by repeat first | exact .here _ _ | assumption | apply Pick.there)⟩ rfl rfl rfl (fun w hI => q_mv (.pointer _) rfl) ?_
    refine p_yes hap hsel 17 rfl rfl ⟨_, hS.pick (by repeat first | exact .here _ _ | assumption | apply Pick.there)⟩ rfl rfl rfl (fun w hI => q_mv (.pointer _) rfl) ?_
    refine p_yes hap hsel 18 rfl rfl ⟨_, hS.pick (by repeat first | exact .here _ _ | assumption | apply Pick.there)⟩ rfl rfl rfl (fun w hI => q_nilCheck rfl) ?_
    refine p_yes hap hsel 19 rfl rfl ⟨_, hS.pick (by repeat first | exact .here _ _ | assumption | apply Pick.there)⟩ rfl rfl rfl (fun w hI => q_fieldAddr 1 Try.runUnderlying87 rfl Try.sizeOf4 (by decide) rfl rfl) ?_
    refine p_yes hap hsel 20 rfl rfl ⟨_, hS.pick (by repeat first | exact .here _ _ | assumption | apply Pick.there)⟩ rfl rfl rfl (fun w hI => q_load1 Try.isAgg4 rfl (hI.choose_spec.cell (by repeat first | exact .here _ _ | assumption | apply Pick.there) rfl)) ?_
    refine p_one 16 rfl (by kernel_rfl) ?_
    refine t_yes rfl rfl rfl ?_
    refine t_call Try.call40 (rBad hS (by repeat first | exact .here _ _ | assumption | apply Pick.there)) rfl ?_
    rintro e w ⟨rfl, hS⟩
    refine ⟨_, rfl, ?_⟩
    refine t_nil ?_
    refine ⟨.inr ⟨_, hS.pick (by repeat first | exact .here _ _ | assumption | apply Pick.there)⟩, ?_⟩
    refine p_yes hap hsel 21 rfl rfl ⟨_, hS.pick (by repeat first | exact .here _ _ | assumption | apply Pick.there)⟩ rfl rfl rfl (fun w hI => (q_cast (v' := .bool false) (q_neq_bool Try.runUnderlying4 rfl rfl) (by simp))) ?_
    refine p_q hap hsel 22 rfl rfl ⟨_, hS.pick (by repeat first | exact .here _ _ | assumption | apply Pick.there)⟩ (fun w hI => q_pick_f rfl rfl) ?_
    refine p_end (by kernel_rfl) ?_
    refine c_cond_f rfl rfl ?_
    refine c_skip ?_
    refine c_seq ?_
    refine c_draw ?_
    refine d_free 25 [0, 1, 2, 3, 4, 5, 6, 7, 8, 9, 10, 11, 12, 13, 14, 15, 16, 17, 18, 19, 20, 21, 22, 23, 24] [0, 1, 2, 3, 4, 5, 6, 7, 8, 9, 10, 11, 12, 13, 14, 15, 16, 17, 18, 19, 20, 21, 22, 23, 24] hS rfl (by kernel_rfl) (by kernel_rfl) (by kernel_rfl) (by kernel_rfl) (fun hap hsel w hS => ?_)
    refine p_q hap hsel 0 rfl rfl ⟨_, hS⟩ (fun w hI => q_mv (.bool _) rfl) ?_
    refine p_q hap hsel 1 rfl rfl ⟨_, hS⟩ (fun w hI => q_not rfl) ?_
    refine p_q hap hsel 2 rfl rfl ⟨_, hS⟩ (fun w hI => q_mv (.bool _) rfl) ?_
    refine p_yes hap hsel 3 rfl rfl ⟨_, hS⟩ rfl rfl rfl (fun w hI => q_mv (.pointer _) rfl) ?_
    refine p_yes hap hsel 4 rfl rfl ⟨_, hS⟩ rfl rfl rfl (fun w hI => q_mv (.pointer _) rfl) ?_
    refine p_one 5 rfl (by kernel_rfl) ?_
    refine t_yes rfl rfl rfl ?_
    refine t_call Try.call62 (rglike_calls (M := rgM (⟨bs, false⟩ : Rs)) (Y := Y) (ps := ps2) ((((hS.pick (A := rdsA ps2) (by repeat first | exact .here _ _ | assumption | apply Pick.there)).pick (A := rowA 47 9 A5 Y.length c5 (Y.flatMap RuV.cells)) (by repeat first | exact .here _ _ | assumption | apply Pick.there)).pick (A := blkA q 141 [.slice A5 Y.length c5]) (by repeat first | exact .here _ _ | assumption | apply Pick.there)).pick (A := regA W gP _ ps2) (by repeat first | exact .here _ _ | assumption | apply Pick.there)) hYM (fun w' h y hy => (hD y hy).gd (ps := ps2) h (by repeat first | exact .here _ _ | assumption | apply Pick.there))) rfl ?_
    rintro e w ⟨rfl, hS⟩
    refine ⟨_, rfl, ?_⟩
    refine t_nil ?_
    refine ⟨.inr ⟨_, hS⟩, ?_⟩
    refine p_yes hap hsel 6 rfl rfl ⟨_, hS⟩ rfl rfl rfl (fun w hI => q_mv (.bool _) rfl) ?_
    refine p_yes hap hsel 7 rfl rfl ⟨_, hS⟩ rfl rfl rfl (fun w hI => q_mv (.pointer _) rfl) ?_
    refine p_yes hap hsel 10 rfl rfl ⟨_, hS⟩ rfl rfl rfl (fun w hI => q_mv (.slice _ _ _) rfl) ?_
    refine p_yes hap hsel 11 rfl rfl ⟨_, hS⟩ rfl rfl rfl (fun w hI => q_mv (.slice _ _ _) rfl) ?_
    refine p_yes hap hsel 12 rfl rfl ⟨_, hS⟩ rfl rfl rfl (fun w hI => q_len_slice Try.runUnderlying74 rfl) ?_
    refine p_yes hap hsel 13 rfl rfl ⟨_, hS⟩ rfl rfl rfl (fun w hI => q_mv (.pointer _) rfl) ?_
    refine p_one 8 rfl (by kernel_rfl) ?_
    refine t_yes rfl rfl rfl ?_
    refine t_call Try.call64 (rgbytes_calls ((hS.pick (A := rdsA ps2) (by repeat first | exact .here _ _ | assumption | apply Pick.there)).pick (A := regA W gP _ ps2) (by repeat first | exact .here _ _ | assumption | apply Pick.there))) rfl ?_
    rintro e w ⟨A55, c55, rfl, hS⟩
    refine ⟨_, rfl, ?_⟩
    refine t_nil ?_
    refine ⟨.inr ⟨_, hS⟩, ?_⟩
    refine p_two 9 14 rfl rfl (by kernel_rfl) ?_ ?_
    ·
      refine t_yes rfl rfl rfl ?_
      refine t_q (q_string Try.runUnderlying74 Try.runUnderlying5 Try.runUnderlying9 rfl rfl (hS.rowRd (A := A55) (c := c55) (bs := rgB (rgM (⟨bs, false⟩ : Rs))) (by repeat first | exact .here _ _ | assumption | apply Pick.there) rfl)) ?_
      refine t_nil ?_
      refine ⟨.inr ⟨_, hS⟩, ?_⟩
      refine p_one 14 rfl (by kernel_rfl) ?_
      refine t_yes rfl rfl rfl ?_
      refine t_call Try.call39 (rLeft hS (by repeat first | exact .here _ _ | assumption | apply Pick.there)) rfl ?_
      rintro e w ⟨rfl, hS⟩
      refine ⟨_, rfl, ?_⟩
      refine t_nil ?_
      refine ⟨.inr ⟨_, hS⟩, ?_⟩
      refine p_yes hap hsel 15 rfl rfl ⟨_, hS⟩ rfl rfl rfl (fun w hI => q_sub_i64 rfl rfl (by omega)) ?_
      refine p_yes hap hsel 16 rfl rfl ⟨_, hS⟩ rfl rfl rfl (fun w hI => q_slice Try.runUnderlying74 Try.sizeOf5 rfl ⟨_, _, rfl, by omega, by omega, rfl⟩ rfl) ?_
      refine p_yes hap hsel 17 rfl rfl ⟨_, hS⟩ rfl rfl rfl (fun w hI => q_string Try.runUnderlying74 Try.runUnderlying5 Try.runUnderlying9 rfl (by rw [List.length_take]; omega) (take_rd (k := bs.length - (rgS (⟨bs, false⟩ : Rs)).left.length) (hR.st hI.choose_spec) (by omega) hc)) ?_
      refine p_yes hap hsel 18 rfl rfl ⟨_, hS⟩ rfl rfl rfl (fun w hI => (q_cast (v' := .bool true) (q_eql_string rfl rfl) (by rw [htake]; simp))) ?_
      refine p_yes hap hsel 19 rfl rfl ⟨_, hS⟩ rfl rfl rfl (fun w hI => q_pick_t rfl rfl) ?_
      refine p_q hap hsel 20 rfl rfl ⟨_, hS⟩ (fun w hI => q_pick_f rfl rfl) ?_
      refine p_q hap hsel 21 rfl rfl ⟨_, hS⟩ (fun w hI => q_mv (.bool _) rfl) ?_
      refine p_one 22 rfl (by kernel_rfl) ?_
      refine t_yes rfl rfl rfl ?_
      refine t_call Try.call53 (rglives_calls) rfl ?_
      rintro e w ⟨rfl, hT⟩
      refine ⟨_, rfl, ?_⟩
      replace hS := hS.after hT
      refine t_nil ?_
      refine ⟨.inr ⟨_, hS⟩, ?_⟩
      refine p_q hap hsel 23 rfl rfl ⟨_, hS⟩ (fun w hI => q_pick_t rfl rfl) ?_
      refine p_q hap hsel 24 rfl rfl ⟨_, hS⟩ (fun w hI => q_as (.bool _) rfl) ?_
      refine p_end (by kernel_rfl) ?_
      refine c_ret ?_
      refine r_one rfl rfl ?_
      exact ⟨rfl, hS.nil⟩
    ·
      refine t_yes rfl rfl rfl ?_
      refine t_call Try.call39 (rLeft hS (by repeat first | exact .here _ _ | assumption | apply Pick.there)) rfl ?_
      rintro e w ⟨rfl, hS⟩
      refine ⟨_, rfl, ?_⟩
      refine t_nil ?_
      refine ⟨.inr ⟨_, hS⟩, ?_⟩
      refine p_yes hap hsel 15 rfl rfl ⟨_, hS⟩ rfl rfl rfl (fun w hI => q_sub_i64 rfl rfl (by omega)) ?_
      refine p_yes hap hsel 16 rfl rfl ⟨_, hS⟩ rfl rfl rfl (fun w hI => q_slice Try.runUnderlying74 Try.sizeOf5 rfl ⟨_, _, rfl, by omega, by omega, rfl⟩ rfl) ?_
      refine p_yes hap hsel 17 rfl rfl ⟨_, hS⟩ rfl rfl rfl (fun w hI => q_string Try.runUnderlying74 Try.runUnderlying5 Try.runUnderlying9 rfl (by rw [List.length_take]; omega) (take_rd (k := bs.length - (rgS (⟨bs, false⟩ : Rs)).left.length) (hR.st hI.choose_spec) (by omega) hc)) ?_
      refine p_one 9 rfl (by kernel_rfl) ?_
      refine t_yes rfl rfl rfl ?_
      refine t_q (q_string Try.runUnderlying74 Try.runUnderlying5 Try.runUnderlying9 rfl rfl (hS.rowRd (A := A55) (c := c55) (bs := rgB (rgM (⟨bs, false⟩ : Rs))) (by repeat first | exact .here _ _ | assumption | apply Pick.there) rfl)) ?_
      refine t_nil ?_
      refine ⟨.inr ⟨_, hS⟩, ?_⟩
      refine p_yes hap hsel 18 rfl rfl ⟨_, hS⟩ rfl rfl rfl (fun w hI => (q_cast (v' := .bool true) (q_eql_string rfl rfl) (by rw [htake]; simp))) ?_
      refine p_yes hap hsel 19 rfl rfl ⟨_, hS⟩ rfl rfl rfl (fun w hI => q_pick_t rfl rfl) ?_
      refine p_q hap hsel 20 rfl rfl ⟨_, hS⟩ (fun w hI => q_pick_f rfl rfl) ?_
      refine p_q hap hsel 21 rfl rfl ⟨_, hS⟩ (fun w hI => q_mv (.bool _) rfl) ?_
      refine p_one 22 rfl (by kernel_rfl) ?_
      refine t_yes rfl rfl rfl ?_
      refine t_call Try.call53 (rglives_calls) rfl ?_
      rintro e w ⟨rfl, hT⟩
      refine ⟨_, rfl, ?_⟩
      replace hS := hS.after hT
      refine t_nil ?_
      refine ⟨.inr ⟨_, hS⟩, ?_⟩
      refine p_q hap hsel 23 rfl rfl ⟨_, hS⟩ (fun w hI => q_pick_t rfl rfl) ?_
      refine p_q hap hsel 24 rfl rfl ⟨_, hS⟩ (fun w hI => q_as (.bool _) rfl) ?_
      refine p_end (by kernel_rfl) ?_
      refine c_ret ?_
      refine r_one rfl rfl ?_
      exact ⟨rfl, hS.nil⟩
set_option maxHeartbeats 2000000 in
set_option maxRecDepth 100000 in
theorem greads_no {A : Option Addr} {c : Nat} {bs : List UInt8} (hR : RdB W A bs) (hc : bs.length ≤ c ∧ bs.length ≤ 9223372036854775807) (hno : rgOk (⟨bs, false⟩ : Rs) = false) : Calls Try.prog 12 #[.slice A bs.length c] W fun e w' => e = .returned (.bool true) ∧ St W w' [] := by
  have hS := St.init W
  refine calls_of_wpE (args := [_]) Try.func12 rfl rfl rfl ?_
  refine c_seq ?_
  refine c_region ?_
  refine t_q (q_assign) ?_
  refine t_nil ?_
  refine c_seq ?_
  refine c_seq ?_
  refine c_region ?_
  refine t_q (q_mv (.slice _ _ _) rfl) ?_
  refine t_q (q_len_slice Try.runUnderlying74 rfl) ?_
  refine t_q (q_gtr rfl rfl) ?_
  refine t_nil ?_
  refine c_cond rfl ?_ ?_
  · intro hc2
    have hc2d := of_decide_eq_true hc2
    refine c_seq ?_
    refine c_region ?_
    refine t_call Try.call53 (rglives_calls) rfl ?_
    rintro e w ⟨rfl, hT⟩
    refine ⟨_, rfl, ?_⟩
    replace hS := hS.after hT
    refine t_q (q_as (.bool _) rfl) ?_
    refine t_nil ?_
    refine c_ret ?_
    refine r_one rfl rfl ?_
    exact ⟨rfl, hS.nil⟩
  · intro hc2
    have hc2d := of_decide_eq_false hc2
    refine c_skip ?_
    refine c_seq ?_
    refine c_region ?_
    refine t_q (q_mv (.slice _ _ _) rfl) ?_
    refine t_call Try.call33 (Open_calls hS hR hc) rfl ?_
    rintro e w ⟨g13, rfl, hS⟩
    refine ⟨_, rfl, ?_⟩
    refine t_q (q_as (.pointer _) rfl) ?_
    refine t_nil ?_
    refine c_seq ?_
    refine c_region ?_
    refine t_q (q_mv (.slice _ _ _) rfl) ?_
    refine t_q (q_build (qs := [(0, 1), (1, 1)]) [(.slice _ _ _), (.bool _)] Try.zeroValue87 Try.runUnderlying87 ⟨rfl, Try.sizeOf74, rfl, Try.sizeOf4, trivial⟩ rfl rfl) ?_
    refine t_box (v := (.agg _)) rfl rfl hS (fun g16 w hS => ?_)
    replace hS := hS.recast (show _ = blkA g16 87 [.slice A bs.length c, .bool false] from rfl)
    replace hS := hS.unrdr (s := (⟨bs, false⟩ : Rs)) rfl rfl hR hc
    refine t_q (q_as (.pointer _) rfl) ?_
    refine t_nil ?_
    refine c_seq ?_
    replace hS := hS.rds0
    refine c_region ?_
    refine t_q (q_mv (.pointer _) rfl) ?_
    refine t_call Try.call65 (rgread_calls (V := W) (W := W) (s := (⟨bs, false⟩ : Rs)) ((hS.pick (A := rdsA []) (by repeat first | exact .here _ _ | assumption | apply Pick.there)).pick (A := rdrA W 149 g13 _) (by repeat first | exact .here _ _ | assumption | apply Pick.there))) rfl ?_
    rintro e w ⟨p, ps1, rfl, hs1, hor⟩
    refine ⟨_, rfl, ?_⟩
    rcases hor with ⟨h, _⟩ | ⟨_, rfl, hS⟩
    · rw [hno] at h; cases h
    refine t_q (q_as (.pointer _) rfl) ?_
    refine t_nil ?_
    refine c_seq ?_
    refine c_region ?_
    refine t_q (q_mv (.pointer _) rfl) ?_
    refine t_call Try.call66 (qgread_calls (V := W) (W := W) (s := (⟨bs, false⟩ : Rs)) ((hS.pick (A := rdsA ps1) (by repeat first | exact .here _ _ | assumption | apply Pick.there)).pick (A := rdrA W 87 g16 _) (by repeat first | exact .here _ _ | assumption | apply Pick.there))) rfl ?_
    rintro e w ⟨p2, ps2, rfl, hs2, hor2⟩
    refine ⟨_, rfl, ?_⟩
    rw [hno]
    rcases hor2 with ⟨h, _⟩ | ⟨_, rfl, hS⟩
    · rw [hno] at h; cases h
    refine t_q (q_mv (.tuple _) rfl) ?_
    refine t_q (q_extract rfl rfl) ?_
    refine t_q (q_extract rfl rfl) ?_
    refine t_q (q_as (.pointer _) rfl) ?_
    refine t_q (q_as (.bool _) rfl) ?_
    refine t_nil ?_
    refine c_seq ?_
    refine c_seq ?_
    obtain ⟨A1, c1, hR1, hc1, hS⟩ := (hS.pick (A := rdrA W 87 g16 _) (by repeat first | exact .here _ _ | assumption | apply Pick.there)).rdr
    refine c_draw ?_
    refine d_keep (blkA g16 87 [.slice A1 (⟨bs, false⟩ : Rs).fail.left.length c1, .bool (⟨bs, false⟩ : Rs).fail.bad]) 23 [0, 1, 2, 3, 4, 5, 6, 7, 8, 9, 10, 11, 12, 13, 14, 15, 16, 17, 18, 19, 20, 21, 22] [0, 1, 2, 3, 4, 5, 6, 7, 8, 9, 10, 11, 12, 13, 14, 15, 16, 17, 18, 19, 20, 21, 22] hS rfl (by kernel_rfl) (by kernel_rfl) (by kernel_rfl) (by kernel_rfl) (fun hap hsel w hS => ?_)
    refine p_q hap hsel 0 rfl rfl ⟨_, hS.pick (by repeat first | exact .here _ _ | assumption | apply Pick.there)⟩ (fun w hI => q_mv (.pointer _) rfl) ?_
    refine p_q hap hsel 1 rfl rfl ⟨_, hS.pick (by repeat first | exact .here _ _ | assumption | apply Pick.there)⟩ (fun w hI => q_neq_ptr_nil Try.runUnderlying29 rfl rfl) ?_
    refine p_q hap hsel 2 rfl rfl ⟨_, hS.pick (by repeat first | exact .here _ _ | assumption | apply Pick.there)⟩ (fun w hI => q_mv (.bool _) rfl) ?_
    refine p_q hap hsel 3 rfl rfl ⟨_, hS.pick (by repeat first | exact .here _ _ | assumption | apply Pick.there)⟩ (fun w hI => (q_cast (v' := .bool false) (q_neq_bool Try.runUnderlying4 rfl rfl) (by rfl))) ?_
    refine p_q hap hsel 4 rfl rfl ⟨_, hS.pick (by repeat first | exact .here _ _ | assumption | apply Pick.there)⟩ (fun w hI => q_mv (.bool _) rfl) ?_
    refine p_yes hap hsel 5 rfl rfl ⟨_, hS.pick (by repeat first | exact .here _ _ | assumption | apply Pick.there)⟩ rfl rfl rfl (fun w hI => q_mv (.pointer _) rfl) ?_
    refine p_yes hap hsel 7 rfl rfl ⟨_, hS.pick (by repeat first | exact .here _ _ | assumption | apply Pick.there)⟩ rfl rfl rfl (fun w hI => q_mv (.pointer _) rfl) ?_
    refine p_yes hap hsel 8 rfl rfl ⟨_, hS.pick (by repeat first | exact .here _ _ | assumption | apply Pick.there)⟩ rfl rfl rfl (fun w hI => q_nilCheck rfl) ?_
    refine p_yes hap hsel 9 rfl rfl ⟨_, hS.pick (by repeat first | exact .here _ _ | assumption | apply Pick.there)⟩ rfl rfl rfl (fun w hI => q_fieldAddr 0 Try.runUnderlying87 rfl Try.sizeOf74 (by decide) rfl rfl) ?_
    refine p_yes hap hsel 10 rfl rfl ⟨_, hS.pick (by repeat first | exact .here _ _ | assumption | apply Pick.there)⟩ rfl rfl rfl (fun w hI => q_load1 Try.isAgg74 rfl (hI.choose_spec.cell (by repeat first | exact .here _ _ | assumption | apply Pick.there) rfl)) ?_
    refine p_yes hap hsel 11 rfl rfl ⟨_, hS.pick (by repeat first | exact .here _ _ | assumption | apply Pick.there)⟩ rfl rfl rfl (fun w hI => q_len_slice Try.runUnderlying74 rfl) ?_
    refine p_one 6 rfl (by kernel_rfl) ?_
    refine t_yes rfl rfl rfl ?_
    refine t_call Try.call39 (rLeft hS (by repeat first | exact .here _ _ | assumption | apply Pick.there)) rfl ?_
    rintro e w ⟨rfl, hS⟩
    refine ⟨_, rfl, ?_⟩
    refine t_nil ?_
    refine ⟨.inr ⟨_, hS.pick (by repeat first | exact .here _ _ | assumption | apply Pick.there)⟩, ?_⟩
    refine p_yes hap hsel 12 rfl rfl ⟨_, hS.pick (by repeat first | exact .here _ _ | assumption | apply Pick.there)⟩ rfl rfl rfl (fun w hI => (q_cast (v' := .bool false) (q_neq rfl rfl) (by simp))) ?_
    refine p_q hap hsel 13 rfl rfl ⟨_, hS.pick (by repeat first | exact .here _ _ | assumption | apply Pick.there)⟩ (fun w hI => q_pick_f rfl rfl) ?_
    refine p_q hap hsel 14 rfl rfl ⟨_, hS.pick (by repeat first | exact .here _ _ | assumption | apply Pick.there)⟩ (fun w hI => q_mv (.bool _) rfl) ?_
    refine p_yes hap hsel 15 rfl rfl ⟨_, hS.pick (by repeat first | exact .here _ _ | assumption | apply Pick.there)⟩ rfl rfl rfl (fun w hI => q_mv (.pointer _) rfl) ?_
    refine p_yes hap hsel 17 rfl rfl ⟨_, hS.pick (by repeat first | exact .here _ _ | assumption | apply Pick.there)⟩ rfl rfl rfl (fun w hI => q_mv (.pointer _) rfl) ?_
    refine p_yes hap hsel 18 rfl rfl ⟨_, hS.pick (by repeat first | exact .here _ _ | assumption | apply Pick.there)⟩ rfl rfl rfl (fun w hI => q_nilCheck rfl) ?_
    refine p_yes hap hsel 19 rfl rfl ⟨_, hS.pick (by repeat first | exact .here _ _ | assumption | apply Pick.there)⟩ rfl rfl rfl (fun w hI => q_fieldAddr 1 Try.runUnderlying87 rfl Try.sizeOf4 (by decide) rfl rfl) ?_
    refine p_yes hap hsel 20 rfl rfl ⟨_, hS.pick (by repeat first | exact .here _ _ | assumption | apply Pick.there)⟩ rfl rfl rfl (fun w hI => q_load1 Try.isAgg4 rfl (hI.choose_spec.cell (by repeat first | exact .here _ _ | assumption | apply Pick.there) rfl)) ?_
    refine p_one 16 rfl (by kernel_rfl) ?_
    refine t_yes rfl rfl rfl ?_
    refine t_call Try.call40 (rBad hS (by repeat first | exact .here _ _ | assumption | apply Pick.there)) rfl ?_
    rintro e w ⟨rfl, hS⟩
    refine ⟨_, rfl, ?_⟩
    refine t_nil ?_
    refine ⟨.inr ⟨_, hS.pick (by repeat first | exact .here _ _ | assumption | apply Pick.there)⟩, ?_⟩
    refine p_yes hap hsel 21 rfl rfl ⟨_, hS.pick (by repeat first | exact .here _ _ | assumption | apply Pick.there)⟩ rfl rfl rfl (fun w hI => (q_cast (v' := .bool false) (q_neq_bool Try.runUnderlying4 rfl rfl) (by simp))) ?_
    refine p_q hap hsel 22 rfl rfl ⟨_, hS.pick (by repeat first | exact .here _ _ | assumption | apply Pick.there)⟩ (fun w hI => q_pick_f rfl rfl) ?_
    refine p_end (by kernel_rfl) ?_
    refine c_cond_f rfl rfl ?_
    refine c_skip ?_
    refine c_seq ?_
    refine c_draw ?_
    refine d_free 25 [0, 1, 2, 3, 4, 5, 6, 7, 8, 9, 10, 11, 12, 13, 14, 15, 16, 17, 18, 19, 20, 21, 22, 23, 24] [0, 1, 2, 3, 4, 5, 6, 7, 8, 9, 10, 11, 12, 13, 14, 15, 16, 17, 18, 19, 20, 21, 22, 23, 24] hS rfl (by kernel_rfl) (by kernel_rfl) (by kernel_rfl) (by kernel_rfl) (fun hap hsel w hS => ?_)
    refine p_q hap hsel 0 rfl rfl ⟨_, hS⟩ (fun w hI => q_mv (.bool _) rfl) ?_
    refine p_q hap hsel 1 rfl rfl ⟨_, hS⟩ (fun w hI => q_not rfl) ?_
    refine p_q hap hsel 2 rfl rfl ⟨_, hS⟩ (fun w hI => q_mv (.bool _) rfl) ?_
    refine p_no hap hsel 3 rfl rfl ⟨_, hS⟩ rfl rfl (by decide) ?_
    refine p_no hap hsel 4 rfl rfl ⟨_, hS⟩ rfl rfl (by decide) ?_
    refine p_no hap hsel 5 rfl rfl ⟨_, hS⟩ rfl rfl (by decide) ?_
    refine p_no hap hsel 6 rfl rfl ⟨_, hS⟩ rfl rfl (by decide) ?_
    refine p_nu hap hsel 7 rfl rfl ⟨_, hS⟩ rfl rfl ?_
    refine p_nu hap hsel 8 rfl rfl ⟨_, hS⟩ rfl rfl ?_
    refine p_nu hap hsel 9 rfl rfl ⟨_, hS⟩ rfl rfl ?_
    refine p_nu hap hsel 10 rfl rfl ⟨_, hS⟩ rfl rfl ?_
    refine p_nu hap hsel 11 rfl rfl ⟨_, hS⟩ rfl rfl ?_
    refine p_nu hap hsel 12 rfl rfl ⟨_, hS⟩ rfl rfl ?_
    refine p_nu hap hsel 13 rfl rfl ⟨_, hS⟩ rfl rfl ?_
    refine p_nu hap hsel 14 rfl rfl ⟨_, hS⟩ rfl rfl ?_
    refine p_nu hap hsel 15 rfl rfl ⟨_, hS⟩ rfl rfl ?_
    refine p_nu hap hsel 16 rfl rfl ⟨_, hS⟩ rfl rfl ?_
    refine p_nu hap hsel 17 rfl rfl ⟨_, hS⟩ rfl rfl ?_
    refine p_nu hap hsel 18 rfl rfl ⟨_, hS⟩ rfl rfl ?_
    refine p_no hap hsel 19 rfl rfl ⟨_, hS⟩ rfl rfl (by decide) ?_
    refine p_q hap hsel 20 rfl rfl ⟨_, hS⟩ (fun w hI => q_pick_t rfl rfl) ?_
    refine p_q hap hsel 21 rfl rfl ⟨_, hS⟩ (fun w hI => q_mv (.bool _) rfl) ?_
    refine p_one 22 rfl (by kernel_rfl) ?_
    refine t_yes rfl rfl rfl ?_
    refine t_call Try.call53 (rglives_calls) rfl ?_
    rintro e w ⟨rfl, hT⟩
    refine ⟨_, rfl, ?_⟩
    replace hS := hS.after hT
    refine t_nil ?_
    refine ⟨.inr ⟨_, hS⟩, ?_⟩
    refine p_q hap hsel 23 rfl rfl ⟨_, hS⟩ (fun w hI => q_pick_t rfl rfl) ?_
    refine p_q hap hsel 24 rfl rfl ⟨_, hS⟩ (fun w hI => q_as (.bool _) rfl) ?_
    refine p_end (by kernel_rfl) ?_
    refine c_ret ?_
    refine r_one rfl rfl ?_
    exact ⟨rfl, hS.nil⟩
theorem RegistryReads_calls {A : Option Addr} {c : Nat} {bs : List UInt8} (hR : RdB W A bs) (hc : bs.length ≤ c ∧ bs.length ≤ 9223372036854775807) : Calls Try.prog 12 #[.slice A bs.length c] W fun e w' => e = .returned (.bool true) ∧ St W w' [] := by
  cases h : rgOk (⟨bs, false⟩ : Rs) with
  | true => exact greads_yes hR hc h
  | false => exact greads_no hR hc h
end Go.Proofs.Ytmgobaojioaioaa
