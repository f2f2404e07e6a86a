/- Any bytes are read as the document's table, or refused: the walk. -/
import Derived.Test.YtcikoealneldkaaSg
namespace Go.Proofs.Ytcikoealneldkaa
open Go Go.RowKit Go.Lib
variable {W : World}
theorem oad_some {o : Option Nat} (h : o.isSome = true) : ∃ g, o = some g := Option.isSome_iff_exists.1 h
attribute [local irreducible] blkA rowA rdrA mapA mapS rdsA tabA refA wrA sOk sT sS
set_option maxHeartbeats 2000000 in
set_option maxRecDepth 100000 in
theorem SessionReads_calls {A : Option Addr} {c : Nat} {bs : List UInt8} (hR : RdB W A bs) (hc : bs.length ≤ c ∧ bs.length ≤ 9223372036854775807) :
  Calls Try.prog 24 #[.slice A bs.length c] W fun e w' => e = .returned (.bool true) ∧ St W w' [] := by
  have hS := St.init W
  have hgood := sT_good (⟨bs, false⟩ : Rs)
  refine calls_of_wpE (args := [_]) Try.func24 rfl rfl rfl ?_
  refine c_seq ?_
  refine c_region ?_
  refine t_q (q_assign) ?_
  refine t_nil ?_
  refine c_seq ?_
  refine c_seq ?_
  refine c_region ?_
  refine t_q (q_mv (.slice _ _ _) rfl) ?_
  refine t_q (q_len_slice Try.runUnderlying48 rfl) ?_
  refine t_q (q_gtr rfl rfl) ?_
  refine t_nil ?_
  refine c_cond rfl ?_ ?_
  · intro hc2
    have hc2d := of_decide_eq_true hc2
    refine c_seq ?_
    refine c_region ?_
    refine t_call Try.call57 (slives_calls) rfl ?_
    rintro e w ⟨rfl, hT⟩
    refine ⟨_, rfl, ?_⟩
    replace hS := hS.after hT
    refine t_q (q_as (.bool _) rfl) ?_
    refine t_nil ?_
    refine c_ret ?_
    refine r_one rfl rfl ?_
    exact ⟨rfl, hS.nil⟩
  · intro hc2
    have hc2d := of_decide_eq_false hc2
    have h5000 : bs.length ≤ 5000 := by omega
    refine c_skip ?_
    refine c_seq ?_
    refine c_region ?_
    refine t_q (q_mv (.slice _ _ _) rfl) ?_
    refine t_call Try.call58 (Open_calls hS hR hc) rfl ?_
    rintro e w ⟨g15, rfl, hS⟩
    refine ⟨_, rfl, ?_⟩
    refine t_q (q_as (.pointer _) rfl) ?_
    refine t_nil ?_
    refine c_seq ?_
    refine c_region ?_
    refine t_q (q_mv (.slice _ _ _) rfl) ?_
    refine t_q (q_build (qs := [(0, 1), (1, 1)]) [(.slice _ _ _), (.bool _)] Try.zeroValue81 Try.runUnderlying81 ⟨rfl, Try.sizeOf48, rfl, Try.sizeOf4, trivial⟩ rfl rfl) ?_
    refine t_box (v := (.agg _)) rfl rfl hS (fun g18 w hS => ?_)
    replace hS := hS.unrdr (s := (⟨bs, false⟩ : Rs)) rfl rfl hR hc
    refine t_q (q_as (.pointer _) rfl) ?_
    refine t_nil ?_
    refine c_seq ?_
    refine c_region ?_
    refine t_q (q_mv (.pointer _) rfl) ?_
    refine t_call Try.call116 (oread_calls hS (by repeat first | exact .here _ _ | assumption | apply Pick.there) (fun hb => by cases hb)) rfl ?_
    rintro e w ⟨o22, rfl, ho22, hS⟩
    refine ⟨_, rfl, ?_⟩
    refine t_q (q_mv (.tuple _) rfl) ?_
    refine t_q (q_extract rfl rfl) ?_
    refine t_q (q_extract rfl rfl) ?_
    refine t_q (q_as (.pointer _) rfl) ?_
    refine t_q (q_as (.bool _) rfl) ?_
    refine t_nil ?_
    refine c_seq ?_
    refine c_region ?_
    refine t_q (q_mv (.pointer _) rfl) ?_
    refine t_call Try.call117 (oqread_calls hS (by repeat first | exact .here _ _ | assumption | apply Pick.there)) rfl ?_
    rintro e w ⟨o27, rfl, ho27, hS⟩
    refine ⟨_, rfl, ?_⟩
    refine t_q (q_mv (.tuple _) rfl) ?_
    refine t_q (q_extract rfl rfl) ?_
    refine t_q (q_extract rfl rfl) ?_
    refine t_q (q_as (.pointer _) rfl) ?_
    refine t_q (q_as (.bool _) rfl) ?_
    refine t_nil ?_
    refine c_seq ?_
    refine c_seq ?_
    obtain ⟨A1, c1, hR1, hc1, hS⟩ := (hS.pick (A := rdrA W 81 g18 _) (by repeat first | exact .here _ _ | assumption | apply Pick.there)).rdr
    refine c_draw ?_
    refine d_keep (blkA g18 81 [.slice A1 (sS (⟨bs, false⟩ : Rs)).left.length c1, .bool (sS (⟨bs, false⟩ : Rs)).bad]) 28 [0, 1, 2, 3, 4, 5, 6, 7, 8, 9, 10, 11, 12, 13, 14, 15, 16, 17, 18, 19, 20, 21, 22, 23, 24, 25, 26, 27] [0, 1, 2, 3, 4, 5, 6, 7, 8, 9, 10, 11, 12, 13, 14, 15, 16, 17, 18, 19, 20, 21, 22, 23, 24, 25, 26, 27] hS rfl (by kernel_rfl) (by kernel_rfl) (by kernel_rfl) (by kernel_rfl) (fun hap hsel w hS => ?_)
    refine p_q hap hsel 0 rfl rfl ⟨_, hS.pick (by repeat first | exact .here _ _ | assumption | apply Pick.there)⟩ (fun w hI => q_mv (.bool _) rfl) ?_
    refine p_q hap hsel 1 rfl rfl ⟨_, hS.pick (by repeat first | exact .here _ _ | assumption | apply Pick.there)⟩ (fun w hI => q_mv (.bool _) rfl) ?_
    refine p_q hap hsel 2 rfl rfl ⟨_, hS.pick (by repeat first | exact .here _ _ | assumption | apply Pick.there)⟩ (fun w hI => (q_cast (v' := .bool false) (q_neq_bool Try.runUnderlying4 rfl rfl) (by simp))) ?_
    refine p_q hap hsel 3 rfl rfl ⟨_, hS.pick (by repeat first | exact .here _ _ | assumption | apply Pick.there)⟩ (fun w hI => q_mv (.bool _) rfl) ?_
    refine p_yes hap hsel 4 rfl rfl ⟨_, hS.pick (by repeat first | exact .here _ _ | assumption | apply Pick.there)⟩ rfl rfl rfl (fun w hI => q_mv (.pointer _) rfl) ?_
    refine p_yes hap hsel 5 rfl rfl ⟨_, hS.pick (by repeat first | exact .here _ _ | assumption | apply Pick.there)⟩ rfl rfl rfl (fun w hI => (q_cast (v' := .bool (sOk (⟨bs, false⟩ : Rs))) (q_neq_ptr_nil Try.runUnderlying62 rfl rfl) (by cases o22 with | none => exact congrArg Value.bool ho22 | some g => exact congrArg Value.bool ho22))) ?_
    refine p_yes hap hsel 6 rfl rfl ⟨_, hS.pick (by repeat first | exact .here _ _ | assumption | apply Pick.there)⟩ rfl rfl rfl (fun w hI => q_mv (.bool _) rfl) ?_
    refine p_yes hap hsel 7 rfl rfl ⟨_, hS.pick (by repeat first | exact .here _ _ | assumption | apply Pick.there)⟩ rfl rfl rfl (fun w hI => (q_cast (v' := .bool false) (q_neq_bool Try.runUnderlying4 rfl rfl) (by simp))) ?_
    refine p_q hap hsel 8 rfl rfl ⟨_, hS.pick (by repeat first | exact .here _ _ | assumption | apply Pick.there)⟩ (fun w hI => q_pick_f rfl rfl) ?_
    refine p_q hap hsel 9 rfl rfl ⟨_, hS.pick (by repeat first | exact .here _ _ | assumption | apply Pick.there)⟩ (fun w hI => q_mv (.bool _) rfl) ?_
    refine p_yes hap hsel 10 rfl rfl ⟨_, hS.pick (by repeat first | exact .here _ _ | assumption | apply Pick.there)⟩ rfl rfl rfl (fun w hI => q_mv (.pointer _) rfl) ?_
    refine p_yes hap hsel 12 rfl rfl ⟨_, hS.pick (by repeat first | exact .here _ _ | assumption | apply Pick.there)⟩ rfl rfl rfl (fun w hI => q_mv (.pointer _) rfl) ?_
    refine p_yes hap hsel 13 rfl rfl ⟨_, hS.pick (by repeat first | exact .here _ _ | assumption | apply Pick.there)⟩ rfl rfl rfl (fun w hI => q_nilCheck rfl) ?_
    refine p_yes hap hsel 14 rfl rfl ⟨_, hS.pick (by repeat first | exact .here _ _ | assumption | apply Pick.there)⟩ rfl rfl rfl (fun w hI => q_fieldAddr 0 Try.runUnderlying81 rfl Try.sizeOf48 (by decide) rfl rfl) ?_
    refine p_yes hap hsel 15 rfl rfl ⟨_, hS.pick (by repeat first | exact .here _ _ | assumption | apply Pick.there)⟩ rfl rfl rfl (fun w hI => q_load1 Try.isAgg48 rfl (hI.choose_spec.cell (by repeat first | exact .here _ _ | assumption | apply Pick.there) rfl)) ?_
    refine p_yes hap hsel 16 rfl rfl ⟨_, hS.pick (by repeat first | exact .here _ _ | assumption | apply Pick.there)⟩ rfl rfl rfl (fun w hI => q_len_slice Try.runUnderlying48 rfl) ?_
    refine p_one 11 rfl (by kernel_rfl) ?_
    refine t_yes rfl rfl rfl ?_
    refine t_call Try.call69 (rLeft hS (by repeat first | exact .here _ _ | assumption | apply Pick.there)) rfl ?_
    rintro e w ⟨rfl, hS⟩
    refine ⟨_, rfl, ?_⟩
    refine t_nil ?_
    refine ⟨.inr ⟨_, hS.pick (by repeat first | exact .here _ _ | assumption | apply Pick.there)⟩, ?_⟩
    refine p_yes hap hsel 17 rfl rfl ⟨_, hS.pick (by repeat first | exact .here _ _ | assumption | apply Pick.there)⟩ rfl rfl rfl (fun w hI => (q_cast (v' := .bool false) (q_neq rfl rfl) (by simp))) ?_
    refine p_q hap hsel 18 rfl rfl ⟨_, hS.pick (by repeat first | exact .here _ _ | assumption | apply Pick.there)⟩ (fun w hI => q_pick_f rfl rfl) ?_
    refine p_q hap hsel 19 rfl rfl ⟨_, hS.pick (by repeat first | exact .here _ _ | assumption | apply Pick.there)⟩ (fun w hI => q_mv (.bool _) rfl) ?_
    refine p_yes hap hsel 20 rfl rfl ⟨_, hS.pick (by repeat first | exact .here _ _ | assumption | apply Pick.there)⟩ rfl rfl rfl (fun w hI => q_mv (.pointer _) rfl) ?_
    refine p_yes hap hsel 22 rfl rfl ⟨_, hS.pick (by repeat first | exact .here _ _ | assumption | apply Pick.there)⟩ rfl rfl rfl (fun w hI => q_mv (.pointer _) rfl) ?_
    refine p_yes hap hsel 23 rfl rfl ⟨_, hS.pick (by repeat first | exact .here _ _ | assumption | apply Pick.there)⟩ rfl rfl rfl (fun w hI => q_nilCheck rfl) ?_
    refine p_yes hap hsel 24 rfl rfl ⟨_, hS.pick (by repeat first | exact .here _ _ | assumption | apply Pick.there)⟩ rfl rfl rfl (fun w hI => q_fieldAddr 1 Try.runUnderlying81 rfl Try.sizeOf4 (by decide) rfl rfl) ?_
    refine p_yes hap hsel 25 rfl rfl ⟨_, hS.pick (by repeat first | exact .here _ _ | assumption | apply Pick.there)⟩ rfl rfl rfl (fun w hI => q_load1 Try.isAgg4 rfl (hI.choose_spec.cell (by repeat first | exact .here _ _ | assumption | apply Pick.there) rfl)) ?_
    refine p_one 21 rfl (by kernel_rfl) ?_
    refine t_yes rfl rfl rfl ?_
    refine t_call Try.call70 (rBad hS (by repeat first | exact .here _ _ | assumption | apply Pick.there)) rfl ?_
    rintro e w ⟨rfl, hS⟩
    refine ⟨_, rfl, ?_⟩
    refine t_nil ?_
    refine ⟨.inr ⟨_, hS.pick (by repeat first | exact .here _ _ | assumption | apply Pick.there)⟩, ?_⟩
    refine p_yes hap hsel 26 rfl rfl ⟨_, hS.pick (by repeat first | exact .here _ _ | assumption | apply Pick.there)⟩ rfl rfl rfl (fun w hI => (q_cast (v' := .bool false) (q_neq_bool Try.runUnderlying4 rfl rfl) (by simp))) ?_
    refine p_q hap hsel 27 rfl rfl ⟨_, hS.pick (by repeat first | exact .here _ _ | assumption | apply Pick.there)⟩ (fun w hI => q_pick_f rfl rfl) ?_
    refine p_end (by kernel_rfl) ?_
    refine c_cond_f rfl rfl ?_
    refine c_skip ?_
    refine c_seq ?_
    refine c_seq ?_
    refine c_region ?_
    refine t_q (q_mv (.bool _) rfl) ?_
    refine t_q (q_not rfl) ?_
    refine t_nil ?_
    refine c_cond rfl ?_ ?_
    · intro hc18
      refine c_seq ?_
      refine c_region ?_
      refine t_call Try.call57 (slives_calls) rfl ?_
      rintro e w ⟨rfl, hT⟩
      refine ⟨_, rfl, ?_⟩
      replace hS := hS.after hT
      refine t_q (q_as (.bool _) rfl) ?_
      refine t_nil ?_
      refine c_ret ?_
      refine r_one rfl rfl ?_
      exact ⟨rfl, hS.nil⟩
    · intro hc18
      have hyes : sOk (⟨bs, false⟩ : Rs) = true := by simpa using hc18
      obtain ⟨gP, rfl⟩ := oad_some (ho22.trans hyes)
      obtain ⟨gQ, rfl⟩ := oad_some (ho27.trans hyes)
      replace hS := (hS.pick (A := optA (some gP) _) (by repeat first | exact .here _ _ | assumption | apply Pick.there)).recast (show _ = tabA gP (sT (⟨bs, false⟩ : Rs)) from rfl)
      replace hS := (hS.pick (A := optA (some gQ) _) (by repeat first | exact .here _ _ | assumption | apply Pick.there)).recast (show _ = refA gQ (sT (⟨bs, false⟩ : Rs)) from rfl)
      obtain ⟨hby, _⟩ := s_bytes hyes
      replace hby : bs = (sesB (sT (⟨bs, false⟩ : Rs))) ++ (sS (⟨bs, false⟩ : Rs)).left := hby
      have hbll := congrArg List.length hby
      rw [List.length_append] at hbll
      have htake : bs.take (bs.length - (sS (⟨bs, false⟩ : Rs)).left.length) = (sesB (sT (⟨bs, false⟩ : Rs))) := by
        rw [show bs.length - (sS (⟨bs, false⟩ : Rs)).left.length = (sesB (sT (⟨bs, false⟩ : Rs))).length by omega]
        exact (congrArg (List.take _) hby).trans List.take_left
      refine c_skip ?_
      refine c_seq ?_
      refine c_region ?_
      refine t_alloc Try.zeroValue50 rfl hS (fun g9 w hS => ?_)
      replace hS := hS.wr0
      refine t_nil ?_
      refine c_seq ?_
      refine c_region ?_
      refine t_q (q_mv (.pointer _) rfl) ?_
      refine t_call Try.call52 (sput_calls (((hS.pick (A := tabA gP (sT (⟨bs, false⟩ : Rs))) (by repeat first | exact .here _ _ | assumption | apply Pick.there)).pick (A := wrA g9 _) (by repeat first | exact .here _ _ | assumption | apply Pick.there))) hgood (by simp)) rfl ?_
      rintro e w ⟨rfl, hS⟩
      refine ⟨_, rfl, ?_⟩
      replace hS := hS.recast (congrArg (wrA g9) (List.nil_append (sesB (sT (⟨bs, false⟩ : Rs)))))
      refine t_nil ?_
      refine c_seq ?_
      refine c_draw ?_
      refine d_free 20 [0, 1, 2, 3, 4, 5, 6, 7, 8, 9, 10, 11, 12, 13, 14, 15, 16, 17, 18, 19] [0, 1, 2, 3, 4, 5, 6, 7, 8, 9, 10, 11, 12, 13, 14, 15, 16, 17, 18, 19] hS rfl (by kernel_rfl) (by kernel_rfl) (by kernel_rfl) (by kernel_rfl) (fun hap hsel w hS => ?_)
      refine p_q hap hsel 0 rfl rfl ⟨_, hS⟩ (fun w hI => q_mv (.pointer _) rfl) ?_
      refine p_q hap hsel 1 rfl rfl ⟨_, hS⟩ (fun w hI => q_mv (.pointer _) rfl) ?_
      refine p_one 2 rfl (by kernel_rfl) ?_
      refine t_call Try.call118 (slike_calls (T := sT (⟨bs, false⟩ : Rs)) hS (by repeat first | exact .here _ _ | assumption | apply Pick.there) (by repeat first | exact .here _ _ | assumption | apply Pick.there) hgood) rfl ?_
      rintro e w ⟨rfl, hS⟩
      refine ⟨_, rfl, ?_⟩
      refine t_nil ?_
      refine ⟨.inr ⟨_, hS⟩, ?_⟩
      refine p_q hap hsel 3 rfl rfl ⟨_, hS⟩ (fun w hI => q_mv (.bool _) rfl) ?_
      refine p_yes hap hsel 6 rfl rfl ⟨_, hS⟩ rfl rfl rfl (fun w hI => q_mv (.slice _ _ _) rfl) ?_
      refine p_yes hap hsel 7 rfl rfl ⟨_, hS⟩ rfl rfl rfl (fun w hI => q_mv (.slice _ _ _) rfl) ?_
      refine p_yes hap hsel 8 rfl rfl ⟨_, hS⟩ rfl rfl rfl (fun w hI => q_len_slice Try.runUnderlying48 rfl) ?_
      refine p_yes hap hsel 9 rfl rfl ⟨_, hS⟩ rfl rfl rfl (fun w hI => q_mv (.pointer _) rfl) ?_
      refine p_one 4 rfl (by kernel_rfl) ?_
      refine t_yes rfl rfl rfl ?_
      refine t_call Try.call50 (Bytes_calls hS (by repeat first | exact .here _ _ | assumption | apply Pick.there) (by omega)) rfl ?_
      rintro e w ⟨A66, c66, rfl, hc66, hS⟩
      refine ⟨_, rfl, ?_⟩
      refine t_nil ?_
      refine ⟨.inr ⟨_, hS⟩, ?_⟩
      refine p_two 5 10 rfl rfl (by kernel_rfl) ?_ ?_
      ·
        refine t_yes rfl rfl rfl ?_
        refine t_q (q_string Try.runUnderlying48 Try.runUnderlying5 Try.runUnderlying9 rfl rfl (hS.rowRd (A := A66) (c := c66) (bs := (sesB (sT (⟨bs, false⟩ : Rs)))) (by repeat first | exact .here _ _ | assumption | apply Pick.there) rfl)) ?_
        refine t_nil ?_
        refine ⟨.inr ⟨_, hS⟩, ?_⟩
        refine p_one 10 rfl (by kernel_rfl) ?_
        refine t_yes rfl rfl rfl ?_
        refine t_call Try.call69 (rLeft hS (by repeat first | exact .here _ _ | assumption | apply Pick.there)) rfl ?_
        rintro e w ⟨rfl, hS⟩
        refine ⟨_, rfl, ?_⟩
        refine t_nil ?_
        refine ⟨.inr ⟨_, hS⟩, ?_⟩
        refine p_yes hap hsel 11 rfl rfl ⟨_, hS⟩ rfl rfl rfl (fun w hI => q_sub_i64 rfl rfl (by omega)) ?_
        refine p_yes hap hsel 12 rfl rfl ⟨_, hS⟩ rfl rfl rfl (fun w hI => q_slice Try.runUnderlying48 Try.sizeOf5 rfl ⟨_, _, rfl, by omega, by omega, rfl⟩ rfl) ?_
        refine p_yes hap hsel 13 rfl rfl ⟨_, hS⟩ rfl rfl rfl (fun w hI => q_string Try.runUnderlying48 Try.runUnderlying5 Try.runUnderlying9 rfl (by rw [List.length_take]; omega) (take_rd (k := bs.length - (sS (⟨bs, false⟩ : Rs)).left.length) (hR.st hI.choose_spec) (by omega) hc)) ?_
        refine p_yes hap hsel 14 rfl rfl ⟨_, hS⟩ rfl rfl rfl (fun w hI => (q_cast (v' := .bool true) (q_eql_string rfl rfl) (by rw [htake]; simp))) ?_
        refine p_q hap hsel 15 rfl rfl ⟨_, hS⟩ (fun w hI => q_pick_t rfl rfl) ?_
        refine p_q hap hsel 16 rfl rfl ⟨_, hS⟩ (fun w hI => q_mv (.bool _) rfl) ?_
        refine p_one 17 rfl (by kernel_rfl) ?_
        refine t_yes rfl rfl rfl ?_
        refine t_call Try.call57 (slives_calls) rfl ?_
        rintro e w ⟨rfl, hT⟩
        refine ⟨_, rfl, ?_⟩
        replace hS := hS.after hT
        refine t_nil ?_
        refine ⟨.inr ⟨_, hS⟩, ?_⟩
        refine p_q hap hsel 18 rfl rfl ⟨_, hS⟩ (fun w hI => q_pick_t rfl rfl) ?_
        refine p_q hap hsel 19 rfl rfl ⟨_, hS⟩ (fun w hI => q_as (.bool _) rfl) ?_
        refine p_end (by kernel_rfl) ?_
        refine c_ret ?_
        refine r_one rfl rfl ?_
        exact ⟨rfl, hS.nil⟩
      ·
        refine t_yes rfl rfl rfl ?_
        refine t_call Try.call69 (rLeft hS (by repeat first | exact .here _ _ | assumption | apply Pick.there)) rfl ?_
        rintro e w ⟨rfl, hS⟩
        refine ⟨_, rfl, ?_⟩
        refine t_nil ?_
        refine ⟨.inr ⟨_, hS⟩, ?_⟩
        refine p_yes hap hsel 11 rfl rfl ⟨_, hS⟩ rfl rfl rfl (fun w hI => q_sub_i64 rfl rfl (by omega)) ?_
        refine p_yes hap hsel 12 rfl rfl ⟨_, hS⟩ rfl rfl rfl (fun w hI => q_slice Try.runUnderlying48 Try.sizeOf5 rfl ⟨_, _, rfl, by omega, by omega, rfl⟩ rfl) ?_
        refine p_yes hap hsel 13 rfl rfl ⟨_, hS⟩ rfl rfl rfl (fun w hI => q_string Try.runUnderlying48 Try.runUnderlying5 Try.runUnderlying9 rfl (by rw [List.length_take]; omega) (take_rd (k := bs.length - (sS (⟨bs, false⟩ : Rs)).left.length) (hR.st hI.choose_spec) (by omega) hc)) ?_
        refine p_one 5 rfl (by kernel_rfl) ?_
        refine t_yes rfl rfl rfl ?_
        refine t_q (q_string Try.runUnderlying48 Try.runUnderlying5 Try.runUnderlying9 rfl rfl (hS.rowRd (A := A66) (c := c66) (bs := (sesB (sT (⟨bs, false⟩ : Rs)))) (by repeat first | exact .here _ _ | assumption | apply Pick.there) rfl)) ?_
        refine t_nil ?_
        refine ⟨.inr ⟨_, hS⟩, ?_⟩
        refine p_yes hap hsel 14 rfl rfl ⟨_, hS⟩ rfl rfl rfl (fun w hI => (q_cast (v' := .bool true) (q_eql_string rfl rfl) (by rw [htake]; simp))) ?_
        refine p_q hap hsel 15 rfl rfl ⟨_, hS⟩ (fun w hI => q_pick_t rfl rfl) ?_
        refine p_q hap hsel 16 rfl rfl ⟨_, hS⟩ (fun w hI => q_mv (.bool _) rfl) ?_
        refine p_one 17 rfl (by kernel_rfl) ?_
        refine t_yes rfl rfl rfl ?_
        refine t_call Try.call57 (slives_calls) rfl ?_
        rintro e w ⟨rfl, hT⟩
        refine ⟨_, rfl, ?_⟩
        replace hS := hS.after hT
        refine t_nil ?_
        refine ⟨.inr ⟨_, hS⟩, ?_⟩
        refine p_q hap hsel 18 rfl rfl ⟨_, hS⟩ (fun w hI => q_pick_t rfl rfl) ?_
        refine p_q hap hsel 19 rfl rfl ⟨_, hS⟩ (fun w hI => q_as (.bool _) rfl) ?_
        refine p_end (by kernel_rfl) ?_
        refine c_ret ?_
        refine r_one rfl rfl ?_
        exact ⟨rfl, hS.nil⟩
end Go.Proofs.Ytcikoealneldkaa
