/- Any events have the document's bytes, or are refused; what is written is read as it was: the walk. -/
import Derived.Test.YtcikoealneldkaaEz
namespace Go.Proofs.Ytcikoealneldkaa
open Go Go.RowKit Go.Lib
variable {W : World}

set_option maxRecDepth 100000 in
theorem EventWrites_calls {A B : Option Addr} {c d : Nat} {l : List Ev} {more : List UInt8} (hl : RdEv W A l) (hin : ∀ e ∈ l, e.In) (hm : l.length ≤ maxLen) (hmore : RdB W B more) (hd : more.length ≤ maxLen) :
  Calls Try.prog 16 #[.slice A l.length c, .slice B more.length d] W fun e w' => e = .returned (.bool true) ∧ St W w' [] := by
  have hS := St.init W
  unfold maxLen at hm hd
  have hel := evP_len (l := l) hin
  refine calls_of_wpE (args := [_, _]) Try.func16 rfl rfl rfl ?_
  refine c_seq ?_
  refine c_region ?_
  refine t_q (q_assign) ?_
  refine t_nil ?_
  refine c_seq ?_
  refine c_seq ?_
  refine c_region ?_
  refine t_q (q_mv (.slice _ _ _) rfl) ?_
  refine t_q (q_len_slice Try.runUnderlying70 rfl) ?_
  refine t_q (q_gtr rfl rfl) ?_
  refine t_q (q_mv (.bool _) rfl) ?_
  refine t_case 16 rfl ?_ ?_
  · intro hg2
    have hg2d := of_decide_eq_true hg2
    refine t_no rfl rfl (by rw [hg2]; decide) ?_
    refine t_no rfl rfl (by rw [hg2]; decide) ?_
    refine t_no rfl rfl (by rw [hg2]; decide) ?_
    refine t_q (q_pick_t rfl hg2) ?_
    refine t_nil ?_
    refine c_cond_t rfl rfl ?_
    refine c_seq ?_
    refine c_region ?_
    refine t_call Try.call95 (elives_calls) rfl ?_
    rintro e w ⟨rfl, hT⟩
    refine ⟨_, rfl, ?_⟩
    replace hS := hS.after hT
    refine t_q (q_as (.bool _) rfl) ?_
    refine t_nil ?_
    refine c_ret ?_
    refine r_one rfl rfl ?_
    exact ⟨rfl, hS.nil⟩
  · intro hg2
    have hg2d := of_decide_eq_false hg2
    refine t_yes rfl rfl hg2 ?_
    refine t_q (q_mv (.slice _ _ _) rfl) ?_
    refine t_yes rfl rfl hg2 ?_
    refine t_q (q_len_slice Try.runUnderlying48 rfl) ?_
    refine t_yes rfl rfl hg2 ?_
    refine t_q (q_gtr rfl rfl) ?_
    refine t_q (q_pick_f rfl hg2) ?_
    refine t_nil ?_
    refine c_cond rfl ?_ ?_
    · intro hc5
      have hc5d := of_decide_eq_true hc5
      refine c_seq ?_
      refine c_region ?_
      refine t_call Try.call95 (elives_calls) rfl ?_
      rintro e w ⟨rfl, hT⟩
      refine ⟨_, rfl, ?_⟩
      replace hS := hS.after hT
      refine t_q (q_as (.bool _) rfl) ?_
      refine t_nil ?_
      refine c_ret ?_
      refine r_one rfl rfl ?_
      exact ⟨rfl, hS.nil⟩
    · intro hc5
      have hc5d := of_decide_eq_false hc5
      have h300 : l.length ≤ 300 := by omega
      have h100 : more.length ≤ 100 := by omega
      replace hel := hel (by omega) l.length
      rw [evP_all] at hel
      refine c_skip ?_
      refine c_seq ?_
      refine c_region ?_
      refine t_q (q_mv (.slice _ _ _) rfl) ?_
      refine t_call Try.call96 (ebytes_calls (hl.st hS) hin (by omega)) rfl ?_
      rintro e w ⟨A24, m24, c24, rfl, hm24, hT⟩
      refine ⟨_, rfl, ?_⟩
      have hS : St W w (_ :: _) := hS.lift hT
      subst hm24
      refine t_q (q_mv (.tuple _) rfl) ?_
      refine t_q (q_extract rfl rfl) ?_
      refine t_q (q_extract rfl rfl) ?_
      refine t_q (q_as (.slice _ _ _) rfl) ?_
      refine t_q (q_as (.int _ _) rfl) ?_
      refine t_nil ?_
      refine c_seq ?_
      refine c_region ?_
      refine t_q (q_mv (.slice _ _ _) rfl) ?_
      refine t_call Try.call97 (qebytes_calls (hl.st hS) hin (by omega)) rfl ?_
      rintro e w ⟨A29, m29, c29, rfl, hm29, hT⟩
      refine ⟨_, rfl, ?_⟩
      have hS : St W w (_ :: _) := hS.lift hT
      subst hm29
      refine t_q (q_mv (.tuple _) rfl) ?_
      refine t_q (q_extract rfl rfl) ?_
      refine t_q (q_extract rfl rfl) ?_
      refine t_q (q_as (.slice _ _ _) rfl) ?_
      refine t_q (q_as (.int _ _) rfl) ?_
      refine t_nil ?_
      refine c_seq ?_
      refine c_region ?_
      refine t_alloc Try.zeroValue50 rfl hS (fun g9 w hS => ?_)
      replace hS := hS.wr0
      refine t_nil ?_
      refine c_seq ?_
      refine c_region ?_
      refine t_q (q_mv (.slice _ _ _) rfl) ?_
      refine t_call Try.call98 (eput_calls hS (by repeat first | exact .here _ _ | assumption | apply Pick.there) (fun _ h => hl.st h) hin (by omega) (by simp)) rfl ?_
      rintro e w ⟨rfl, hS⟩
      refine ⟨_, rfl, ?_⟩
      replace hS := hS.recast (congrArg (wrA g9) (List.nil_append (evsB l)))
      refine t_nil ?_
      refine c_seq ?_
      refine c_seq ?_
      refine c_draw ?_
      refine d_keep2 (rowA 5 1 A24 (evBL l).length c24 ((evBL l).map bv)) (rowA 5 1 A29 (evBL l).length c29 ((evBL l).map bv)) 18 [0, 1, 2, 3, 4, 5, 6, 7, 8, 9, 10, 11, 12, 13, 14, 15, 16, 17] [0, 1, 2, 3, 4, 5, 6, 7, 8, 9, 10, 11, 12, 13, 14, 15, 16, 17] hS rfl (by kernel_rfl) (by kernel_rfl) (by kernel_rfl) (by kernel_rfl) (fun hap hsel w hS => ?_)
      refine p_q hap hsel 0 rfl rfl ⟨_, ((hS.pick (A := rowA 5 1 A29 (evBL l).length c29 ((evBL l).map bv)) (by repeat first | exact .here _ _ | assumption | apply Pick.there)).pick (A := rowA 5 1 A24 (evBL l).length c24 ((evBL l).map bv)) (by repeat first | exact .here _ _ | assumption | apply Pick.there))⟩ (fun w hI => q_mv (.slice _ _ _) rfl) ?_
      refine p_q hap hsel 1 rfl rfl ⟨_, ((hS.pick (A := rowA 5 1 A29 (evBL l).length c29 ((evBL l).map bv)) (by repeat first | exact .here _ _ | assumption | apply Pick.there)).pick (A := rowA 5 1 A24 (evBL l).length c24 ((evBL l).map bv)) (by repeat first | exact .here _ _ | assumption | apply Pick.there))⟩ (fun w hI => q_string Try.runUnderlying48 Try.runUnderlying5 Try.runUnderlying9 rfl rfl (hI.choose_spec.rowRd (A := A24) (c := c24) (bs := evBL l) (by repeat first | exact .here _ _ | assumption | apply Pick.there) rfl)) ?_
      refine p_q hap hsel 2 rfl rfl ⟨_, ((hS.pick (A := rowA 5 1 A29 (evBL l).length c29 ((evBL l).map bv)) (by repeat first | exact .here _ _ | assumption | apply Pick.there)).pick (A := rowA 5 1 A24 (evBL l).length c24 ((evBL l).map bv)) (by repeat first | exact .here _ _ | assumption | apply Pick.there))⟩ (fun w hI => q_mv (.slice _ _ _) rfl) ?_
      refine p_q hap hsel 3 rfl rfl ⟨_, ((hS.pick (A := rowA 5 1 A29 (evBL l).length c29 ((evBL l).map bv)) (by repeat first | exact .here _ _ | assumption | apply Pick.there)).pick (A := rowA 5 1 A24 (evBL l).length c24 ((evBL l).map bv)) (by repeat first | exact .here _ _ | assumption | apply Pick.there))⟩ (fun w hI => q_string Try.runUnderlying48 Try.runUnderlying5 Try.runUnderlying9 rfl rfl (hI.choose_spec.rowRd (A := A29) (c := c29) (bs := evBL l) (by repeat first | exact .here _ _ | assumption | apply Pick.there) rfl)) ?_
      refine p_q hap hsel 4 rfl rfl ⟨_, ((hS.pick (A := rowA 5 1 A29 (evBL l).length c29 ((evBL l).map bv)) (by repeat first | exact .here _ _ | assumption | apply Pick.there)).pick (A := rowA 5 1 A24 (evBL l).length c24 ((evBL l).map bv)) (by repeat first | exact .here _ _ | assumption | apply Pick.there))⟩ (fun w hI => (q_cast (v' := .bool false) (q_neq_string rfl rfl) (by simp))) ?_
      refine p_q hap hsel 5 rfl rfl ⟨_, ((hS.pick (A := rowA 5 1 A29 (evBL l).length c29 ((evBL l).map bv)) (by repeat first | exact .here _ _ | assumption | apply Pick.there)).pick (A := rowA 5 1 A24 (evBL l).length c24 ((evBL l).map bv)) (by repeat first | exact .here _ _ | assumption | apply Pick.there))⟩ (fun w hI => q_mv (.bool _) rfl) ?_
      refine p_yes hap hsel 6 rfl rfl ⟨_, ((hS.pick (A := rowA 5 1 A29 (evBL l).length c29 ((evBL l).map bv)) (by repeat first | exact .here _ _ | assumption | apply Pick.there)).pick (A := rowA 5 1 A24 (evBL l).length c24 ((evBL l).map bv)) (by repeat first | exact .here _ _ | assumption | apply Pick.there))⟩ rfl rfl rfl (fun w hI => q_mv (.int _ _) rfl) ?_
      refine p_yes hap hsel 7 rfl rfl ⟨_, ((hS.pick (A := rowA 5 1 A29 (evBL l).length c29 ((evBL l).map bv)) (by repeat first | exact .here _ _ | assumption | apply Pick.there)).pick (A := rowA 5 1 A24 (evBL l).length c24 ((evBL l).map bv)) (by repeat first | exact .here _ _ | assumption | apply Pick.there))⟩ rfl rfl rfl (fun w hI => q_mv (.int _ _) rfl) ?_
      refine p_yes hap hsel 8 rfl rfl ⟨_, ((hS.pick (A := rowA 5 1 A29 (evBL l).length c29 ((evBL l).map bv)) (by repeat first | exact .here _ _ | assumption | apply Pick.there)).pick (A := rowA 5 1 A24 (evBL l).length c24 ((evBL l).map bv)) (by repeat first | exact .here _ _ | assumption | apply Pick.there))⟩ rfl rfl rfl (fun w hI => (q_cast (v' := .bool false) (q_neq rfl rfl) (by simp))) ?_
      refine p_q hap hsel 9 rfl rfl ⟨_, ((hS.pick (A := rowA 5 1 A29 (evBL l).length c29 ((evBL l).map bv)) (by repeat first | exact .here _ _ | assumption | apply Pick.there)).pick (A := rowA 5 1 A24 (evBL l).length c24 ((evBL l).map bv)) (by repeat first | exact .here _ _ | assumption | apply Pick.there))⟩ (fun w hI => q_pick_f rfl rfl) ?_
      refine p_q hap hsel 10 rfl rfl ⟨_, ((hS.pick (A := rowA 5 1 A29 (evBL l).length c29 ((evBL l).map bv)) (by repeat first | exact .here _ _ | assumption | apply Pick.there)).pick (A := rowA 5 1 A24 (evBL l).length c24 ((evBL l).map bv)) (by repeat first | exact .here _ _ | assumption | apply Pick.there))⟩ (fun w hI => q_mv (.bool _) rfl) ?_
      refine p_yes hap hsel 13 rfl rfl ⟨_, ((hS.pick (A := rowA 5 1 A29 (evBL l).length c29 ((evBL l).map bv)) (by repeat first | exact .here _ _ | assumption | apply Pick.there)).pick (A := rowA 5 1 A24 (evBL l).length c24 ((evBL l).map bv)) (by repeat first | exact .here _ _ | assumption | apply Pick.there))⟩ rfl rfl rfl (fun w hI => q_mv (.slice _ _ _) rfl) ?_
      refine p_one 11 rfl (by kernel_rfl) ?_
      refine t_yes rfl rfl rfl ?_
      refine t_call Try.call50 (Bytes_calls hS (by repeat first | exact .here _ _ | assumption | apply Pick.there) (by omega)) rfl ?_
      rintro e w ⟨A45, c45, rfl, hc45, hS⟩
      refine ⟨_, rfl, ?_⟩
      refine t_nil ?_
      refine ⟨.inr ⟨_, ((hS.pick (A := rowA 5 1 A29 (evBL l).length c29 ((evBL l).map bv)) (by repeat first | exact .here _ _ | assumption | apply Pick.there)).pick (A := rowA 5 1 A24 (evBL l).length c24 ((evBL l).map bv)) (by repeat first | exact .here _ _ | assumption | apply Pick.there))⟩, ?_⟩
      refine p_two 12 14 rfl rfl (by kernel_rfl) ?_ ?_
      ·
        refine t_yes rfl rfl rfl ?_
        refine t_q (q_string Try.runUnderlying48 Try.runUnderlying5 Try.runUnderlying9 rfl rfl (hS.rowRd (A := A45) (c := c45) (bs := evsB l) (by repeat first | exact .here _ _ | assumption | apply Pick.there) rfl)) ?_
        refine t_nil ?_
        refine ⟨.inr ⟨_, ((hS.pick (A := rowA 5 1 A29 (evBL l).length c29 ((evBL l).map bv)) (by repeat first | exact .here _ _ | assumption | apply Pick.there)).pick (A := rowA 5 1 A24 (evBL l).length c24 ((evBL l).map bv)) (by repeat first | exact .here _ _ | assumption | apply Pick.there))⟩, ?_⟩
        refine p_one 14 rfl (by kernel_rfl) ?_
        refine t_yes rfl rfl rfl ?_
        refine t_call Try.call99 (qeput_calls (hl.st hS) hin (by omega)) rfl ?_
        rintro e w ⟨A48, m48, c48, rfl, hm48, hT⟩
        refine ⟨_, rfl, ?_⟩
        have hS : St W w (_ :: _) := hS.lift hT
        subst hm48
        refine t_nil ?_
        refine ⟨.inr ⟨_, ((hS.pick (A := rowA 5 1 A29 (evBL l).length c29 ((evBL l).map bv)) (by repeat first | exact .here _ _ | assumption | apply Pick.there)).pick (A := rowA 5 1 A24 (evBL l).length c24 ((evBL l).map bv)) (by repeat first | exact .here _ _ | assumption | apply Pick.there))⟩, ?_⟩
        refine p_one 15 rfl (by kernel_rfl) ?_
        refine t_yes rfl rfl rfl ?_
        refine t_q (q_string Try.runUnderlying48 Try.runUnderlying5 Try.runUnderlying9 rfl rfl (hS.rowRd (A := A48) (c := c48) (bs := evsB l) (by repeat first | exact .here _ _ | assumption | apply Pick.there) rfl)) ?_
        refine t_nil ?_
        refine ⟨.inr ⟨_, ((hS.pick (A := rowA 5 1 A29 (evBL l).length c29 ((evBL l).map bv)) (by repeat first | exact .here _ _ | assumption | apply Pick.there)).pick (A := rowA 5 1 A24 (evBL l).length c24 ((evBL l).map bv)) (by repeat first | exact .here _ _ | assumption | apply Pick.there))⟩, ?_⟩
        refine p_yes hap hsel 16 rfl rfl ⟨_, ((hS.pick (A := rowA 5 1 A29 (evBL l).length c29 ((evBL l).map bv)) (by repeat first | exact .here _ _ | assumption | apply Pick.there)).pick (A := rowA 5 1 A24 (evBL l).length c24 ((evBL l).map bv)) (by repeat first | exact .here _ _ | assumption | apply Pick.there))⟩ rfl rfl rfl (fun w hI => (q_cast (v' := .bool false) (q_neq_string rfl rfl) (by simp))) ?_
        refine p_q hap hsel 17 rfl rfl ⟨_, ((hS.pick (A := rowA 5 1 A29 (evBL l).length c29 ((evBL l).map bv)) (by repeat first | exact .here _ _ | assumption | apply Pick.there)).pick (A := rowA 5 1 A24 (evBL l).length c24 ((evBL l).map bv)) (by repeat first | exact .here _ _ | assumption | apply Pick.there))⟩ (fun w hI => q_pick_f rfl rfl) ?_
        refine p_end (by kernel_rfl) ?_
        refine c_cond_f rfl rfl ?_
        refine c_skip ?_
        refine c_seq ?_
        refine c_seq ?_
        refine c_region ?_
        refine t_q (q_mv (.int _ _) rfl) ?_
        refine t_q (q_neq rfl rfl) ?_
        refine t_nil ?_
        refine c_cond rfl ?_ ?_
        · intro hc20
          have hc20d := of_decide_eq_true hc20
          refine c_seq ?_
          refine c_region ?_
          refine t_call Try.call95 (elives_calls) rfl ?_
          rintro e w ⟨rfl, hT⟩
          refine ⟨_, rfl, ?_⟩
          replace hS := hS.after hT
          refine t_q (q_as (.bool _) rfl) ?_
          refine t_nil ?_
          refine c_ret ?_
          refine r_one rfl rfl ?_
          exact ⟨rfl, hS.nil⟩
        · intro hc20
          have hc20d := of_decide_eq_false hc20
          have he0 : evE l = 0 := by omega
          obtain ⟨h256, hkd⟩ := evE_zero he0
          have hbl := evBL_of he0
          have hbll := congrArg List.length hbl
          refine c_skip ?_
          refine c_seq ?_
          refine c_region ?_
          refine t_build_bytes [] Try.runUnderlying48 Try.sizeOf5 Try.zeroValue5 rfl rfl (by simp; try omega) (by decide) hS (fun g55 w hS => ?_)
          refine t_q (q_mv (.slice _ _ _) rfl) ?_
          refine t_append (size := 1) (bytes := 1) Try.underlying48 (info_of Try.type5) rfl rfl rfl rfl (by decide) hS (by repeat first | exact .here _ _ | assumption | apply Pick.there) (hS.rowRd (A := A24) (c := c24) (bs := evBL l) (by repeat first | exact .here _ _ | assumption | apply Pick.there) rfl) rfl rfl (fun _ _ => rfl) (by unfold maxLen; omega) (by omega) (fun A57 c57 w hS => ?_)
          rw [flat_bsf] at hS
          refine t_q (q_mv (.slice _ _ _) rfl) ?_
          refine t_append (size := 1) (bytes := 1) Try.underlying48 (info_of Try.type5) rfl rfl rfl rfl (by decide) hS (by repeat first | exact .here _ _ | assumption | apply Pick.there) (hmore.st hS) rfl rfl (fun _ _ => rfl) (by unfold maxLen; omega) (by omega) (fun A59 c59 w hS => ?_)
          rw [flat_bsf] at hS
          replace hS := hS.recast (congrArg (rowA 5 1 A59 _ c59) (show _ = (evBL l ++ more).map bv from by rw [List.map_append]; rfl))
          have hcap := hS.row_le (.here _ _)
          have hlen : 0 + (evBL l).length + more.length = (evBL l ++ more).length := by rw [List.length_append, Nat.zero_add]
          rw [hlen] at hcap
          have hS0 := hS
          obtain ⟨w1, hw1⟩ : ∃ x, x = w := ⟨_, rfl⟩
          subst hw1
          have hb1 := hS.rowRd (bs := evBL l ++ more) (.here _ _) hlen
          replace hS := St.init w1
          refine t_call Try.call58 (Open_calls (bs := evBL l ++ more) hS hb1 ⟨hcap, by rw [List.length_append]; omega⟩) (congrArg (fun n => [Value.slice A59 n c59]) hlen) ?_
          rintro e w ⟨gR, rfl, hS⟩
          refine ⟨_, rfl, ?_⟩
          replace hS := hS.recast (congrArg (fun b => rdrA w1 106 gR ⟨b, false⟩) (show evBL l ++ more = evsB l ++ more from by rw [hbl]))
          refine t_q (q_as (.pointer _) rfl) ?_
          refine t_nil ?_
          refine c_seq ?_
          refine c_region ?_
          refine t_q (q_mv (.pointer _) rfl) ?_
          refine t_call Try.call100 (eback_calls hS (.here _ _) h256 hin hkd) rfl ?_
          rintro e w ⟨A63, c63, rfl, hS⟩
          refine ⟨_, rfl, ?_⟩
          replace hS := hS0.lift hS
          refine t_q (q_mv (.tuple _) rfl) ?_
          refine t_q (q_extract rfl rfl) ?_
          refine t_q (q_extract rfl rfl) ?_
          refine t_q (q_as (.slice _ _ _) rfl) ?_
          refine t_q (q_as (.bool _) rfl) ?_
          refine t_nil ?_
          refine c_seq ?_
          refine c_region ?_
          refine t_q (q_mv (.bool _) rfl) ?_
          refine t_q (q_mv (.bool _) rfl) ?_
          refine t_yes rfl rfl rfl ?_
          refine t_q (q_mv (.slice _ _ _) rfl) ?_
          refine t_yes rfl rfl rfl ?_
          refine t_q (q_mv (.slice _ _ _) rfl) ?_
          refine t_yes rfl rfl rfl ?_
          refine t_call Try.call101 (same_self_calls (hl.st hS) (rowRdE (A := A63) (c := c63) (l := l) hS (by repeat first | exact .here _ _ | assumption | apply Pick.there) rfl) hin (by omega)) rfl ?_
          rintro e w ⟨rfl, hT⟩
          refine ⟨_, rfl, ?_⟩
          replace hS := hS.after hT
          refine t_q (q_pick_t rfl rfl) ?_
          refine t_q (q_mv (.bool _) rfl) ?_
          refine t_yes rfl rfl rfl ?_
          refine t_q (q_mv (.pointer _) rfl) ?_
          refine t_yes rfl rfl rfl ?_
          refine t_call Try.call69 (rLeft hS (by repeat first | exact .here _ _ | assumption | apply Pick.there)) rfl ?_
          rintro e w ⟨rfl, hS⟩
          refine ⟨_, rfl, ?_⟩
          refine t_yes rfl rfl rfl ?_
          refine t_q (q_mv (.slice _ _ _) rfl) ?_
          refine t_yes rfl rfl rfl ?_
          refine t_q (q_len_slice Try.runUnderlying48 rfl) ?_
          refine t_yes rfl rfl rfl ?_
          refine t_q (q_cast (v' := .bool true) (q_eql rfl rfl) (by simp)) ?_
          refine t_q (q_pick_t rfl rfl) ?_
          refine t_q (q_mv (.bool _) rfl) ?_
          refine t_yes rfl rfl rfl ?_
          refine t_call Try.call95 (elives_calls) rfl ?_
          rintro e w ⟨rfl, hT⟩
          refine ⟨_, rfl, ?_⟩
          replace hS := hS.after hT
          refine t_q (q_pick_t rfl rfl) ?_
          refine t_q (q_as (.bool _) rfl) ?_
          refine t_nil ?_
          refine c_ret ?_
          refine r_one rfl rfl ?_
          exact ⟨rfl, hS.nil⟩
      ·
        refine t_yes rfl rfl rfl ?_
        refine t_call Try.call99 (qeput_calls (hl.st hS) hin (by omega)) rfl ?_
        rintro e w ⟨A48, m48, c48, rfl, hm48, hT⟩
        refine ⟨_, rfl, ?_⟩
        have hS : St W w (_ :: _) := hS.lift hT
        subst hm48
        refine t_nil ?_
        refine ⟨.inr ⟨_, ((hS.pick (A := rowA 5 1 A29 (evBL l).length c29 ((evBL l).map bv)) (by repeat first | exact .here _ _ | assumption | apply Pick.there)).pick (A := rowA 5 1 A24 (evBL l).length c24 ((evBL l).map bv)) (by repeat first | exact .here _ _ | assumption | apply Pick.there))⟩, ?_⟩
        refine p_two 12 15 rfl rfl (by kernel_rfl) ?_ ?_
        ·
          refine t_yes rfl rfl rfl ?_
          refine t_q (q_string Try.runUnderlying48 Try.runUnderlying5 Try.runUnderlying9 rfl rfl (hS.rowRd (A := A45) (c := c45) (bs := evsB l) (by repeat first | exact .here _ _ | assumption | apply Pick.there) rfl)) ?_
          refine t_nil ?_
          refine ⟨.inr ⟨_, ((hS.pick (A := rowA 5 1 A29 (evBL l).length c29 ((evBL l).map bv)) (by repeat first | exact .here _ _ | assumption | apply Pick.there)).pick (A := rowA 5 1 A24 (evBL l).length c24 ((evBL l).map bv)) (by repeat first | exact .here _ _ | assumption | apply Pick.there))⟩, ?_⟩
          refine p_one 15 rfl (by kernel_rfl) ?_
          refine t_yes rfl rfl rfl ?_
          refine t_q (q_string Try.runUnderlying48 Try.runUnderlying5 Try.runUnderlying9 rfl rfl (hS.rowRd (A := A48) (c := c48) (bs := evsB l) (by repeat first | exact .here _ _ | assumption | apply Pick.there) rfl)) ?_
          refine t_nil ?_
          refine ⟨.inr ⟨_, ((hS.pick (A := rowA 5 1 A29 (evBL l).length c29 ((evBL l).map bv)) (by repeat first | exact .here _ _ | assumption | apply Pick.there)).pick (A := rowA 5 1 A24 (evBL l).length c24 ((evBL l).map bv)) (by repeat first | exact .here _ _ | assumption | apply Pick.there))⟩, ?_⟩
          refine p_yes hap hsel 16 rfl rfl ⟨_, ((hS.pick (A := rowA 5 1 A29 (evBL l).length c29 ((evBL l).map bv)) (by repeat first | exact .here _ _ | assumption | apply Pick.there)).pick (A := rowA 5 1 A24 (evBL l).length c24 ((evBL l).map bv)) (by repeat first | exact .here _ _ | assumption | apply Pick.there))⟩ rfl rfl rfl (fun w hI => (q_cast (v' := .bool false) (q_neq_string rfl rfl) (by simp))) ?_
          refine p_q hap hsel 17 rfl rfl ⟨_, ((hS.pick (A := rowA 5 1 A29 (evBL l).length c29 ((evBL l).map bv)) (by repeat first | exact .here _ _ | assumption | apply Pick.there)).pick (A := rowA 5 1 A24 (evBL l).length c24 ((evBL l).map bv)) (by repeat first | exact .here _ _ | assumption | apply Pick.there))⟩ (fun w hI => q_pick_f rfl rfl) ?_
          refine p_end (by kernel_rfl) ?_
          refine c_cond_f rfl rfl ?_
          refine c_skip ?_
          refine c_seq ?_
          refine c_seq ?_
          refine c_region ?_
          refine t_q (q_mv (.int _ _) rfl) ?_
          refine t_q (q_neq rfl rfl) ?_
          refine t_nil ?_
          refine c_cond rfl ?_ ?_
          · intro hc33
            have hc33d := of_decide_eq_true hc33
            refine c_seq ?_
            refine c_region ?_
            refine t_call Try.call95 (elives_calls) rfl ?_
            rintro e w ⟨rfl, hT⟩
            refine ⟨_, rfl, ?_⟩
            replace hS := hS.after hT
            refine t_q (q_as (.bool _) rfl) ?_
            refine t_nil ?_
            refine c_ret ?_
            refine r_one rfl rfl ?_
            exact ⟨rfl, hS.nil⟩
          · intro hc33
            have hc33d := of_decide_eq_false hc33
            have he0 : evE l = 0 := by omega
            obtain ⟨h256, hkd⟩ := evE_zero he0
            have hbl := evBL_of he0
            have hbll := congrArg List.length hbl
            refine c_skip ?_
            refine c_seq ?_
            refine c_region ?_
            refine t_build_bytes [] Try.runUnderlying48 Try.sizeOf5 Try.zeroValue5 rfl rfl (by simp; try omega) (by decide) hS (fun g55 w hS => ?_)
            refine t_q (q_mv (.slice _ _ _) rfl) ?_
            refine t_append (size := 1) (bytes := 1) Try.underlying48 (info_of Try.type5) rfl rfl rfl rfl (by decide) hS (by repeat first | exact .here _ _ | assumption | apply Pick.there) (hS.rowRd (A := A24) (c := c24) (bs := evBL l) (by repeat first | exact .here _ _ | assumption | apply Pick.there) rfl) rfl rfl (fun _ _ => rfl) (by unfold maxLen; omega) (by omega) (fun A57 c57 w hS => ?_)
            rw [flat_bsf] at hS
            refine t_q (q_mv (.slice _ _ _) rfl) ?_
            refine t_append (size := 1) (bytes := 1) Try.underlying48 (info_of Try.type5) rfl rfl rfl rfl (by decide) hS (by repeat first | exact .here _ _ | assumption | apply Pick.there) (hmore.st hS) rfl rfl (fun _ _ => rfl) (by unfold maxLen; omega) (by omega) (fun A59 c59 w hS => ?_)
            rw [flat_bsf] at hS
            replace hS := hS.recast (congrArg (rowA 5 1 A59 _ c59) (show _ = (evBL l ++ more).map bv from by rw [List.map_append]; rfl))
            have hcap := hS.row_le (.here _ _)
            have hlen : 0 + (evBL l).length + more.length = (evBL l ++ more).length := by rw [List.length_append, Nat.zero_add]
            rw [hlen] at hcap
            have hS0 := hS
            obtain ⟨w1, hw1⟩ : ∃ x, x = w := ⟨_, rfl⟩
            subst hw1
            have hb1 := hS.rowRd (bs := evBL l ++ more) (.here _ _) hlen
            replace hS := St.init w1
            refine t_call Try.call58 (Open_calls (bs := evBL l ++ more) hS hb1 ⟨hcap, by rw [List.length_append]; omega⟩) (congrArg (fun n => [Value.slice A59 n c59]) hlen) ?_
            rintro e w ⟨gR, rfl, hS⟩
            refine ⟨_, rfl, ?_⟩
            replace hS := hS.recast (congrArg (fun b => rdrA w1 106 gR ⟨b, false⟩) (show evBL l ++ more = evsB l ++ more from by rw [hbl]))
            refine t_q (q_as (.pointer _) rfl) ?_
            refine t_nil ?_
            refine c_seq ?_
            refine c_region ?_
            refine t_q (q_mv (.pointer _) rfl) ?_
            refine t_call Try.call100 (eback_calls hS (.here _ _) h256 hin hkd) rfl ?_
            rintro e w ⟨A63, c63, rfl, hS⟩
            refine ⟨_, rfl, ?_⟩
            replace hS := hS0.lift hS
            refine t_q (q_mv (.tuple _) rfl) ?_
            refine t_q (q_extract rfl rfl) ?_
            refine t_q (q_extract rfl rfl) ?_
            refine t_q (q_as (.slice _ _ _) rfl) ?_
            refine t_q (q_as (.bool _) rfl) ?_
            refine t_nil ?_
            refine c_seq ?_
            refine c_region ?_
            refine t_q (q_mv (.bool _) rfl) ?_
            refine t_q (q_mv (.bool _) rfl) ?_
            refine t_yes rfl rfl rfl ?_
            refine t_q (q_mv (.slice _ _ _) rfl) ?_
            refine t_yes rfl rfl rfl ?_
            refine t_q (q_mv (.slice _ _ _) rfl) ?_
            refine t_yes rfl rfl rfl ?_
            refine t_call Try.call101 (same_self_calls (hl.st hS) (rowRdE (A := A63) (c := c63) (l := l) hS (by repeat first | exact .here _ _ | assumption | apply Pick.there) rfl) hin (by omega)) rfl ?_
            rintro e w ⟨rfl, hT⟩
            refine ⟨_, rfl, ?_⟩
            replace hS := hS.after hT
            refine t_q (q_pick_t rfl rfl) ?_
            refine t_q (q_mv (.bool _) rfl) ?_
            refine t_yes rfl rfl rfl ?_
            refine t_q (q_mv (.pointer _) rfl) ?_
            refine t_yes rfl rfl rfl ?_
            refine t_call Try.call69 (rLeft hS (by repeat first | exact .here _ _ | assumption | apply Pick.there)) rfl ?_
            rintro e w ⟨rfl, hS⟩
            refine ⟨_, rfl, ?_⟩
            refine t_yes rfl rfl rfl ?_
            refine t_q (q_mv (.slice _ _ _) rfl) ?_
            refine t_yes rfl rfl rfl ?_
            refine t_q (q_len_slice Try.runUnderlying48 rfl) ?_
            refine t_yes rfl rfl rfl ?_
            refine t_q (q_cast (v' := .bool true) (q_eql rfl rfl) (by simp)) ?_
            refine t_q (q_pick_t rfl rfl) ?_
            refine t_q (q_mv (.bool _) rfl) ?_
            refine t_yes rfl rfl rfl ?_
            refine t_call Try.call95 (elives_calls) rfl ?_
            rintro e w ⟨rfl, hT⟩
            refine ⟨_, rfl, ?_⟩
            replace hS := hS.after hT
            refine t_q (q_pick_t rfl rfl) ?_
            refine t_q (q_as (.bool _) rfl) ?_
            refine t_nil ?_
            refine c_ret ?_
            refine r_one rfl rfl ?_
            exact ⟨rfl, hS.nil⟩
        ·
          refine t_yes rfl rfl rfl ?_
          refine t_q (q_string Try.runUnderlying48 Try.runUnderlying5 Try.runUnderlying9 rfl rfl (hS.rowRd (A := A48) (c := c48) (bs := evsB l) (by repeat first | exact .here _ _ | assumption | apply Pick.there) rfl)) ?_
          refine t_nil ?_
          refine ⟨.inr ⟨_, ((hS.pick (A := rowA 5 1 A29 (evBL l).length c29 ((evBL l).map bv)) (by repeat first | exact .here _ _ | assumption | apply Pick.there)).pick (A := rowA 5 1 A24 (evBL l).length c24 ((evBL l).map bv)) (by repeat first | exact .here _ _ | assumption | apply Pick.there))⟩, ?_⟩
          refine p_one 12 rfl (by kernel_rfl) ?_
          refine t_yes rfl rfl rfl ?_
          refine t_q (q_string Try.runUnderlying48 Try.runUnderlying5 Try.runUnderlying9 rfl rfl (hS.rowRd (A := A45) (c := c45) (bs := evsB l) (by repeat first | exact .here _ _ | assumption | apply Pick.there) rfl)) ?_
          refine t_nil ?_
          refine ⟨.inr ⟨_, ((hS.pick (A := rowA 5 1 A29 (evBL l).length c29 ((evBL l).map bv)) (by repeat first | exact .here _ _ | assumption | apply Pick.there)).pick (A := rowA 5 1 A24 (evBL l).length c24 ((evBL l).map bv)) (by repeat first | exact .here _ _ | assumption | apply Pick.there))⟩, ?_⟩
          refine p_yes hap hsel 16 rfl rfl ⟨_, ((hS.pick (A := rowA 5 1 A29 (evBL l).length c29 ((evBL l).map bv)) (by repeat first | exact .here _ _ | assumption | apply Pick.there)).pick (A := rowA 5 1 A24 (evBL l).length c24 ((evBL l).map bv)) (by repeat first | exact .here _ _ | assumption | apply Pick.there))⟩ rfl rfl rfl (fun w hI => (q_cast (v' := .bool false) (q_neq_string rfl rfl) (by simp))) ?_
          refine p_q hap hsel 17 rfl rfl ⟨_, ((hS.pick (A := rowA 5 1 A29 (evBL l).length c29 ((evBL l).map bv)) (by repeat first | exact .here _ _ | assumption | apply Pick.there)).pick (A := rowA 5 1 A24 (evBL l).length c24 ((evBL l).map bv)) (by repeat first | exact .here _ _ | assumption | apply Pick.there))⟩ (fun w hI => q_pick_f rfl rfl) ?_
          refine p_end (by kernel_rfl) ?_
          refine c_cond_f rfl rfl ?_
          refine c_skip ?_
          refine c_seq ?_
          refine c_seq ?_
          refine c_region ?_
          refine t_q (q_mv (.int _ _) rfl) ?_
          refine t_q (q_neq rfl rfl) ?_
          refine t_nil ?_
          refine c_cond rfl ?_ ?_
          · intro hc45
            have hc45d := of_decide_eq_true hc45
            refine c_seq ?_
            refine c_region ?_
            refine t_call Try.call95 (elives_calls) rfl ?_
            rintro e w ⟨rfl, hT⟩
            refine ⟨_, rfl, ?_⟩
            replace hS := hS.after hT
            refine t_q (q_as (.bool _) rfl) ?_
            refine t_nil ?_
            refine c_ret ?_
            refine r_one rfl rfl ?_
            exact ⟨rfl, hS.nil⟩
          · intro hc45
            have hc45d := of_decide_eq_false hc45
            have he0 : evE l = 0 := by omega
            obtain ⟨h256, hkd⟩ := evE_zero he0
            have hbl := evBL_of he0
            have hbll := congrArg List.length hbl
            refine c_skip ?_
            refine c_seq ?_
            refine c_region ?_
            refine t_build_bytes [] Try.runUnderlying48 Try.sizeOf5 Try.zeroValue5 rfl rfl (by simp; try omega) (by decide) hS (fun g55 w hS => ?_)
            refine t_q (q_mv (.slice _ _ _) rfl) ?_
            refine t_append (size := 1) (bytes := 1) Try.underlying48 (info_of Try.type5) rfl rfl rfl rfl (by decide) hS (by repeat first | exact .here _ _ | assumption | apply Pick.there) (hS.rowRd (A := A24) (c := c24) (bs := evBL l) (by repeat first | exact .here _ _ | assumption | apply Pick.there) rfl) rfl rfl (fun _ _ => rfl) (by unfold maxLen; omega) (by omega) (fun A57 c57 w hS => ?_)
            rw [flat_bsf] at hS
            refine t_q (q_mv (.slice _ _ _) rfl) ?_
            refine t_append (size := 1) (bytes := 1) Try.underlying48 (info_of Try.type5) rfl rfl rfl rfl (by decide) hS (by repeat first | exact .here _ _ | assumption | apply Pick.there) (hmore.st hS) rfl rfl (fun _ _ => rfl) (by unfold maxLen; omega) (by omega) (fun A59 c59 w hS => ?_)
            rw [flat_bsf] at hS
            replace hS := hS.recast (congrArg (rowA 5 1 A59 _ c59) (show _ = (evBL l ++ more).map bv from by rw [List.map_append]; rfl))
            have hcap := hS.row_le (.here _ _)
            have hlen : 0 + (evBL l).length + more.length = (evBL l ++ more).length := by rw [List.length_append, Nat.zero_add]
            rw [hlen] at hcap
            have hS0 := hS
            obtain ⟨w1, hw1⟩ : ∃ x, x = w := ⟨_, rfl⟩
            subst hw1
            have hb1 := hS.rowRd (bs := evBL l ++ more) (.here _ _) hlen
            replace hS := St.init w1
            refine t_call Try.call58 (Open_calls (bs := evBL l ++ more) hS hb1 ⟨hcap, by rw [List.length_append]; omega⟩) (congrArg (fun n => [Value.slice A59 n c59]) hlen) ?_
            rintro e w ⟨gR, rfl, hS⟩
            refine ⟨_, rfl, ?_⟩
            replace hS := hS.recast (congrArg (fun b => rdrA w1 106 gR ⟨b, false⟩) (show evBL l ++ more = evsB l ++ more from by rw [hbl]))
            refine t_q (q_as (.pointer _) rfl) ?_
            refine t_nil ?_
            refine c_seq ?_
            refine c_region ?_
            refine t_q (q_mv (.pointer _) rfl) ?_
            refine t_call Try.call100 (eback_calls hS (.here _ _) h256 hin hkd) rfl ?_
            rintro e w ⟨A63, c63, rfl, hS⟩
            refine ⟨_, rfl, ?_⟩
            replace hS := hS0.lift hS
            refine t_q (q_mv (.tuple _) rfl) ?_
            refine t_q (q_extract rfl rfl) ?_
            refine t_q (q_extract rfl rfl) ?_
            refine t_q (q_as (.slice _ _ _) rfl) ?_
            refine t_q (q_as (.bool _) rfl) ?_
            refine t_nil ?_
            refine c_seq ?_
            refine c_region ?_
            refine t_q (q_mv (.bool _) rfl) ?_
            refine t_q (q_mv (.bool _) rfl) ?_
            refine t_yes rfl rfl rfl ?_
            refine t_q (q_mv (.slice _ _ _) rfl) ?_
            refine t_yes rfl rfl rfl ?_
            refine t_q (q_mv (.slice _ _ _) rfl) ?_
            refine t_yes rfl rfl rfl ?_
            refine t_call Try.call101 (same_self_calls (hl.st hS) (rowRdE (A := A63) (c := c63) (l := l) hS (by repeat first | exact .here _ _ | assumption | apply Pick.there) rfl) hin (by omega)) rfl ?_
            rintro e w ⟨rfl, hT⟩
            refine ⟨_, rfl, ?_⟩
            replace hS := hS.after hT
            refine t_q (q_pick_t rfl rfl) ?_
            refine t_q (q_mv (.bool _) rfl) ?_
            refine t_yes rfl rfl rfl ?_
            refine t_q (q_mv (.pointer _) rfl) ?_
            refine t_yes rfl rfl rfl ?_
            refine t_call Try.call69 (rLeft hS (by repeat first | exact .here _ _ | assumption | apply Pick.there)) rfl ?_
            rintro e w ⟨rfl, hS⟩
            refine ⟨_, rfl, ?_⟩
            refine t_yes rfl rfl rfl ?_
            refine t_q (q_mv (.slice _ _ _) rfl) ?_
            refine t_yes rfl rfl rfl ?_
            refine t_q (q_len_slice Try.runUnderlying48 rfl) ?_
            refine t_yes rfl rfl rfl ?_
            refine t_q (q_cast (v' := .bool true) (q_eql rfl rfl) (by simp)) ?_
            refine t_q (q_pick_t rfl rfl) ?_
            refine t_q (q_mv (.bool _) rfl) ?_
            refine t_yes rfl rfl rfl ?_
            refine t_call Try.call95 (elives_calls) rfl ?_
            rintro e w ⟨rfl, hT⟩
            refine ⟨_, rfl, ?_⟩
            replace hS := hS.after hT
            refine t_q (q_pick_t rfl rfl) ?_
            refine t_q (q_as (.bool _) rfl) ?_
            refine t_nil ?_
            refine c_ret ?_
            refine r_one rfl rfl ?_
            exact ⟨rfl, hS.nil⟩
end Go.Proofs.Ytcikoealneldkaa
