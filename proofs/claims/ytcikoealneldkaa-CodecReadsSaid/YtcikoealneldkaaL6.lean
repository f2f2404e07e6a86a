/- Any bytes are read as the document says: the walk. -/
import Derived.Test.YtcikoealneldkaaCl
namespace Go.Proofs.Ytcikoealneldkaa
open Go Go.RowKit Go.Lib
variable {W : World}
def endV (n : Nat) (b : Bool) : Int := if b = true ∨ 0 < n then 20 else 0
theorem endV_1 {n : Nat} {b : Bool} (h : b = true) : (20 : Int) = endV n b := by unfold endV; rw [if_pos (.inl h)]
theorem endV_2 {n : Nat} {b : Bool} (h : 0 < n) : (20 : Int) = endV n b := by unfold endV; rw [if_pos (.inr h)]
theorem endV_3 {n : Nat} {b : Bool} (h : b = false) (h0 : ¬ 0 < n) : (0 : Int) = endV n b := by
  unfold endV
  rw [if_neg]
  rintro (h1 | h1)
  · rw [h] at h1; cases h1
  · exact h0 h1

set_option maxRecDepth 100000 in
theorem qEndB {w : World} {L R : List Asn} {g n c : Nat} {A : Option Addr} {b : Bool} (hS : St W w L) (pk : Pick L (blkA g 81 [.slice A n c, .bool b]) R) :
  Calls Try.prog 72 #[.pointer (some ⟨g, 0, none⟩)] w fun e w' => e = .returned (.int .i64 (endV n b)) ∧ St W w' (blkA g 81 [.slice A n c, .bool b] :: R) := by
  replace hS := hS.pick pk
  clear pk
  refine calls_of_wpE (args := [_]) Try.func72 rfl rfl rfl ?_
  refine c_seq ?_
  refine c_region ?_
  refine t_q (q_assign) ?_
  refine t_nil ?_
  refine c_seq ?_
  refine c_seq ?_
  refine c_region ?_
  refine t_q (q_mv (.pointer _) rfl) ?_
  refine t_q (q_nilCheck rfl) ?_
  refine t_q (q_fieldAddr 1 Try.runUnderlying81 rfl Try.sizeOf4 (by decide) rfl rfl) ?_
  refine t_q (q_load1 Try.isAgg4 rfl (hS.cell (by repeat first | exact .here _ _ | assumption | apply Pick.there) rfl)) ?_
  refine t_q (q_mv (.bool _) rfl) ?_
  refine t_case 7 rfl ?_ ?_
  · intro hg2
    refine t_no rfl rfl (by rw [hg2]; decide) ?_
    refine t_no rfl rfl (by rw [hg2]; decide) ?_
    refine t_no rfl rfl (by rw [hg2]; decide) ?_
    refine t_no rfl rfl (by rw [hg2]; decide) ?_
    refine t_no rfl rfl (by rw [hg2]; decide) ?_
    refine t_no rfl rfl (by rw [hg2]; decide) ?_
    refine t_q (q_pick_t rfl hg2) ?_
    refine t_nil ?_
    refine c_cond_t rfl rfl ?_
    refine c_seq ?_
    refine c_region ?_
    refine t_q (q_assign) ?_
    refine t_nil ?_
    refine c_ret ?_
    refine r_one rfl rfl ?_
    refine ⟨congrArg (fun n => Ending.returned (.int .i64 n)) ?_, hS⟩
    first | exact endV_1 (by assumption) | exact endV_2 (by omega) | exact endV_3 (by assumption) (by omega)
  · intro hg2
    refine t_yes rfl rfl hg2 ?_
    refine t_q (q_mv (.pointer _) rfl) ?_
    refine t_yes rfl rfl hg2 ?_
    refine t_q (q_nilCheck rfl) ?_
    refine t_yes rfl rfl hg2 ?_
    refine t_q (q_fieldAddr 0 Try.runUnderlying81 rfl Try.sizeOf48 (by decide) rfl rfl) ?_
    refine t_yes rfl rfl hg2 ?_
    refine t_q (q_load1 Try.isAgg48 rfl (hS.cell (by repeat first | exact .here _ _ | assumption | apply Pick.there) rfl)) ?_
    refine t_yes rfl rfl hg2 ?_
    refine t_q (q_len_slice Try.runUnderlying48 rfl) ?_
    refine t_yes rfl rfl hg2 ?_
    refine t_q (q_gtr rfl rfl) ?_
    refine t_q (q_pick_f rfl hg2) ?_
    refine t_nil ?_
    refine c_cond rfl ?_ ?_
    · intro hc4
      have hc4d := of_decide_eq_true hc4
      refine c_seq ?_
      refine c_region ?_
      refine t_q (q_assign) ?_
      refine t_nil ?_
      refine c_ret ?_
      refine r_one rfl rfl ?_
      refine ⟨congrArg (fun n => Ending.returned (.int .i64 n)) ?_, hS⟩
      first | exact endV_1 (by assumption) | exact endV_2 (by omega) | exact endV_3 (by assumption) (by omega)
    · intro hc4
      have hc4d := of_decide_eq_false hc4
      refine c_skip ?_
      refine c_seq ?_
      refine c_region ?_
      refine t_q (q_assign) ?_
      refine t_nil ?_
      refine c_ret ?_
      refine r_one rfl rfl ?_
      refine ⟨congrArg (fun n => Ending.returned (.int .i64 n)) ?_, hS⟩
      first | exact endV_1 (by assumption) | exact endV_2 (by omega) | exact endV_3 (by assumption) (by omega)
set_option maxRecDepth 100000 in
theorem CodecReads_calls {A B : Option Addr} {c c' : Nat} {bs : List UInt8} {l : List Item} (hR : RdB W A bs) (hc : bs.length ≤ c ∧ c ≤ 9223372036854775807) (hl : RdIt W B l) (hm : l.length ≤ maxLen) (hok : ∀ x ∈ l, x.Ok W) :
  Calls Try.prog 6 #[.slice A bs.length c, .slice B l.length c'] W fun e w' => e = .returned (.bool true) ∧ St W w' [] := by
  have hS := St.init W
  refine calls_of_wpE (args := [_, _]) Try.func6 rfl rfl rfl ?_
  refine c_seq ?_
  refine c_region ?_
  refine t_q (q_assign) ?_
  refine t_nil ?_
  refine c_seq ?_
  refine c_cut [10, 11, 12, 13, 14, 15, 16, 17] (fun σ w => ∃ t : Bool, σ 17 = .bool t ∧ (t = false → bs.length ≤ 2000 ∧ lightB l = true) ∧ St W w []) rfl ?_ ?_
  ·
    refine c_region ?_
    refine t_q (q_mv (.slice _ _ _) rfl) ?_
    refine t_q (q_len_slice Try.runUnderlying48 rfl) ?_
    refine t_q (q_gtr rfl rfl) ?_
    refine t_q (q_mv (.bool _) rfl) ?_
    refine t_case 13 rfl ?_ ?_
    · intro hg2
      have hg2d := of_decide_eq_true hg2
      refine t_no rfl rfl (by rw [hg2]; decide) ?_
      refine t_no rfl rfl (by rw [hg2]; decide) ?_
      refine t_no rfl rfl (by rw [hg2]; decide) ?_
      refine t_q (q_pick_t rfl hg2) ?_
      refine t_nil ?_
      first | exact ⟨true, rfl, fun h => (by cases h), hS⟩ | exact ⟨_, rfl, fun h => ⟨by omega, by simpa using h⟩, hS⟩
    · intro hg2
      have hg2d := of_decide_eq_false hg2
      refine t_yes rfl rfl hg2 ?_
      refine t_q (q_mv (.slice _ _ _) rfl) ?_
      refine t_yes rfl rfl hg2 ?_
      refine t_call Try.call40 (light_calls (hl.st hS) hm) rfl ?_
      rintro e w ⟨rfl, hT⟩
      refine ⟨_, rfl, ?_⟩
      replace hS := hS.after hT
      refine t_yes rfl rfl hg2 ?_
      refine t_q (q_not rfl) ?_
      refine t_q (q_pick_f rfl hg2) ?_
      refine t_nil ?_
      first | exact ⟨true, rfl, fun h => (by cases h), hS⟩ | exact ⟨_, rfl, fun h => ⟨by omega, by simpa using h⟩, hS⟩
  ·
    rintro σ w ⟨t, h17, hlim, hS⟩
    refine c_know 17 h17 ?_
    refine c_cond rfl ?_ ?_
    · intro hc5
      refine c_seq ?_
      refine c_region ?_
      refine t_call Try.call41 (lives_calls) rfl ?_
      rintro e w ⟨rfl, hT⟩
      refine ⟨_, rfl, ?_⟩
      replace hS := hS.after hT
      refine t_q (q_as (.bool _) rfl) ?_
      refine t_nil ?_
      refine c_ret ?_
      refine r_one rfl rfl ?_
      exact ⟨rfl, hS.nil⟩
    · intro hc5
      obtain ⟨h2000, hb⟩ := hlim hc5
      have h60 := light_len hb
      refine c_skip ?_
      refine c_seq ?_
      refine c_region ?_
      refine t_q (q_mv (.slice _ _ _) rfl) ?_
      refine t_call Try.call58 (Open_calls hS hR hc) rfl ?_
      rintro e w ⟨g20, rfl, hS⟩
      refine ⟨_, rfl, ?_⟩
      refine t_q (q_mv (.slice _ _ _) rfl) ?_
      refine t_q (q_build (qs := [(0, 1), (1, 1)]) [(.slice _ _ _), (.bool _)] Try.zeroValue81 Try.runUnderlying81 ⟨rfl, Try.sizeOf48, rfl, Try.sizeOf4, trivial⟩ rfl rfl) ?_
      refine t_box (v := (.agg _)) rfl rfl hS (fun g23 w hS => ?_)
      refine t_q (q_as (.pointer _) rfl) ?_
      refine t_q (q_as (.pointer _) rfl) ?_
      refine t_nil ?_
      refine c_seq ?_
      refine c_seq ?_
      refine c_region ?_
      refine t_q (q_mv (.pointer _) rfl) ?_
      refine t_q (q_eql_ptr_nil Try.runUnderlying77 rfl rfl) ?_
      refine t_nil ?_
      refine c_cond_f rfl rfl ?_
      refine c_skip ?_
      refine c_seq ?_
      refine c_seq ?_
      refine c_region ?_
      refine t_q (q_mv (.slice _ _ _) rfl) ?_
      refine t_q (q_len_slice Try.runUnderlying46 rfl) ?_
      refine t_q (q_move) ?_
      refine t_nil ?_
      refine c_block ?_
      refine c_loop [4, 8, 9, 28, 29, 30, 31, 32, 33, 34, 35, 36, 37, 38, 39, 40, 41, 42, 43, 44, 45, 46, 47, 48, 49, 50, 51, 52, 53, 54, 55, 56, 57, 58, 59, 60, 61, 62, 63, 64, 65, 66, 67, 68, 69, 70, 71, 72, 73, 74, 75, 76, 77, 78, 79, 80, 81, 82, 83, 84, 85, 86, 87, 88, 89, 90, 91, 92, 93, 94, 95, 96, 97, 98, 99, 100, 101, 102] (fun k σ w => ∃ (j : Nat) (s : Rs), σ 28 = .int .i64 (j : Int) ∧ j ≤ l.length ∧ l.length - j ≤ k ∧ St W w [rdrA W 81 g23 s, rdrA W 106 g20 s]) (l.length) rfl (⟨0, ⟨bs, false⟩, rfl, by omega, by omega, hS.unrdr rfl rfl hR hc⟩) ?_
      skip
      rintro k σ w ⟨j, s, h28, hj, hk, hS⟩
      refine c_know 28 h28 ?_
      clear h28
      refine c_seq ?_
      refine c_region ?_
      refine t_q (q_lss rfl rfl) ?_
      refine t_nil ?_
      refine c_seq ?_
      refine c_cond rfl ?_ ?_
      · intro hc9
        have hc9d := of_decide_eq_true hc9
        have hjl : j < l.length := by omega
        have hxk := hok _ (getD_mem (l := l) (j := j) (d := default) hjl)
        have hxn := hxk.n
        have hxm := hxk.most
        refine c_skip ?_
        refine c_seq ?_
        refine c_block ?_
        refine c_seq ?_
        refine c_region ?_
        first | refine t_index_nat Try.runUnderlying46 Try.sizeOf52 (hl.st hS) rfl rfl (by omega) (fun ad10 hl10 hx10 => ?_) | refine t_index Try.runUnderlying46 Try.sizeOf52 (hl.st hS) rfl rfl (by omega) (fun ad10 hl10 hx10 => ?_)
        refine t_q (q_loadN Try.isAgg52 Try.sizeOf52 rfl hl10 hx10) ?_
        refine t_alloc Try.zeroValue52 rfl hS (fun g8 w hS => ?_)
        refine t_store (v := (.agg _)) Try.sizeOf52 hS (by repeat first | exact .here _ _ | assumption | apply Pick.there) rfl rfl rfl rfl rfl rfl (fun w hS => ?_)
        replace hS := hS.recast (show blkA g8 52 _ = blkA g8 52 (itf l j) from rfl)
        refine t_nil ?_
        refine c_seq ?_
        refine c_region ?_
        refine t_q (q_assign) ?_
        refine t_nil ?_
        refine c_cut [9, 32, 33, 34, 35, 36, 37, 38, 39, 40, 41, 42, 43, 44, 45, 46, 47, 48, 49, 50, 51, 52, 53, 54, 55, 56, 57, 58, 59, 60, 61, 62, 63, 64, 65, 66, 67, 68, 69, 70, 71, 72, 73] (fun σ w => ∃ s' : Rs, σ 9 = .bool true ∧ St W w [rdrA W 81 g23 s', rdrA W 106 g20 s', blkA g8 52 (itf l j)]) rfl ?_ ?_
        ·
          refine c_seq ?_
          refine c_region ?_
          refine t_q (q_fieldAddr 0 Try.runUnderlying52 rfl Try.sizeOf3 (by decide) rfl rfl) ?_
          refine t_q (q_load1 Try.isAgg3 rfl (hS.cell (by repeat first | exact .here _ _ | assumption | apply Pick.there) rfl)) ?_
          refine t_nil ?_
          refine c_block ?_
          refine c_seq ?_
          refine c_region ?_
          refine t_q (q_eql rfl rfl) ?_
          refine t_q (q_as (.bool _) rfl) ?_
          refine t_nil ?_
          refine c_cond rfl ?_ ?_
          · intro hc12
            have hc12d := of_decide_eq_true hc12
            refine c_draw ?_
            refine d_keep (blkA g8 52 (itf l j)) 10 [0, 1, 2, 3, 4, 5, 6, 7, 8, 9] [0, 1, 2, 3, 4, 5, 6, 7, 8, 9] hS rfl (by kernel_rfl) (by kernel_rfl) (by kernel_rfl) (by kernel_rfl) (fun hap hsel w hS => ?_)
            refine p_q hap hsel 0 rfl rfl ⟨_, hS.pick (by repeat first | exact .here _ _ | assumption | apply Pick.there)⟩ (fun w hI => q_mv (.pointer _) rfl) ?_
            refine p_q hap hsel 1 rfl rfl ⟨_, hS.pick (by repeat first | exact .here _ _ | assumption | apply Pick.there)⟩ (fun w hI => q_fieldAddr 1 Try.runUnderlying52 rfl Try.sizeOf24 (by decide) rfl rfl) ?_
            refine p_q hap hsel 2 rfl rfl ⟨_, hS.pick (by repeat first | exact .here _ _ | assumption | apply Pick.there)⟩ (fun w hI => q_load1 Try.isAgg24 rfl (hI.choose_spec.cell (by repeat first | exact .here _ _ | assumption | apply Pick.there) rfl)) ?_
            refine p_q hap hsel 4 rfl rfl ⟨_, hS.pick (by repeat first | exact .here _ _ | assumption | apply Pick.there)⟩ (fun w hI => q_mv (.pointer _) rfl) ?_
            refine p_q hap hsel 5 rfl rfl ⟨_, hS.pick (by repeat first | exact .here _ _ | assumption | apply Pick.there)⟩ (fun w hI => q_fieldAddr 1 Try.runUnderlying52 rfl Try.sizeOf24 (by decide) rfl rfl) ?_
            refine p_q hap hsel 6 rfl rfl ⟨_, hS.pick (by repeat first | exact .here _ _ | assumption | apply Pick.there)⟩ (fun w hI => q_load1 Try.isAgg24 rfl (hI.choose_spec.cell (by repeat first | exact .here _ _ | assumption | apply Pick.there) rfl)) ?_
            refine p_one 3 rfl (by kernel_rfl) ?_
            refine t_call Try.call59 (rNat hS (by repeat first | exact .here _ _ | assumption | apply Pick.there) (by omega) (by omega)) rfl ?_
            rintro e w ⟨rfl, hS⟩
            refine ⟨_, rfl, ?_⟩
            refine t_nil ?_
            refine ⟨.inr ⟨_, hS.pick (by repeat first | exact .here _ _ | assumption | apply Pick.there)⟩, ?_⟩
            refine p_one 7 rfl (by kernel_rfl) ?_
            refine t_call Try.call60 (qNat hS (by repeat first | exact .here _ _ | assumption | apply Pick.there) (by omega) (by omega)) rfl ?_
            rintro e w ⟨rfl, hS⟩
            refine ⟨_, rfl, ?_⟩
            refine t_nil ?_
            refine ⟨.inr ⟨_, hS.pick (by repeat first | exact .here _ _ | assumption | apply Pick.there)⟩, ?_⟩
            refine p_q hap hsel 8 rfl rfl ⟨_, hS.pick (by repeat first | exact .here _ _ | assumption | apply Pick.there)⟩ (fun w hI => (q_cast (v' := .bool true) (q_eql rfl rfl) (by simp))) ?_
            refine p_q hap hsel 9 rfl rfl ⟨_, hS.pick (by repeat first | exact .here _ _ | assumption | apply Pick.there)⟩ (fun w hI => q_as (.bool _) rfl) ?_
            refine p_end (by kernel_rfl) ?_
            exact ⟨_, rfl, (hS.pick (A := rdrA W 106 g20 _) (by repeat first | exact .here _ _ | assumption | apply Pick.there)).pick (A := rdrA W 81 g23 _) (by repeat first | exact .here _ _ | assumption | apply Pick.there)⟩
          · intro hc12
            have hc12d := of_decide_eq_false hc12
            refine c_seq ?_
            refine c_region ?_
            refine t_q (q_eql rfl rfl) ?_
            refine t_q (q_as (.bool _) rfl) ?_
            refine t_nil ?_
            refine c_cond rfl ?_ ?_
            · intro hc17
              have hc17d := of_decide_eq_true hc17
              refine c_region ?_
              refine t_q (q_mv (.pointer _) rfl) ?_
              refine t_call Try.call61 (rInt hS (by repeat first | exact .here _ _ | assumption | apply Pick.there)) rfl ?_
              rintro e w ⟨rfl, hS⟩
              refine ⟨_, rfl, ?_⟩
              refine t_q (q_mv (.pointer _) rfl) ?_
              refine t_call Try.call62 (qInt hS (by repeat first | exact .here _ _ | assumption | apply Pick.there)) rfl ?_
              rintro e w ⟨rfl, hS⟩
              refine ⟨_, rfl, ?_⟩
              refine t_q (q_cast (v' := .bool true) (q_eql rfl rfl) (by simp)) ?_
              refine t_q (q_as (.bool _) rfl) ?_
              refine t_nil ?_
              exact ⟨_, rfl, (hS.pick (A := rdrA W 106 g20 _) (by repeat first | exact .here _ _ | assumption | apply Pick.there)).pick (A := rdrA W 81 g23 _) (by repeat first | exact .here _ _ | assumption | apply Pick.there)⟩
            · intro hc17
              have hc17d := of_decide_eq_false hc17
              refine c_seq ?_
              refine c_region ?_
              refine t_q (q_eql rfl rfl) ?_
              refine t_q (q_as (.bool _) rfl) ?_
              refine t_nil ?_
              refine c_cond rfl ?_ ?_
              · intro hc22
                have hc22d := of_decide_eq_true hc22
                refine c_region ?_
                refine t_q (q_mv (.pointer _) rfl) ?_
                refine t_call Try.call63 (rFlag hS (by repeat first | exact .here _ _ | assumption | apply Pick.there)) rfl ?_
                rintro e w ⟨rfl, hS⟩
                refine ⟨_, rfl, ?_⟩
                refine t_q (q_mv (.pointer _) rfl) ?_
                refine t_call Try.call64 (qFlag hS (by repeat first | exact .here _ _ | assumption | apply Pick.there)) rfl ?_
                rintro e w ⟨rfl, hS⟩
                refine ⟨_, rfl, ?_⟩
                refine t_q (q_cast (v' := .bool true) (q_eql_bool Try.runUnderlying4 rfl rfl) (by simp)) ?_
                refine t_q (q_as (.bool _) rfl) ?_
                refine t_nil ?_
                exact ⟨_, rfl, (hS.pick (A := rdrA W 106 g20 _) (by repeat first | exact .here _ _ | assumption | apply Pick.there)).pick (A := rdrA W 81 g23 _) (by repeat first | exact .here _ _ | assumption | apply Pick.there)⟩
              · intro hc22
                have hc22d := of_decide_eq_false hc22
                refine c_seq ?_
                refine c_region ?_
                refine t_q (q_eql rfl rfl) ?_
                refine t_q (q_as (.bool _) rfl) ?_
                refine t_nil ?_
                refine c_cond rfl ?_ ?_
                · intro hc27
                  have hc27d := of_decide_eq_true hc27
                  refine c_draw ?_
                  refine d_keep (blkA g8 52 (itf l j)) 10 [0, 1, 2, 3, 4, 5, 6, 7, 8, 9] [0, 1, 2, 3, 4, 5, 6, 7, 8, 9] hS rfl (by kernel_rfl) (by kernel_rfl) (by kernel_rfl) (by kernel_rfl) (fun hap hsel w hS => ?_)
                  refine p_q hap hsel 0 rfl rfl ⟨_, hS.pick (by repeat first | exact .here _ _ | assumption | apply Pick.there)⟩ (fun w hI => q_mv (.pointer _) rfl) ?_
                  refine p_q hap hsel 1 rfl rfl ⟨_, hS.pick (by repeat first | exact .here _ _ | assumption | apply Pick.there)⟩ (fun w hI => q_fieldAddr 5 Try.runUnderlying52 rfl Try.sizeOf3 (by decide) rfl rfl) ?_
                  refine p_q hap hsel 2 rfl rfl ⟨_, hS.pick (by repeat first | exact .here _ _ | assumption | apply Pick.there)⟩ (fun w hI => q_load1 Try.isAgg3 rfl (hI.choose_spec.cell (by repeat first | exact .here _ _ | assumption | apply Pick.there) rfl)) ?_
                  refine p_q hap hsel 4 rfl rfl ⟨_, hS.pick (by repeat first | exact .here _ _ | assumption | apply Pick.there)⟩ (fun w hI => q_mv (.pointer _) rfl) ?_
                  refine p_q hap hsel 5 rfl rfl ⟨_, hS.pick (by repeat first | exact .here _ _ | assumption | apply Pick.there)⟩ (fun w hI => q_fieldAddr 5 Try.runUnderlying52 rfl Try.sizeOf3 (by decide) rfl rfl) ?_
                  refine p_q hap hsel 6 rfl rfl ⟨_, hS.pick (by repeat first | exact .here _ _ | assumption | apply Pick.there)⟩ (fun w hI => q_load1 Try.isAgg3 rfl (hI.choose_spec.cell (by repeat first | exact .here _ _ | assumption | apply Pick.there) rfl)) ?_
                  refine p_one 3 rfl (by kernel_rfl) ?_
                  refine t_call Try.call65 (rText hS (by repeat first | exact .here _ _ | assumption | apply Pick.there) (by omega)) rfl ?_
                  rintro e w ⟨rfl, hS⟩
                  refine ⟨_, rfl, ?_⟩
                  refine t_nil ?_
                  refine ⟨.inr ⟨_, hS.pick (by repeat first | exact .here _ _ | assumption | apply Pick.there)⟩, ?_⟩
                  refine p_one 7 rfl (by kernel_rfl) ?_
                  refine t_call Try.call66 (qText hS (by repeat first | exact .here _ _ | assumption | apply Pick.there) (by omega)) rfl ?_
                  rintro e w ⟨rfl, hS⟩
                  refine ⟨_, rfl, ?_⟩
                  refine t_nil ?_
                  refine ⟨.inr ⟨_, hS.pick (by repeat first | exact .here _ _ | assumption | apply Pick.there)⟩, ?_⟩
                  refine p_q hap hsel 8 rfl rfl ⟨_, hS.pick (by repeat first | exact .here _ _ | assumption | apply Pick.there)⟩ (fun w hI => (q_cast (v' := .bool true) (q_eql_string rfl rfl) (by simp))) ?_
                  refine p_q hap hsel 9 rfl rfl ⟨_, hS.pick (by repeat first | exact .here _ _ | assumption | apply Pick.there)⟩ (fun w hI => q_as (.bool _) rfl) ?_
                  refine p_end (by kernel_rfl) ?_
                  exact ⟨_, rfl, (hS.pick (A := rdrA W 106 g20 _) (by repeat first | exact .here _ _ | assumption | apply Pick.there)).pick (A := rdrA W 81 g23 _) (by repeat first | exact .here _ _ | assumption | apply Pick.there)⟩
                · intro hc27
                  have hc27d := of_decide_eq_false hc27
                  refine c_seq ?_
                  refine c_region ?_
                  refine t_q (q_mv (.pointer _) rfl) ?_
                  refine t_call Try.call67 (rFail hS (by repeat first | exact .here _ _ | assumption | apply Pick.there)) rfl ?_
                  rintro e w ⟨rfl, hS⟩
                  refine ⟨_, rfl, ?_⟩
                  refine t_nil ?_
                  refine c_region ?_
                  refine t_q (q_mv (.pointer _) rfl) ?_
                  refine t_call Try.call68 (qFail hS (by repeat first | exact .here _ _ | assumption | apply Pick.there)) rfl ?_
                  rintro e w ⟨rfl, hS⟩
                  refine ⟨_, rfl, ?_⟩
                  refine t_nil ?_
                  exact ⟨_, rfl, (hS.pick (A := rdrA W 106 g20 _) (by repeat first | exact .here _ _ | assumption | apply Pick.there)).pick (A := rdrA W 81 g23 _) (by repeat first | exact .here _ _ | assumption | apply Pick.there)⟩
        ·
          rintro σ w ⟨s', h9, hS⟩
          obtain ⟨A', c1, hR', hc', hS⟩ := hS.rdr
          refine c_know 9 h9 ?_
          refine c_seq ?_
          refine c_draw ?_
          refine d_keep (blkA g23 81 [.slice A' s'.left.length c1, .bool s'.bad]) 28 [0, 1, 2, 3, 4, 5, 6, 7, 8, 9, 10, 11, 12, 13, 14, 15, 16, 17, 18, 19, 20, 21, 22, 23, 24, 25, 26, 27] [0, 1, 2, 3, 4, 5, 6, 7, 8, 9, 10, 11, 12, 13, 14, 15, 16, 17, 18, 19, 20, 21, 22, 23, 24, 25, 26, 27] hS rfl (by kernel_rfl) (by kernel_rfl) (by kernel_rfl) (by kernel_rfl) (fun hap hsel w hS => ?_)
          refine p_q hap hsel 0 rfl rfl ⟨_, hS.pick (by repeat first | exact .here _ _ | assumption | apply Pick.there)⟩ (fun w hI => q_mv (.bool _) rfl) ?_
          refine p_q hap hsel 1 rfl rfl ⟨_, hS.pick (by repeat first | exact .here _ _ | assumption | apply Pick.there)⟩ (fun w hI => q_not rfl) ?_
          refine p_q hap hsel 2 rfl rfl ⟨_, hS.pick (by repeat first | exact .here _ _ | assumption | apply Pick.there)⟩ (fun w hI => q_mv (.bool _) rfl) ?_
          refine p_yes hap hsel 3 rfl rfl ⟨_, hS.pick (by repeat first | exact .here _ _ | assumption | apply Pick.there)⟩ rfl rfl rfl (fun w hI => q_mv (.pointer _) rfl) ?_
          refine p_yes hap hsel 5 rfl rfl ⟨_, hS.pick (by repeat first | exact .here _ _ | assumption | apply Pick.there)⟩ rfl rfl rfl (fun w hI => q_mv (.pointer _) rfl) ?_
          refine p_yes hap hsel 6 rfl rfl ⟨_, hS.pick (by repeat first | exact .here _ _ | assumption | apply Pick.there)⟩ rfl rfl rfl (fun w hI => q_nilCheck rfl) ?_
          refine p_yes hap hsel 7 rfl rfl ⟨_, hS.pick (by repeat first | exact .here _ _ | assumption | apply Pick.there)⟩ rfl rfl rfl (fun w hI => q_fieldAddr 0 Try.runUnderlying81 rfl Try.sizeOf48 (by decide) rfl rfl) ?_
          refine p_yes hap hsel 8 rfl rfl ⟨_, hS.pick (by repeat first | exact .here _ _ | assumption | apply Pick.there)⟩ rfl rfl rfl (fun w hI => q_load1 Try.isAgg48 rfl (hI.choose_spec.cell (by repeat first | exact .here _ _ | assumption | apply Pick.there) rfl)) ?_
          refine p_yes hap hsel 9 rfl rfl ⟨_, hS.pick (by repeat first | exact .here _ _ | assumption | apply Pick.there)⟩ rfl rfl rfl (fun w hI => q_len_slice Try.runUnderlying48 rfl) ?_
          refine p_one 4 rfl (by kernel_rfl) ?_
          refine t_yes rfl rfl rfl ?_
          refine t_call Try.call69 (rLeft hS (by repeat first | exact .here _ _ | assumption | apply Pick.there)) rfl ?_
          rintro e w ⟨rfl, hS⟩
          refine ⟨_, rfl, ?_⟩
          refine t_nil ?_
          refine ⟨.inr ⟨_, hS.pick (by repeat first | exact .here _ _ | assumption | apply Pick.there)⟩, ?_⟩
          refine p_yes hap hsel 10 rfl rfl ⟨_, hS.pick (by repeat first | exact .here _ _ | assumption | apply Pick.there)⟩ rfl rfl rfl (fun w hI => (q_cast (v' := .bool false) (q_neq rfl rfl) (by simp))) ?_
          refine p_q hap hsel 11 rfl rfl ⟨_, hS.pick (by repeat first | exact .here _ _ | assumption | apply Pick.there)⟩ (fun w hI => q_pick_f rfl rfl) ?_
          refine p_q hap hsel 12 rfl rfl ⟨_, hS.pick (by repeat first | exact .here _ _ | assumption | apply Pick.there)⟩ (fun w hI => q_mv (.bool _) rfl) ?_
          refine p_yes hap hsel 13 rfl rfl ⟨_, hS.pick (by repeat first | exact .here _ _ | assumption | apply Pick.there)⟩ rfl rfl rfl (fun w hI => q_mv (.pointer _) rfl) ?_
          refine p_yes hap hsel 15 rfl rfl ⟨_, hS.pick (by repeat first | exact .here _ _ | assumption | apply Pick.there)⟩ rfl rfl rfl (fun w hI => q_mv (.pointer _) rfl) ?_
          refine p_yes hap hsel 16 rfl rfl ⟨_, hS.pick (by repeat first | exact .here _ _ | assumption | apply Pick.there)⟩ rfl rfl rfl (fun w hI => q_nilCheck rfl) ?_
          refine p_yes hap hsel 17 rfl rfl ⟨_, hS.pick (by repeat first | exact .here _ _ | assumption | apply Pick.there)⟩ rfl rfl rfl (fun w hI => q_fieldAddr 1 Try.runUnderlying81 rfl Try.sizeOf4 (by decide) rfl rfl) ?_
          refine p_yes hap hsel 18 rfl rfl ⟨_, hS.pick (by repeat first | exact .here _ _ | assumption | apply Pick.there)⟩ rfl rfl rfl (fun w hI => q_load1 Try.isAgg4 rfl (hI.choose_spec.cell (by repeat first | exact .here _ _ | assumption | apply Pick.there) rfl)) ?_
          refine p_one 14 rfl (by kernel_rfl) ?_
          refine t_yes rfl rfl rfl ?_
          refine t_call Try.call70 (rBad hS (by repeat first | exact .here _ _ | assumption | apply Pick.there)) rfl ?_
          rintro e w ⟨rfl, hS⟩
          refine ⟨_, rfl, ?_⟩
          refine t_nil ?_
          refine ⟨.inr ⟨_, hS.pick (by repeat first | exact .here _ _ | assumption | apply Pick.there)⟩, ?_⟩
          refine p_yes hap hsel 19 rfl rfl ⟨_, hS.pick (by repeat first | exact .here _ _ | assumption | apply Pick.there)⟩ rfl rfl rfl (fun w hI => (q_cast (v' := .bool false) (q_neq_bool Try.runUnderlying4 rfl rfl) (by simp))) ?_
          refine p_q hap hsel 20 rfl rfl ⟨_, hS.pick (by repeat first | exact .here _ _ | assumption | apply Pick.there)⟩ (fun w hI => q_pick_f rfl rfl) ?_
          refine p_q hap hsel 21 rfl rfl ⟨_, hS.pick (by repeat first | exact .here _ _ | assumption | apply Pick.there)⟩ (fun w hI => q_mv (.bool _) rfl) ?_
          refine p_yes hap hsel 22 rfl rfl ⟨_, hS.pick (by repeat first | exact .here _ _ | assumption | apply Pick.there)⟩ rfl rfl rfl (fun w hI => q_mv (.pointer _) rfl) ?_
          refine p_yes hap hsel 24 rfl rfl ⟨_, hS.pick (by repeat first | exact .here _ _ | assumption | apply Pick.there)⟩ rfl rfl rfl (fun w hI => q_mv (.pointer _) rfl) ?_
          refine p_one 23 rfl (by kernel_rfl) ?_
          refine t_yes rfl rfl rfl ?_
          refine t_call Try.call71 (rEnd hS (by repeat first | exact .here _ _ | assumption | apply Pick.there)) rfl ?_
          rintro e w ⟨rfl, hS⟩
          refine ⟨_, rfl, ?_⟩
          refine t_nil ?_
          refine ⟨.inr ⟨_, hS.pick (by repeat first | exact .here _ _ | assumption | apply Pick.there)⟩, ?_⟩
          refine p_one 25 rfl (by kernel_rfl) ?_
          refine t_yes rfl rfl rfl ?_
          refine t_call Try.call72 (qEndB hS (by repeat first | exact .here _ _ | assumption | apply Pick.there)) rfl ?_
          rintro e w ⟨rfl, hS⟩
          refine ⟨_, rfl, ?_⟩
          refine t_nil ?_
          refine ⟨.inr ⟨_, hS.pick (by repeat first | exact .here _ _ | assumption | apply Pick.there)⟩, ?_⟩
          refine p_yes hap hsel 26 rfl rfl ⟨_, hS.pick (by repeat first | exact .here _ _ | assumption | apply Pick.there)⟩ rfl rfl rfl (fun w hI => (q_cast (v' := .bool false) (q_neq rfl rfl) (by simp [endV, Rs.endOk]))) ?_
          refine p_q hap hsel 27 rfl rfl ⟨_, hS.pick (by repeat first | exact .here _ _ | assumption | apply Pick.there)⟩ (fun w hI => q_pick_f rfl rfl) ?_
          refine p_end (by kernel_rfl) ?_
          refine c_cond_f rfl rfl ?_
          refine c_skip ?_
          refine c_region ?_
          refine t_q (q_add_i64 rfl rfl (by omega)) ?_
          refine t_q (q_mv (.int _ _) rfl) ?_
          refine t_nil ?_
          exact ⟨k - 1, by omega, j + 1, s', rfl, by omega, by omega, ((hS.pick (A := rdrA W 106 g20 _) (by repeat first | exact .here _ _ | assumption | apply Pick.there)).pick (A := blkA g23 81 _) (by repeat first | exact .here _ _ | assumption | apply Pick.there)).unrdr rfl rfl hR' hc' |>.pick (.there (.there (.here _ _))) |>.drop⟩
      · intro hc9
        have hc9d := of_decide_eq_false hc9
        refine c_exit ?_
        refine ite_t rfl ?_
        refine c_seq ?_
        refine c_region ?_
        refine t_call Try.call41 (lives_calls) rfl ?_
        rintro e w ⟨rfl, hT⟩
        refine ⟨_, rfl, ?_⟩
        replace hS := hS.after hT
        refine t_q (q_as (.bool _) rfl) ?_
        refine t_nil ?_
        refine c_ret ?_
        refine r_one rfl rfl ?_
        exact ⟨rfl, hS.nil⟩
end Go.Proofs.Ytcikoealneldkaa
