/- Any bytes are read as the document's table, or refused: the walk. -/
import Derived.Test.YtcikoealneldkaaM3
import Derived.Test.YtcikoealneldkaaAs
import Derived.Test.YtcikoealneldkaaCl
namespace Go.Proofs.Ytcikoealneldkaa
open Go Go.RowKit Go.Lib
variable {W : World}

set_option maxRecDepth 100000 in
theorem AcksRead_calls {A : Option Addr} {c : Nat} {bs : List UInt8} (hR : RdB W A bs) (hc : bs.length ≤ c ∧ bs.length ≤ 9223372036854775807) :
  Calls Try.prog 13 #[.slice A bs.length c] W fun e w' => e = .returned (.bool true) ∧ St W w' [] := by
  have hS := St.init W
  refine calls_of_wpE (args := [_]) Try.func13 rfl rfl rfl ?_
  refine c_seq ?_
  refine c_region ?_
  refine t_q (q_assign) ?_
  refine t_nil ?_
  refine c_seq ?_
  refine c_seq ?_
  refine c_region ?_
  refine t_q (q_mv (.slice _ _ _) rfl) ?_
  refine t_q (q_len_slice Try.runUnderlying48 rfl) ?_
  refine t_q (q_gtr rfl rfl) ?_
  refine t_nil ?_
  refine c_cond rfl ?_ ?_
  · intro hc2
    have hc2d := of_decide_eq_true hc2
    refine c_seq ?_
    refine c_region ?_
    refine t_call Try.call29 (alives_calls) rfl ?_
    rintro e w ⟨rfl, hT⟩
    refine ⟨_, rfl, ?_⟩
    replace hS := hS.after hT
    refine t_q (q_as (.bool _) rfl) ?_
    refine t_nil ?_
    refine c_ret ?_
    refine r_one rfl rfl ?_
    exact ⟨rfl, hS.nil⟩
  · intro hc2
    have hc2d := of_decide_eq_false hc2
    have h200 : bs.length ≤ 200 := by omega
    refine c_skip ?_
    refine c_seq ?_
    refine c_region ?_
    refine t_q (q_mv (.slice _ _ _) rfl) ?_
    refine t_call Try.call58 (Open_calls hS hR hc) rfl ?_
    rintro e w ⟨g15, rfl, hS⟩
    refine ⟨_, rfl, ?_⟩
    refine t_q (q_as (.pointer _) rfl) ?_
    refine t_nil ?_
    refine c_seq ?_
    refine c_region ?_
    refine t_q (q_mv (.slice _ _ _) rfl) ?_
    refine t_q (q_build (qs := [(0, 1), (1, 1)]) [(.slice _ _ _), (.bool _)] Try.zeroValue81 Try.runUnderlying81 ⟨rfl, Try.sizeOf48, rfl, Try.sizeOf4, trivial⟩ rfl rfl) ?_
    refine t_box (v := (.agg _)) rfl rfl hS (fun g18 w hS => ?_)
    replace hS := hS.unrdr (s := (⟨bs, false⟩ : Rs)) rfl rfl hR hc
    refine t_q (q_as (.pointer _) rfl) ?_
    refine t_nil ?_
    refine c_seq ?_
    refine c_region ?_
    refine t_q (q_mv (.pointer _) rfl) ?_
    refine t_call Try.call86 (aread_calls hS (by repeat first | exact .here _ _ | assumption | apply Pick.there)) rfl ?_
    rintro e w ⟨rfl, hS⟩
    refine ⟨_, rfl, ?_⟩
    refine t_q (q_mv (.tuple _) rfl) ?_
    refine t_q (q_extract rfl rfl) ?_
    refine t_q (q_extract rfl rfl) ?_
    refine t_alloc Try.zeroValue27 rfl hS (fun g5 w hS => ?_)
    refine t_store (v := (.agg _)) Try.sizeOf27 hS (by repeat first | exact .here _ _ | assumption | apply Pick.there) rfl rfl rfl rfl rfl rfl (fun w hS => ?_)
    obtain ⟨ho1, ho2, ho3, ho4⟩ := ack_of (⟨bs, false⟩ : Rs)
    replace hS := hS.recast (show blkA g5 27 _ = blkA g5 27 (tcs (aN (⟨bs, false⟩ : Rs)) (ofF (aL (⟨bs, false⟩ : Rs)))) from by rw [ho1]; rfl)
    refine t_q (q_as (.bool _) rfl) ?_
    refine t_nil ?_
    refine c_seq ?_
    refine c_region ?_
    refine t_q (q_mv (.pointer _) rfl) ?_
    refine t_call Try.call88 (qaread_calls hS (by repeat first | exact .here _ _ | assumption | apply Pick.there)) rfl ?_
    rintro e w ⟨A26, m26, c26, rfl, hm26, hS⟩
    refine ⟨_, rfl, ?_⟩
    subst hm26
    refine t_q (q_mv (.tuple _) rfl) ?_
    refine t_q (q_extract rfl rfl) ?_
    refine t_q (q_extract rfl rfl) ?_
    refine t_alloc Try.zeroValue35 rfl hS (fun g7 w hS => ?_)
    refine t_store (v := (.agg _)) Try.sizeOf35 hS (by repeat first | exact .here _ _ | assumption | apply Pick.there) rfl rfl rfl rfl rfl rfl (fun w hS => ?_)
    replace hS := hS.recast (show blkA g7 35 _ = blkA g7 35 [.int .i64 (aN (⟨bs, false⟩ : Rs)), .slice A26 (aL (⟨bs, false⟩ : Rs)).length c26] from rfl)
    refine t_q (q_as (.bool _) rfl) ?_
    refine t_nil ?_
    refine c_seq ?_
    refine c_seq ?_
    obtain ⟨A1, c1, hR1, hc1, hS⟩ := (hS.pick (A := rdrA W 81 g18 _) (by repeat first | exact .here _ _ | assumption | apply Pick.there)).rdr
    refine c_draw ?_
    refine d_keep3 (blkA g5 27 (tcs (aN (⟨bs, false⟩ : Rs)) (ofF (aL (⟨bs, false⟩ : Rs))))) (blkA g7 35 [.int .i64 (aN (⟨bs, false⟩ : Rs)), .slice A26 (aL (⟨bs, false⟩ : Rs)).length c26]) (blkA g18 81 [.slice A1 (aS (⟨bs, false⟩ : Rs)).left.length c1, .bool (aS (⟨bs, false⟩ : Rs)).bad]) 28 [0, 1, 2, 3, 4, 5, 6, 7, 8, 9, 10, 11, 12, 13, 14, 15, 16, 17, 18, 19, 20, 21, 22, 23, 24, 25, 26, 27] [0, 1, 2, 3, 4, 5, 6, 7, 8, 9, 10, 11, 12, 13, 14, 15, 16, 17, 18, 19, 20, 21, 22, 23, 24, 25, 26, 27] hS rfl (by kernel_rfl) (by kernel_rfl) (by kernel_rfl) (by kernel_rfl) (fun hap hsel w hS => ?_)
    refine p_q hap hsel 0 rfl rfl ⟨_, (((hS.pick (A := blkA g18 81 [.slice A1 (aS (⟨bs, false⟩ : Rs)).left.length c1, .bool (aS (⟨bs, false⟩ : Rs)).bad]) (by repeat first | exact .here _ _ | assumption | apply Pick.there)).pick (A := blkA g7 35 [.int .i64 (aN (⟨bs, false⟩ : Rs)), .slice A26 (aL (⟨bs, false⟩ : Rs)).length c26]) (by repeat first | exact .here _ _ | assumption | apply Pick.there)).pick (A := blkA g5 27 (tcs (aN (⟨bs, false⟩ : Rs)) (ofF (aL (⟨bs, false⟩ : Rs))))) (by repeat first | exact .here _ _ | assumption | apply Pick.there))⟩ (fun w hI => q_mv (.bool _) rfl) ?_
    refine p_q hap hsel 1 rfl rfl ⟨_, (((hS.pick (A := blkA g18 81 [.slice A1 (aS (⟨bs, false⟩ : Rs)).left.length c1, .bool (aS (⟨bs, false⟩ : Rs)).bad]) (by repeat first | exact .here _ _ | assumption | apply Pick.there)).pick (A := blkA g7 35 [.int .i64 (aN (⟨bs, false⟩ : Rs)), .slice A26 (aL (⟨bs, false⟩ : Rs)).length c26]) (by repeat first | exact .here _ _ | assumption | apply Pick.there)).pick (A := blkA g5 27 (tcs (aN (⟨bs, false⟩ : Rs)) (ofF (aL (⟨bs, false⟩ : Rs))))) (by repeat first | exact .here _ _ | assumption | apply Pick.there))⟩ (fun w hI => q_mv (.bool _) rfl) ?_
    refine p_q hap hsel 2 rfl rfl ⟨_, (((hS.pick (A := blkA g18 81 [.slice A1 (aS (⟨bs, false⟩ : Rs)).left.length c1, .bool (aS (⟨bs, false⟩ : Rs)).bad]) (by repeat first | exact .here _ _ | assumption | apply Pick.there)).pick (A := blkA g7 35 [.int .i64 (aN (⟨bs, false⟩ : Rs)), .slice A26 (aL (⟨bs, false⟩ : Rs)).length c26]) (by repeat first | exact .here _ _ | assumption | apply Pick.there)).pick (A := blkA g5 27 (tcs (aN (⟨bs, false⟩ : Rs)) (ofF (aL (⟨bs, false⟩ : Rs))))) (by repeat first | exact .here _ _ | assumption | apply Pick.there))⟩ (fun w hI => (q_cast (v' := .bool false) (q_neq_bool Try.runUnderlying4 rfl rfl) (by simp))) ?_
    refine p_q hap hsel 3 rfl rfl ⟨_, (((hS.pick (A := blkA g18 81 [.slice A1 (aS (⟨bs, false⟩ : Rs)).left.length c1, .bool (aS (⟨bs, false⟩ : Rs)).bad]) (by repeat first | exact .here _ _ | assumption | apply Pick.there)).pick (A := blkA g7 35 [.int .i64 (aN (⟨bs, false⟩ : Rs)), .slice A26 (aL (⟨bs, false⟩ : Rs)).length c26]) (by repeat first | exact .here _ _ | assumption | apply Pick.there)).pick (A := blkA g5 27 (tcs (aN (⟨bs, false⟩ : Rs)) (ofF (aL (⟨bs, false⟩ : Rs))))) (by repeat first | exact .here _ _ | assumption | apply Pick.there))⟩ (fun w hI => q_mv (.bool _) rfl) ?_
    refine p_yes hap hsel 4 rfl rfl ⟨_, (((hS.pick (A := blkA g18 81 [.slice A1 (aS (⟨bs, false⟩ : Rs)).left.length c1, .bool (aS (⟨bs, false⟩ : Rs)).bad]) (by repeat first | exact .here _ _ | assumption | apply Pick.there)).pick (A := blkA g7 35 [.int .i64 (aN (⟨bs, false⟩ : Rs)), .slice A26 (aL (⟨bs, false⟩ : Rs)).length c26]) (by repeat first | exact .here _ _ | assumption | apply Pick.there)).pick (A := blkA g5 27 (tcs (aN (⟨bs, false⟩ : Rs)) (ofF (aL (⟨bs, false⟩ : Rs))))) (by repeat first | exact .here _ _ | assumption | apply Pick.there))⟩ rfl rfl rfl (fun w hI => q_mv (.pointer _) rfl) ?_
    refine p_yes hap hsel 6 rfl rfl ⟨_, (((hS.pick (A := blkA g18 81 [.slice A1 (aS (⟨bs, false⟩ : Rs)).left.length c1, .bool (aS (⟨bs, false⟩ : Rs)).bad]) (by repeat first | exact .here _ _ | assumption | apply Pick.there)).pick (A := blkA g7 35 [.int .i64 (aN (⟨bs, false⟩ : Rs)), .slice A26 (aL (⟨bs, false⟩ : Rs)).length c26]) (by repeat first | exact .here _ _ | assumption | apply Pick.there)).pick (A := blkA g5 27 (tcs (aN (⟨bs, false⟩ : Rs)) (ofF (aL (⟨bs, false⟩ : Rs))))) (by repeat first | exact .here _ _ | assumption | apply Pick.there))⟩ rfl rfl rfl (fun w hI => q_mv (.pointer _) rfl) ?_
    refine p_yes hap hsel 7 rfl rfl ⟨_, (((hS.pick (A := blkA g18 81 [.slice A1 (aS (⟨bs, false⟩ : Rs)).left.length c1, .bool (aS (⟨bs, false⟩ : Rs)).bad]) (by repeat first | exact .here _ _ | assumption | apply Pick.there)).pick (A := blkA g7 35 [.int .i64 (aN (⟨bs, false⟩ : Rs)), .slice A26 (aL (⟨bs, false⟩ : Rs)).length c26]) (by repeat first | exact .here _ _ | assumption | apply Pick.there)).pick (A := blkA g5 27 (tcs (aN (⟨bs, false⟩ : Rs)) (ofF (aL (⟨bs, false⟩ : Rs))))) (by repeat first | exact .here _ _ | assumption | apply Pick.there))⟩ rfl rfl rfl (fun w hI => q_nilCheck rfl) ?_
    refine p_yes hap hsel 8 rfl rfl ⟨_, (((hS.pick (A := blkA g18 81 [.slice A1 (aS (⟨bs, false⟩ : Rs)).left.length c1, .bool (aS (⟨bs, false⟩ : Rs)).bad]) (by repeat first | exact .here _ _ | assumption | apply Pick.there)).pick (A := blkA g7 35 [.int .i64 (aN (⟨bs, false⟩ : Rs)), .slice A26 (aL (⟨bs, false⟩ : Rs)).length c26]) (by repeat first | exact .here _ _ | assumption | apply Pick.there)).pick (A := blkA g5 27 (tcs (aN (⟨bs, false⟩ : Rs)) (ofF (aL (⟨bs, false⟩ : Rs))))) (by repeat first | exact .here _ _ | assumption | apply Pick.there))⟩ rfl rfl rfl (fun w hI => q_fieldAddr 0 Try.runUnderlying81 rfl Try.sizeOf48 (by decide) rfl rfl) ?_
    refine p_yes hap hsel 9 rfl rfl ⟨_, (((hS.pick (A := blkA g18 81 [.slice A1 (aS (⟨bs, false⟩ : Rs)).left.length c1, .bool (aS (⟨bs, false⟩ : Rs)).bad]) (by repeat first | exact .here _ _ | assumption | apply Pick.there)).pick (A := blkA g7 35 [.int .i64 (aN (⟨bs, false⟩ : Rs)), .slice A26 (aL (⟨bs, false⟩ : Rs)).length c26]) (by repeat first | exact .here _ _ | assumption | apply Pick.there)).pick (A := blkA g5 27 (tcs (aN (⟨bs, false⟩ : Rs)) (ofF (aL (⟨bs, false⟩ : Rs))))) (by repeat first | exact .here _ _ | assumption | apply Pick.there))⟩ rfl rfl rfl (fun w hI => q_load1 Try.isAgg48 rfl (hI.choose_spec.cell (by repeat first | exact .here _ _ | assumption | apply Pick.there) rfl)) ?_
    refine p_yes hap hsel 10 rfl rfl ⟨_, (((hS.pick (A := blkA g18 81 [.slice A1 (aS (⟨bs, false⟩ : Rs)).left.length c1, .bool (aS (⟨bs, false⟩ : Rs)).bad]) (by repeat first | exact .here _ _ | assumption | apply Pick.there)).pick (A := blkA g7 35 [.int .i64 (aN (⟨bs, false⟩ : Rs)), .slice A26 (aL (⟨bs, false⟩ : Rs)).length c26]) (by repeat first | exact .here _ _ | assumption | apply Pick.there)).pick (A := blkA g5 27 (tcs (aN (⟨bs, false⟩ : Rs)) (ofF (aL (⟨bs, false⟩ : Rs))))) (by repeat first | exact .here _ _ | assumption | apply Pick.there))⟩ rfl rfl rfl (fun w hI => q_len_slice Try.runUnderlying48 rfl) ?_
    refine p_one 5 rfl (by kernel_rfl) ?_
    refine t_yes rfl rfl rfl ?_
    refine t_call Try.call69 (rLeft hS (by repeat first | exact .here _ _ | assumption | apply Pick.there)) rfl ?_
    rintro e w ⟨rfl, hS⟩
    refine ⟨_, rfl, ?_⟩
    refine t_nil ?_
    refine ⟨.inr ⟨_, (((hS.pick (A := blkA g18 81 [.slice A1 (aS (⟨bs, false⟩ : Rs)).left.length c1, .bool (aS (⟨bs, false⟩ : Rs)).bad]) (by repeat first | exact .here _ _ | assumption | apply Pick.there)).pick (A := blkA g7 35 [.int .i64 (aN (⟨bs, false⟩ : Rs)), .slice A26 (aL (⟨bs, false⟩ : Rs)).length c26]) (by repeat first | exact .here _ _ | assumption | apply Pick.there)).pick (A := blkA g5 27 (tcs (aN (⟨bs, false⟩ : Rs)) (ofF (aL (⟨bs, false⟩ : Rs))))) (by repeat first | exact .here _ _ | assumption | apply Pick.there))⟩, ?_⟩
    refine p_yes hap hsel 11 rfl rfl ⟨_, (((hS.pick (A := blkA g18 81 [.slice A1 (aS (⟨bs, false⟩ : Rs)).left.length c1, .bool (aS (⟨bs, false⟩ : Rs)).bad]) (by repeat first | exact .here _ _ | assumption | apply Pick.there)).pick (A := blkA g7 35 [.int .i64 (aN (⟨bs, false⟩ : Rs)), .slice A26 (aL (⟨bs, false⟩ : Rs)).length c26]) (by repeat first | exact .here _ _ | assumption | apply Pick.there)).pick (A := blkA g5 27 (tcs (aN (⟨bs, false⟩ : Rs)) (ofF (aL (⟨bs, false⟩ : Rs))))) (by repeat first | exact .here _ _ | assumption | apply Pick.there))⟩ rfl rfl rfl (fun w hI => (q_cast (v' := .bool false) (q_neq rfl rfl) (by simp))) ?_
    refine p_q hap hsel 12 rfl rfl ⟨_, (((hS.pick (A := blkA g18 81 [.slice A1 (aS (⟨bs, false⟩ : Rs)).left.length c1, .bool (aS (⟨bs, false⟩ : Rs)).bad]) (by repeat first | exact .here _ _ | assumption | apply Pick.there)).pick (A := blkA g7 35 [.int .i64 (aN (⟨bs, false⟩ : Rs)), .slice A26 (aL (⟨bs, false⟩ : Rs)).length c26]) (by repeat first | exact .here _ _ | assumption | apply Pick.there)).pick (A := blkA g5 27 (tcs (aN (⟨bs, false⟩ : Rs)) (ofF (aL (⟨bs, false⟩ : Rs))))) (by repeat first | exact .here _ _ | assumption | apply Pick.there))⟩ (fun w hI => q_pick_f rfl rfl) ?_
    refine p_q hap hsel 13 rfl rfl ⟨_, (((hS.pick (A := blkA g18 81 [.slice A1 (aS (⟨bs, false⟩ : Rs)).left.length c1, .bool (aS (⟨bs, false⟩ : Rs)).bad]) (by repeat first | exact .here _ _ | assumption | apply Pick.there)).pick (A := blkA g7 35 [.int .i64 (aN (⟨bs, false⟩ : Rs)), .slice A26 (aL (⟨bs, false⟩ : Rs)).length c26]) (by repeat first | exact .here _ _ | assumption | apply Pick.there)).pick (A := blkA g5 27 (tcs (aN (⟨bs, false⟩ : Rs)) (ofF (aL (⟨bs, false⟩ : Rs))))) (by repeat first | exact .here _ _ | assumption | apply Pick.there))⟩ (fun w hI => q_mv (.bool _) rfl) ?_
    refine p_yes hap hsel 14 rfl rfl ⟨_, (((hS.pick (A := blkA g18 81 [.slice A1 (aS (⟨bs, false⟩ : Rs)).left.length c1, .bool (aS (⟨bs, false⟩ : Rs)).bad]) (by repeat first | exact .here _ _ | assumption | apply Pick.there)).pick (A := blkA g7 35 [.int .i64 (aN (⟨bs, false⟩ : Rs)), .slice A26 (aL (⟨bs, false⟩ : Rs)).length c26]) (by repeat first | exact .here _ _ | assumption | apply Pick.there)).pick (A := blkA g5 27 (tcs (aN (⟨bs, false⟩ : Rs)) (ofF (aL (⟨bs, false⟩ : Rs))))) (by repeat first | exact .here _ _ | assumption | apply Pick.there))⟩ rfl rfl rfl (fun w hI => q_mv (.pointer _) rfl) ?_
    refine p_yes hap hsel 16 rfl rfl ⟨_, (((hS.pick (A := blkA g18 81 [.slice A1 (aS (⟨bs, false⟩ : Rs)).left.length c1, .bool (aS (⟨bs, false⟩ : Rs)).bad]) (by repeat first | exact .here _ _ | assumption | apply Pick.there)).pick (A := blkA g7 35 [.int .i64 (aN (⟨bs, false⟩ : Rs)), .slice A26 (aL (⟨bs, false⟩ : Rs)).length c26]) (by repeat first | exact .here _ _ | assumption | apply Pick.there)).pick (A := blkA g5 27 (tcs (aN (⟨bs, false⟩ : Rs)) (ofF (aL (⟨bs, false⟩ : Rs))))) (by repeat first | exact .here _ _ | assumption | apply Pick.there))⟩ rfl rfl rfl (fun w hI => q_mv (.pointer _) rfl) ?_
    refine p_yes hap hsel 17 rfl rfl ⟨_, (((hS.pick (A := blkA g18 81 [.slice A1 (aS (⟨bs, false⟩ : Rs)).left.length c1, .bool (aS (⟨bs, false⟩ : Rs)).bad]) (by repeat first | exact .here _ _ | assumption | apply Pick.there)).pick (A := blkA g7 35 [.int .i64 (aN (⟨bs, false⟩ : Rs)), .slice A26 (aL (⟨bs, false⟩ : Rs)).length c26]) (by repeat first | exact .here _ _ | assumption | apply Pick.there)).pick (A := blkA g5 27 (tcs (aN (⟨bs, false⟩ : Rs)) (ofF (aL (⟨bs, false⟩ : Rs))))) (by repeat first | exact .here _ _ | assumption | apply Pick.there))⟩ rfl rfl rfl (fun w hI => q_nilCheck rfl) ?_
    refine p_yes hap hsel 18 rfl rfl ⟨_, (((hS.pick (A := blkA g18 81 [.slice A1 (aS (⟨bs, false⟩ : Rs)).left.length c1, .bool (aS (⟨bs, false⟩ : Rs)).bad]) (by repeat first | exact .here _ _ | assumption | apply Pick.there)).pick (A := blkA g7 35 [.int .i64 (aN (⟨bs, false⟩ : Rs)), .slice A26 (aL (⟨bs, false⟩ : Rs)).length c26]) (by repeat first | exact .here _ _ | assumption | apply Pick.there)).pick (A := blkA g5 27 (tcs (aN (⟨bs, false⟩ : Rs)) (ofF (aL (⟨bs, false⟩ : Rs))))) (by repeat first | exact .here _ _ | assumption | apply Pick.there))⟩ rfl rfl rfl (fun w hI => q_fieldAddr 1 Try.runUnderlying81 rfl Try.sizeOf4 (by decide) rfl rfl) ?_
    refine p_yes hap hsel 19 rfl rfl ⟨_, (((hS.pick (A := blkA g18 81 [.slice A1 (aS (⟨bs, false⟩ : Rs)).left.length c1, .bool (aS (⟨bs, false⟩ : Rs)).bad]) (by repeat first | exact .here _ _ | assumption | apply Pick.there)).pick (A := blkA g7 35 [.int .i64 (aN (⟨bs, false⟩ : Rs)), .slice A26 (aL (⟨bs, false⟩ : Rs)).length c26]) (by repeat first | exact .here _ _ | assumption | apply Pick.there)).pick (A := blkA g5 27 (tcs (aN (⟨bs, false⟩ : Rs)) (ofF (aL (⟨bs, false⟩ : Rs))))) (by repeat first | exact .here _ _ | assumption | apply Pick.there))⟩ rfl rfl rfl (fun w hI => q_load1 Try.isAgg4 rfl (hI.choose_spec.cell (by repeat first | exact .here _ _ | assumption | apply Pick.there) rfl)) ?_
    refine p_one 15 rfl (by kernel_rfl) ?_
    refine t_yes rfl rfl rfl ?_
    refine t_call Try.call70 (rBad hS (by repeat first | exact .here _ _ | assumption | apply Pick.there)) rfl ?_
    rintro e w ⟨rfl, hS⟩
    refine ⟨_, rfl, ?_⟩
    refine t_nil ?_
    refine ⟨.inr ⟨_, (((hS.pick (A := blkA g18 81 [.slice A1 (aS (⟨bs, false⟩ : Rs)).left.length c1, .bool (aS (⟨bs, false⟩ : Rs)).bad]) (by repeat first | exact .here _ _ | assumption | apply Pick.there)).pick (A := blkA g7 35 [.int .i64 (aN (⟨bs, false⟩ : Rs)), .slice A26 (aL (⟨bs, false⟩ : Rs)).length c26]) (by repeat first | exact .here _ _ | assumption | apply Pick.there)).pick (A := blkA g5 27 (tcs (aN (⟨bs, false⟩ : Rs)) (ofF (aL (⟨bs, false⟩ : Rs))))) (by repeat first | exact .here _ _ | assumption | apply Pick.there))⟩, ?_⟩
    refine p_yes hap hsel 20 rfl rfl ⟨_, (((hS.pick (A := blkA g18 81 [.slice A1 (aS (⟨bs, false⟩ : Rs)).left.length c1, .bool (aS (⟨bs, false⟩ : Rs)).bad]) (by repeat first | exact .here _ _ | assumption | apply Pick.there)).pick (A := blkA g7 35 [.int .i64 (aN (⟨bs, false⟩ : Rs)), .slice A26 (aL (⟨bs, false⟩ : Rs)).length c26]) (by repeat first | exact .here _ _ | assumption | apply Pick.there)).pick (A := blkA g5 27 (tcs (aN (⟨bs, false⟩ : Rs)) (ofF (aL (⟨bs, false⟩ : Rs))))) (by repeat first | exact .here _ _ | assumption | apply Pick.there))⟩ rfl rfl rfl (fun w hI => (q_cast (v' := .bool false) (q_neq_bool Try.runUnderlying4 rfl rfl) (by simp))) ?_
    refine p_q hap hsel 21 rfl rfl ⟨_, (((hS.pick (A := blkA g18 81 [.slice A1 (aS (⟨bs, false⟩ : Rs)).left.length c1, .bool (aS (⟨bs, false⟩ : Rs)).bad]) (by repeat first | exact .here _ _ | assumption | apply Pick.there)).pick (A := blkA g7 35 [.int .i64 (aN (⟨bs, false⟩ : Rs)), .slice A26 (aL (⟨bs, false⟩ : Rs)).length c26]) (by repeat first | exact .here _ _ | assumption | apply Pick.there)).pick (A := blkA g5 27 (tcs (aN (⟨bs, false⟩ : Rs)) (ofF (aL (⟨bs, false⟩ : Rs))))) (by repeat first | exact .here _ _ | assumption | apply Pick.there))⟩ (fun w hI => q_pick_f rfl rfl) ?_
    refine p_q hap hsel 22 rfl rfl ⟨_, (((hS.pick (A := blkA g18 81 [.slice A1 (aS (⟨bs, false⟩ : Rs)).left.length c1, .bool (aS (⟨bs, false⟩ : Rs)).bad]) (by repeat first | exact .here _ _ | assumption | apply Pick.there)).pick (A := blkA g7 35 [.int .i64 (aN (⟨bs, false⟩ : Rs)), .slice A26 (aL (⟨bs, false⟩ : Rs)).length c26]) (by repeat first | exact .here _ _ | assumption | apply Pick.there)).pick (A := blkA g5 27 (tcs (aN (⟨bs, false⟩ : Rs)) (ofF (aL (⟨bs, false⟩ : Rs))))) (by repeat first | exact .here _ _ | assumption | apply Pick.there))⟩ (fun w hI => q_mv (.bool _) rfl) ?_
    refine p_yes hap hsel 23 rfl rfl ⟨_, (((hS.pick (A := blkA g18 81 [.slice A1 (aS (⟨bs, false⟩ : Rs)).left.length c1, .bool (aS (⟨bs, false⟩ : Rs)).bad]) (by repeat first | exact .here _ _ | assumption | apply Pick.there)).pick (A := blkA g7 35 [.int .i64 (aN (⟨bs, false⟩ : Rs)), .slice A26 (aL (⟨bs, false⟩ : Rs)).length c26]) (by repeat first | exact .here _ _ | assumption | apply Pick.there)).pick (A := blkA g5 27 (tcs (aN (⟨bs, false⟩ : Rs)) (ofF (aL (⟨bs, false⟩ : Rs))))) (by repeat first | exact .here _ _ | assumption | apply Pick.there))⟩ rfl rfl rfl (fun w hI => q_load_blk Try.isAgg27 Try.sizeOf27 rfl (hI.choose_spec.blk (by repeat first | exact .here _ _ | assumption | apply Pick.there)) rfl) ?_
    refine p_yes hap hsel 24 rfl rfl ⟨_, (((hS.pick (A := blkA g18 81 [.slice A1 (aS (⟨bs, false⟩ : Rs)).left.length c1, .bool (aS (⟨bs, false⟩ : Rs)).bad]) (by repeat first | exact .here _ _ | assumption | apply Pick.there)).pick (A := blkA g7 35 [.int .i64 (aN (⟨bs, false⟩ : Rs)), .slice A26 (aL (⟨bs, false⟩ : Rs)).length c26]) (by repeat first | exact .here _ _ | assumption | apply Pick.there)).pick (A := blkA g5 27 (tcs (aN (⟨bs, false⟩ : Rs)) (ofF (aL (⟨bs, false⟩ : Rs))))) (by repeat first | exact .here _ _ | assumption | apply Pick.there))⟩ rfl rfl rfl (fun w hI => q_load_blk Try.isAgg35 Try.sizeOf35 rfl (hI.choose_spec.blk (by repeat first | exact .here _ _ | assumption | apply Pick.there)) rfl) ?_
    refine p_one 25 rfl (by kernel_rfl) ?_
    refine t_yes rfl rfl rfl ?_
    refine t_call Try.call37 (like_calls (rowRdA hS (by repeat first | exact .here _ _ | assumption | apply Pick.there) rfl) (by omega) (by omega) ho2) rfl ?_
    rintro e w ⟨rfl, hT⟩
    refine ⟨_, rfl, ?_⟩
    replace hS := hS.after hT
    refine t_nil ?_
    refine ⟨.inr ⟨_, (((hS.pick (A := blkA g18 81 [.slice A1 (aS (⟨bs, false⟩ : Rs)).left.length c1, .bool (aS (⟨bs, false⟩ : Rs)).bad]) (by repeat first | exact .here _ _ | assumption | apply Pick.there)).pick (A := blkA g7 35 [.int .i64 (aN (⟨bs, false⟩ : Rs)), .slice A26 (aL (⟨bs, false⟩ : Rs)).length c26]) (by repeat first | exact .here _ _ | assumption | apply Pick.there)).pick (A := blkA g5 27 (tcs (aN (⟨bs, false⟩ : Rs)) (ofF (aL (⟨bs, false⟩ : Rs))))) (by repeat first | exact .here _ _ | assumption | apply Pick.there))⟩, ?_⟩
    refine p_yes hap hsel 26 rfl rfl ⟨_, (((hS.pick (A := blkA g18 81 [.slice A1 (aS (⟨bs, false⟩ : Rs)).left.length c1, .bool (aS (⟨bs, false⟩ : Rs)).bad]) (by repeat first | exact .here _ _ | assumption | apply Pick.there)).pick (A := blkA g7 35 [.int .i64 (aN (⟨bs, false⟩ : Rs)), .slice A26 (aL (⟨bs, false⟩ : Rs)).length c26]) (by repeat first | exact .here _ _ | assumption | apply Pick.there)).pick (A := blkA g5 27 (tcs (aN (⟨bs, false⟩ : Rs)) (ofF (aL (⟨bs, false⟩ : Rs))))) (by repeat first | exact .here _ _ | assumption | apply Pick.there))⟩ rfl rfl rfl (fun w hI => (q_cast (v' := .bool false) (q_not rfl) (by rfl))) ?_
    refine p_q hap hsel 27 rfl rfl ⟨_, (((hS.pick (A := blkA g18 81 [.slice A1 (aS (⟨bs, false⟩ : Rs)).left.length c1, .bool (aS (⟨bs, false⟩ : Rs)).bad]) (by repeat first | exact .here _ _ | assumption | apply Pick.there)).pick (A := blkA g7 35 [.int .i64 (aN (⟨bs, false⟩ : Rs)), .slice A26 (aL (⟨bs, false⟩ : Rs)).length c26]) (by repeat first | exact .here _ _ | assumption | apply Pick.there)).pick (A := blkA g5 27 (tcs (aN (⟨bs, false⟩ : Rs)) (ofF (aL (⟨bs, false⟩ : Rs))))) (by repeat first | exact .here _ _ | assumption | apply Pick.there))⟩ (fun w hI => q_pick_f rfl rfl) ?_
    refine p_end (by kernel_rfl) ?_
    refine c_cond_f rfl rfl ?_
    refine c_skip ?_
    refine c_seq ?_
    refine c_seq ?_
    refine c_region ?_
    refine t_q (q_mv (.bool _) rfl) ?_
    refine t_q (q_not rfl) ?_
    refine t_nil ?_
    refine c_cond rfl ?_ ?_
    · intro hc18
      refine c_seq ?_
      refine c_region ?_
      refine t_call Try.call29 (alives_calls) rfl ?_
      rintro e w ⟨rfl, hT⟩
      refine ⟨_, rfl, ?_⟩
      replace hS := hS.after hT
      refine t_q (q_as (.bool _) rfl) ?_
      refine t_nil ?_
      refine c_ret ?_
      refine r_one rfl rfl ?_
      exact ⟨rfl, hS.nil⟩
    · intro hc18
      have hyes : ackOk (⟨bs, false⟩ : Rs) = true := by simpa using hc18
      have hby : bs = tabB (aN (⟨bs, false⟩ : Rs)).toNat (aF (⟨bs, false⟩ : Rs)) ++ (aS (⟨bs, false⟩ : Rs)).left := (ack_bytes hyes).1
      rw [← ho1] at hby
      have hbl := congrArg List.length hby
      rw [List.length_append] at hbl
      have htake : bs.take (bs.length - (aS (⟨bs, false⟩ : Rs)).left.length) = (tabB (aN (⟨bs, false⟩ : Rs)).toNat (ofF (aL (⟨bs, false⟩ : Rs)))) := by
        rw [show bs.length - (aS (⟨bs, false⟩ : Rs)).left.length = (tabB (aN (⟨bs, false⟩ : Rs)).toNat (ofF (aL (⟨bs, false⟩ : Rs)))).length by omega]
        exact (congrArg (List.take _) hby).trans List.take_left
      have htl := tabB_len (n := (aN (⟨bs, false⟩ : Rs)).toNat) (by omega) (ofF_b (aL (⟨bs, false⟩ : Rs)))
      refine c_skip ?_
      refine c_seq ?_
      refine c_region ?_
      refine t_alloc Try.zeroValue50 rfl hS (fun g9 w hS => ?_)
      replace hS := hS.wr0
      refine t_nil ?_
      refine c_seq ?_
      refine c_region ?_
      refine t_q (q_load_blk Try.isAgg27 Try.sizeOf27 rfl (hS.blk (by repeat first | exact .here _ _ | assumption | apply Pick.there)) rfl) ?_
      refine t_call Try.call85 (aput_calls hS (by repeat first | exact .here _ _ | assumption | apply Pick.there) (by omega) (ofF_b _) (by simp)) rfl ?_
      rintro e w ⟨rfl, hS⟩
      refine ⟨_, rfl, ?_⟩
      replace hS := hS.recast (congrArg (wrA g9) (List.nil_append (tabB (aN (⟨bs, false⟩ : Rs)).toNat (ofF (aL (⟨bs, false⟩ : Rs))))))
      refine t_nil ?_
      refine c_seq ?_
      refine c_draw ?_
      refine d_free 15 [0, 1, 2, 3, 4, 5, 6, 7, 8, 9, 10, 11, 12, 13, 14] [0, 1, 2, 3, 4, 5, 6, 7, 8, 9, 10, 11, 12, 13, 14] hS rfl (by kernel_rfl) (by kernel_rfl) (by kernel_rfl) (by kernel_rfl) (fun hap hsel w hS => ?_)
      refine p_q hap hsel 2 rfl rfl ⟨_, hS⟩ (fun w hI => q_mv (.slice _ _ _) rfl) ?_
      refine p_q hap hsel 3 rfl rfl ⟨_, hS⟩ (fun w hI => q_mv (.slice _ _ _) rfl) ?_
      refine p_q hap hsel 4 rfl rfl ⟨_, hS⟩ (fun w hI => q_len_slice Try.runUnderlying48 rfl) ?_
      refine p_q hap hsel 5 rfl rfl ⟨_, hS⟩ (fun w hI => q_mv (.pointer _) rfl) ?_
      refine p_one 0 rfl (by kernel_rfl) ?_
      refine t_call Try.call50 (Bytes_calls hS (by repeat first | exact .here _ _ | assumption | apply Pick.there) (by omega)) rfl ?_
      rintro e w ⟨A62, c62, rfl, hc62, hS⟩
      refine ⟨_, rfl, ?_⟩
      refine t_nil ?_
      refine ⟨.inr ⟨_, hS⟩, ?_⟩
      refine p_two 1 6 rfl rfl (by kernel_rfl) ?_ ?_
      ·
        refine t_q (q_string Try.runUnderlying48 Try.runUnderlying5 Try.runUnderlying9 rfl rfl (hS.rowRd (A := A62) (c := c62) (bs := (tabB (aN (⟨bs, false⟩ : Rs)).toNat (ofF (aL (⟨bs, false⟩ : Rs))))) (by repeat first | exact .here _ _ | assumption | apply Pick.there) rfl)) ?_
        refine t_nil ?_
        refine ⟨.inr ⟨_, hS⟩, ?_⟩
        refine p_one 6 rfl (by kernel_rfl) ?_
        refine t_call Try.call69 (rLeft hS (by repeat first | exact .here _ _ | assumption | apply Pick.there)) rfl ?_
        rintro e w ⟨rfl, hS⟩
        refine ⟨_, rfl, ?_⟩
        refine t_nil ?_
        refine ⟨.inr ⟨_, hS⟩, ?_⟩
        refine p_q hap hsel 7 rfl rfl ⟨_, hS⟩ (fun w hI => q_sub_i64 rfl rfl (by omega)) ?_
        refine p_q hap hsel 8 rfl rfl ⟨_, hS⟩ (fun w hI => q_slice Try.runUnderlying48 Try.sizeOf5 rfl ⟨_, _, rfl, by omega, by omega, rfl⟩ rfl) ?_
        refine p_q hap hsel 9 rfl rfl ⟨_, hS⟩ (fun w hI => q_string Try.runUnderlying48 Try.runUnderlying5 Try.runUnderlying9 rfl (by rw [List.length_take]; omega) (take_rd (k := bs.length - (aS (⟨bs, false⟩ : Rs)).left.length) (hR.st hI.choose_spec) (by omega) hc)) ?_
        refine p_q hap hsel 10 rfl rfl ⟨_, hS⟩ (fun w hI => (q_cast (v' := .bool true) (q_eql_string rfl rfl) (by simp [htake]))) ?_
        refine p_q hap hsel 11 rfl rfl ⟨_, hS⟩ (fun w hI => q_mv (.bool _) rfl) ?_
        refine p_one 12 rfl (by kernel_rfl) ?_
        refine t_yes rfl rfl rfl ?_
        refine t_call Try.call29 (alives_calls) rfl ?_
        rintro e w ⟨rfl, hT⟩
        refine ⟨_, rfl, ?_⟩
        replace hS := hS.after hT
        refine t_nil ?_
        refine ⟨.inr ⟨_, hS⟩, ?_⟩
        refine p_q hap hsel 13 rfl rfl ⟨_, hS⟩ (fun w hI => q_pick_t rfl rfl) ?_
        refine p_q hap hsel 14 rfl rfl ⟨_, hS⟩ (fun w hI => q_as (.bool _) rfl) ?_
        refine p_end (by kernel_rfl) ?_
        refine c_ret ?_
        refine r_one rfl rfl ?_
        exact ⟨rfl, hS.nil⟩
      ·
        refine t_call Try.call69 (rLeft hS (by repeat first | exact .here _ _ | assumption | apply Pick.there)) rfl ?_
        rintro e w ⟨rfl, hS⟩
        refine ⟨_, rfl, ?_⟩
        refine t_nil ?_
        refine ⟨.inr ⟨_, hS⟩, ?_⟩
        refine p_q hap hsel 7 rfl rfl ⟨_, hS⟩ (fun w hI => q_sub_i64 rfl rfl (by omega)) ?_
        refine p_q hap hsel 8 rfl rfl ⟨_, hS⟩ (fun w hI => q_slice Try.runUnderlying48 Try.sizeOf5 rfl ⟨_, _, rfl, by omega, by omega, rfl⟩ rfl) ?_
        refine p_q hap hsel 9 rfl rfl ⟨_, hS⟩ (fun w hI => q_string Try.runUnderlying48 Try.runUnderlying5 Try.runUnderlying9 rfl (by rw [List.length_take]; omega) (take_rd (k := bs.length - (aS (⟨bs, false⟩ : Rs)).left.length) (hR.st hI.choose_spec) (by omega) hc)) ?_
        refine p_one 1 rfl (by kernel_rfl) ?_
        refine t_q (q_string Try.runUnderlying48 Try.runUnderlying5 Try.runUnderlying9 rfl rfl (hS.rowRd (A := A62) (c := c62) (bs := (tabB (aN (⟨bs, false⟩ : Rs)).toNat (ofF (aL (⟨bs, false⟩ : Rs))))) (by repeat first | exact .here _ _ | assumption | apply Pick.there) rfl)) ?_
        refine t_nil ?_
        refine ⟨.inr ⟨_, hS⟩, ?_⟩
        refine p_q hap hsel 10 rfl rfl ⟨_, hS⟩ (fun w hI => (q_cast (v' := .bool true) (q_eql_string rfl rfl) (by simp [htake]))) ?_
        refine p_q hap hsel 11 rfl rfl ⟨_, hS⟩ (fun w hI => q_mv (.bool _) rfl) ?_
        refine p_one 12 rfl (by kernel_rfl) ?_
        refine t_yes rfl rfl rfl ?_
        refine t_call Try.call29 (alives_calls) rfl ?_
        rintro e w ⟨rfl, hT⟩
        refine ⟨_, rfl, ?_⟩
        replace hS := hS.after hT
        refine t_nil ?_
        refine ⟨.inr ⟨_, hS⟩, ?_⟩
        refine p_q hap hsel 13 rfl rfl ⟨_, hS⟩ (fun w hI => q_pick_t rfl rfl) ?_
        refine p_q hap hsel 14 rfl rfl ⟨_, hS⟩ (fun w hI => q_as (.bool _) rfl) ?_
        refine p_end (by kernel_rfl) ?_
        refine c_ret ?_
        refine r_one rfl rfl ?_
        exact ⟨rfl, hS.nil⟩
end Go.Proofs.Ytcikoealneldkaa
