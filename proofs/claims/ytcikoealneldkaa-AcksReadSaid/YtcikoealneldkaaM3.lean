/- Whatever is said and dropped: the walk. -/
import Derived.Test.YtcikoealneldkaaL3
import Derived.Test.YtcikoealneldkaaQ
namespace Go.Proofs.Ytcikoealneldkaa
open Go Go.RowKit Go.Lib
variable {W : World}
theorem new_any {n : Int} : Calls Try.prog 30 #[.int .i64 n] W fun e w' => ∃ n' q : Int, e = .returned (.tuple #[.agg (tcs n' (fun _ => 0)).toArray, .int .i64 q]) ∧ ((1 ≤ n ∧ n ≤ 7) ∧ n' = n ∧ q = 0 ∨ ¬ (1 ≤ n ∧ n ≤ 7) ∧ n' = 0 ∧ q = 2) ∧ St W w' [] := by
  by_cases h : 1 ≤ n ∧ n ≤ 7
  · exact (new_in h).mono fun e w' hh => ⟨n, 0, hh.1, .inl ⟨h, rfl, rfl⟩, hh.2⟩
  · exact (new_out h).mono fun e w' hh => ⟨0, 2, hh.1, .inr ⟨h, rfl, rfl⟩, hh.2⟩
/-- an ack more, both ways -/
theorem add_both {n r v : Int} {L : AckL} (hn : n ≤ 7) : Calls Try.prog 35 #[.agg (tcs n (ofF L)).toArray, .int .i64 r, .int .i64 v] W fun e w' => ∃ (L' : AckL) (q : Int), e = .returned (.tuple #[.agg (tcs n (ofF L')).toArray, .int .i64 q]) ∧ (((0 ≤ r ∧ r < n) ∧ (1 ≤ v ∧ v ≤ 32)) ∧ q = 0 ∧ L' = L ++ [(r, v)] ∨ ¬ ((0 ≤ r ∧ r < n) ∧ (1 ≤ v ∧ v ≤ 32)) ∧ q = 2 ∧ L' = L) ∧ St W w' [] := by
  by_cases h : (0 ≤ r ∧ r < n) ∧ (1 ≤ v ∧ v ≤ 32)
  · exact (add_in hn (ofF_b L) h).mono fun e w' hh => ⟨L ++ [(r, v)], 0, by rw [hh.1, ofF_add h.1.1], .inl ⟨h, rfl, rfl⟩, hh.2⟩
  · exact (add_out hn (ofF_b L) h).mono fun e w' hh => ⟨L, 2, hh.1, .inr ⟨h, rfl, rfl⟩, hh.2⟩
theorem add2_both {A : Option Addr} {c : Nat} {L : AckL} {n r v : Int} (hR : RdA W A L) (hm : L.length ≤ 1000000) : Calls Try.prog 36 #[.agg #[.int .i64 n, .slice A L.length c], .int .i64 r, .int .i64 v] W fun e w' =>
    (((0 ≤ r ∧ r < n) ∧ (1 ≤ v ∧ v ≤ 32)) ∧ ∃ A' m c', e = .returned (.tuple #[.agg #[.int .i64 n, .slice A' m c'], .int .i64 0]) ∧ m = (L ++ [(r, v)]).length ∧ St W w' [rowA 189 2 A' m c' ((L ++ [(r, v)]).flatMap ackC)]) ∨ (¬ ((0 ≤ r ∧ r < n) ∧ (1 ≤ v ∧ v ≤ 32)) ∧ e = .returned (.tuple #[.agg #[.int .i64 n, .slice A L.length c], .int .i64 2]) ∧ St W w' []) := add2_calls hR hm
theorem AckOk.both {n r v : Int} {L L' : AckL} {q : Int} (h : AckOk n L) (hh : ((0 ≤ r ∧ r < n) ∧ (1 ≤ v ∧ v ≤ 32)) ∧ q = 0 ∧ L' = L ++ [(r, v)] ∨ ¬ ((0 ≤ r ∧ r < n) ∧ (1 ≤ v ∧ v ≤ 32)) ∧ q = 2 ∧ L' = L) : AckOk n L' ∧ L'.length ≤ L.length + 1 := by
  rcases hh with ⟨h1, _, rfl⟩ | ⟨_, _, rfl⟩
  · exact ⟨h.snoc h1, by simp⟩
  · exact ⟨h, by omega⟩

set_option maxRecDepth 100000 in
theorem AcksPlay_calls {A : Option Addr} {c : Nat} {l : List AckOp} {n r v : Int} (hl : RdOp W A l) (hm : l.length ≤ maxLen) :
  Calls Try.prog 3 #[.int .i64 n, .slice A l.length c, .int .i64 r, .int .i64 v] W fun e w' => e = .returned (.bool true) ∧ St W w' [] := by
  have hS := St.init W
  unfold maxLen at hm
  refine calls_of_wpE (args := [_, _, _, _]) Try.func3 rfl rfl rfl ?_
  refine c_seq ?_
  refine c_region ?_
  refine t_q (q_assign) ?_
  refine t_nil ?_
  refine c_seq ?_
  refine c_seq ?_
  refine c_region ?_
  refine t_q (q_mv (.slice _ _ _) rfl) ?_
  refine t_q (q_len_slice Try.runUnderlying22 rfl) ?_
  refine t_q (q_gtr rfl rfl) ?_
  refine t_nil ?_
  refine c_cond rfl ?_ ?_
  · intro hc2
    have hc2d := of_decide_eq_true hc2
    refine c_seq ?_
    refine c_region ?_
    refine t_call Try.call29 (alives_calls) rfl ?_
    rintro e w ⟨rfl, hT⟩
    refine ⟨_, rfl, ?_⟩
    replace hS := hS.after hT
    refine t_q (q_as (.bool _) rfl) ?_
    refine t_nil ?_
    refine c_ret ?_
    refine r_one rfl rfl ?_
    exact ⟨rfl, hS.nil⟩
  · intro hc2
    have hc2d := of_decide_eq_false hc2
    have h60 : l.length ≤ 60 := by omega
    refine c_skip ?_
    refine c_seq ?_
    refine c_region ?_
    refine t_q (q_mv (.int _ _) rfl) ?_
    refine t_call Try.call30 (new_any) rfl ?_
    rintro e w ⟨n', q, rfl, hnq, hT⟩
    refine ⟨_, rfl, ?_⟩
    replace hS := hS.after hT
    refine t_q (q_mv (.tuple _) rfl) ?_
    refine t_q (q_extract rfl rfl) ?_
    refine t_q (q_extract rfl rfl) ?_
    refine t_alloc Try.zeroValue27 rfl hS (fun g9 w hS => ?_)
    refine t_store (v := (.agg _)) Try.sizeOf27 hS (by repeat first | exact .here _ _ | assumption | apply Pick.there) rfl rfl rfl rfl rfl rfl (fun w hS => ?_)
    replace hS := hS.recast (show blkA g9 27 _ = blkA g9 27 (tcs n' (fun _ => 0)) from rfl)
    refine t_q (q_as (.int _ _) rfl) ?_
    refine t_nil ?_
    refine c_seq ?_
    refine c_seq ?_
    refine c_region ?_
    refine t_q (q_mv (.int _ _) rfl) ?_
    refine t_q (q_lss rfl rfl) ?_
    refine t_q (q_mv (.bool _) rfl) ?_
    refine t_case 29 rfl ?_ ?_
    · intro hg8
      have hg8d := of_decide_eq_true hg8
      refine t_no rfl rfl (by rw [hg8]; decide) ?_
      refine t_no rfl rfl (by rw [hg8]; decide) ?_
      refine t_q (q_pick_t rfl hg8) ?_
      refine t_nil ?_
      refine c_cond_t rfl rfl ?_
      obtain ⟨hnn, hqq⟩ : n' = 0 ∧ q = 2 := by omega
      subst hnn hqq
      refine c_seq ?_
      refine c_region ?_
      refine t_q (q_mv (.int _ _) rfl) ?_
      refine t_q (q_cast (v' := .bool true) (q_eql rfl rfl) (by rfl)) ?_
      refine t_q (q_mv (.bool _) rfl) ?_
      refine t_yes rfl rfl rfl ?_
      refine t_q (q_load_blk Try.isAgg27 Try.sizeOf27 rfl (hS.blk (by repeat first | exact .here _ _ | assumption | apply Pick.there)) rfl) ?_
      refine t_yes rfl rfl rfl ?_
      refine t_call Try.call31 (reps_calls) rfl ?_
      rintro e w ⟨rfl, hT⟩
      refine ⟨_, rfl, ?_⟩
      replace hS := hS.after hT
      refine t_yes rfl rfl rfl ?_
      refine t_q (q_cast (v' := .bool true) (q_eql rfl rfl) (by rfl)) ?_
      refine t_q (q_pick_t rfl rfl) ?_
      refine t_q (q_mv (.bool _) rfl) ?_
      refine t_yes rfl rfl rfl ?_
      refine t_q (q_load_blk Try.isAgg27 Try.sizeOf27 rfl (hS.blk (by repeat first | exact .here _ _ | assumption | apply Pick.there)) rfl) ?_
      refine t_yes rfl rfl rfl ?_
      refine t_q (q_mv (.int _ _) rfl) ?_
      refine t_yes rfl rfl rfl ?_
      refine t_call Try.call32 (all_calls (by omega) zero_b) rfl ?_
      rintro e w ⟨rfl, hT⟩
      refine ⟨_, rfl, ?_⟩
      replace hS := hS.after hT
      refine t_yes rfl rfl rfl ?_
      refine t_q (q_cast (v' := .bool true) (q_not rfl) (by simp [allT])) ?_
      refine t_q (q_pick_t rfl rfl) ?_
      refine t_q (q_mv (.bool _) rfl) ?_
      refine t_yes rfl rfl rfl ?_
      refine t_call Try.call29 (alives_calls) rfl ?_
      rintro e w ⟨rfl, hT⟩
      refine ⟨_, rfl, ?_⟩
      replace hS := hS.after hT
      refine t_q (q_pick_t rfl rfl) ?_
      refine t_q (q_as (.bool _) rfl) ?_
      refine t_nil ?_
      refine c_ret ?_
      refine r_one rfl rfl ?_
      exact ⟨rfl, hS.nil⟩
    · intro hg8
      have hg8d := of_decide_eq_false hg8
      refine t_yes rfl rfl hg8 ?_
      refine t_q (q_mv (.int _ _) rfl) ?_
      refine t_yes rfl rfl hg8 ?_
      refine t_q (q_gtr rfl rfl) ?_
      refine t_q (q_pick_f rfl hg8) ?_
      refine t_nil ?_
      refine c_cond rfl ?_ ?_
      · intro hc15
        have hc15d := of_decide_eq_true hc15
        obtain ⟨hnn, hqq⟩ : n' = 0 ∧ q = 2 := by omega
        subst hnn hqq
        refine c_seq ?_
        refine c_region ?_
        refine t_q (q_mv (.int _ _) rfl) ?_
        refine t_q (q_cast (v' := .bool true) (q_eql rfl rfl) (by rfl)) ?_
        refine t_q (q_mv (.bool _) rfl) ?_
        refine t_yes rfl rfl rfl ?_
        refine t_q (q_load_blk Try.isAgg27 Try.sizeOf27 rfl (hS.blk (by repeat first | exact .here _ _ | assumption | apply Pick.there)) rfl) ?_
        refine t_yes rfl rfl rfl ?_
        refine t_call Try.call31 (reps_calls) rfl ?_
        rintro e w ⟨rfl, hT⟩
        refine ⟨_, rfl, ?_⟩
        replace hS := hS.after hT
        refine t_yes rfl rfl rfl ?_
        refine t_q (q_cast (v' := .bool true) (q_eql rfl rfl) (by rfl)) ?_
        refine t_q (q_pick_t rfl rfl) ?_
        refine t_q (q_mv (.bool _) rfl) ?_
        refine t_yes rfl rfl rfl ?_
        refine t_q (q_load_blk Try.isAgg27 Try.sizeOf27 rfl (hS.blk (by repeat first | exact .here _ _ | assumption | apply Pick.there)) rfl) ?_
        refine t_yes rfl rfl rfl ?_
        refine t_q (q_mv (.int _ _) rfl) ?_
        refine t_yes rfl rfl rfl ?_
        refine t_call Try.call32 (all_calls (by omega) zero_b) rfl ?_
        rintro e w ⟨rfl, hT⟩
        refine ⟨_, rfl, ?_⟩
        replace hS := hS.after hT
        refine t_yes rfl rfl rfl ?_
        refine t_q (q_cast (v' := .bool true) (q_not rfl) (by simp [allT])) ?_
        refine t_q (q_pick_t rfl rfl) ?_
        refine t_q (q_mv (.bool _) rfl) ?_
        refine t_yes rfl rfl rfl ?_
        refine t_call Try.call29 (alives_calls) rfl ?_
        rintro e w ⟨rfl, hT⟩
        refine ⟨_, rfl, ?_⟩
        replace hS := hS.after hT
        refine t_q (q_pick_t rfl rfl) ?_
        refine t_q (q_as (.bool _) rfl) ?_
        refine t_nil ?_
        refine c_ret ?_
        refine r_one rfl rfl ?_
        exact ⟨rfl, hS.nil⟩
      · intro hc15
        have hc15d := of_decide_eq_false hc15
        obtain ⟨hn, hnn, hqq⟩ : (1 ≤ n ∧ n ≤ 7) ∧ n = n' ∧ q = 0 := by omega
        subst hnn hqq
        refine c_skip ?_
        refine c_seq ?_
        refine c_region ?_
        refine t_q (q_mv (.int _ _) rfl) ?_
        refine t_q (q_build (qs := [(0, 1), (1, 1)]) [(.int _ _), (.slice _ _ _)] Try.zeroValue35 Try.runUnderlying35 ⟨rfl, Try.sizeOf3, rfl, Try.sizeOf33, trivial⟩ rfl rfl) ?_
        refine t_alloc Try.zeroValue35 rfl hS (fun g11 w hS => ?_)
        refine t_store (v := (.agg _)) Try.sizeOf35 hS (by repeat first | exact .here _ _ | assumption | apply Pick.there) rfl rfl rfl rfl rfl rfl (fun w hS => ?_)
        refine t_nil ?_
        refine c_seq ?_
        refine c_seq ?_
        refine c_region ?_
        refine t_q (q_mv (.slice _ _ _) rfl) ?_
        refine t_q (q_len_slice Try.runUnderlying22 rfl) ?_
        refine t_q (q_move) ?_
        refine t_nil ?_
        refine c_block ?_
        refine c_loop [8, 13, 14, 15, 16, 17, 53, 54, 55, 56, 57, 58, 59, 60, 61, 62, 63, 64, 65, 66, 67, 68, 69, 70, 71, 72, 73, 74, 75, 76, 77, 78, 79, 80, 81, 82, 83, 84, 85, 86, 87, 88, 89, 90, 91, 92, 93, 94, 95, 96, 97, 98, 99, 100, 101, 102, 103, 104, 105, 106, 107] (fun k σ w => ∃ (j : Nat) (L : AckL) (A' : Option Addr) (m c' : Nat), σ 53 = .int .i64 (j : Int) ∧ j ≤ l.length ∧ l.length - j ≤ k ∧ L.length ≤ j ∧ AckOk n L ∧ m = L.length ∧ St W w [blkA g9 27 (tcs n (ofF L)), blkA g11 35 [.int .i64 n, .slice A' m c'], rowA 189 2 A' m c' ((L).flatMap ackC)]) (l.length) rfl (⟨0, [], none, 0, 0, rfl, by omega, by omega, Nat.le_refl _, (fun a h => by cases h), rfl, ((hS.nilrow 189 2).pick (A := blkA g11 35 _) (by repeat first | exact .here _ _ | assumption | apply Pick.there)).pick (A := blkA g9 27 (tcs n (ofF []))) (by repeat first | exact .here _ _ | assumption | apply Pick.there)⟩) ?_
        skip
        rintro k σ w ⟨j, L, A', m, c', h53, hj, hk, hLj, hok, hm', hS⟩
        refine c_know 53 h53 ?_
        clear h53
        subst hm'
        refine c_seq ?_
        refine c_region ?_
        refine t_q (q_lss rfl rfl) ?_
        refine t_nil ?_
        refine c_seq ?_
        refine c_cond rfl ?_ ?_
        · intro hc22
          have hc22d := of_decide_eq_true hc22
          refine c_skip ?_
          refine c_seq ?_
          refine c_block ?_
          refine c_seq ?_
          refine c_region ?_
          first | refine t_index_nat Try.runUnderlying22 Try.sizeOf37 (hl.st hS) rfl rfl (by omega) (fun ad23 hl23 hx23 => ?_) | refine t_index Try.runUnderlying22 Try.sizeOf37 (hl.st hS) rfl rfl (by omega) (fun ad23 hl23 hx23 => ?_)
          refine t_q (q_loadN Try.isAgg37 Try.sizeOf37 rfl hl23 hx23) ?_
          refine t_alloc Try.zeroValue37 rfl hS (fun g13 w hS => ?_)
          refine t_store (v := (.agg _)) Try.sizeOf37 hS (by repeat first | exact .here _ _ | assumption | apply Pick.there) rfl rfl rfl rfl rfl rfl (fun w hS => ?_)
          replace hS := hS.recast (show blkA g13 37 _ = blkA g13 37 (aof l j) from rfl)
          refine t_nil ?_
          refine c_cut [8, 14, 15, 16, 17, 57, 58, 59, 60, 61, 62, 63, 64, 65, 66, 67, 68, 69, 70, 71, 72, 73, 74, 75, 76, 77, 78, 79, 80, 81, 82, 83, 84, 85, 86, 87, 88, 89, 90] (fun σ w => ∃ (L' : AckL) (A' : Option Addr) (m c' : Nat), L'.length ≤ j + 1 ∧ AckOk n L' ∧ m = L'.length ∧ St W w [blkA g9 27 (tcs n (ofF L')), blkA g11 35 [.int .i64 n, .slice A' m c'], blkA g13 37 (aof l j), rowA 189 2 A' m c' ((L').flatMap ackC)]) rfl ?_ ?_
          ·
            refine c_seq ?_
            refine c_region ?_
            refine t_q (q_fieldAddr 0 Try.runUnderlying37 rfl Try.sizeOf3 (by decide) rfl rfl) ?_
            refine t_q (q_load1 Try.isAgg3 rfl (hS.cell (by repeat first | exact .here _ _ | assumption | apply Pick.there) rfl)) ?_
            refine t_q (q_eql rfl rfl) ?_
            refine t_nil ?_
            refine c_cond rfl ?_ ?_
            · intro hc25
              have hc25d := of_decide_eq_true hc25
              refine c_draw ?_
              refine d_keep3 (blkA g9 27 (tcs n (ofF L))) (blkA g11 35 [.int .i64 n, .slice A' L.length c']) (blkA g13 37 (aof l j)) 10 [0, 1, 2, 3, 4, 5, 6, 7, 8, 9] [0, 1, 2, 3, 4, 5, 6, 7, 8, 9] hS rfl (by kernel_rfl) (by kernel_rfl) (by kernel_rfl) (by kernel_rfl) (fun hap hsel w hS => ?_)
              refine p_q hap hsel 0 rfl rfl ⟨_, (((hS.pick (A := blkA g13 37 (aof l j)) (by repeat first | exact .here _ _ | assumption | apply Pick.there)).pick (A := blkA g11 35 [.int .i64 n, .slice A' L.length c']) (by repeat first | exact .here _ _ | assumption | apply Pick.there)).pick (A := blkA g9 27 (tcs n (ofF L))) (by repeat first | exact .here _ _ | assumption | apply Pick.there))⟩ (fun w hI => q_load_blk Try.isAgg27 Try.sizeOf27 rfl (hI.choose_spec.blk (by repeat first | exact .here _ _ | assumption | apply Pick.there)) rfl) ?_
              refine p_q hap hsel 1 rfl rfl ⟨_, (((hS.pick (A := blkA g13 37 (aof l j)) (by repeat first | exact .here _ _ | assumption | apply Pick.there)).pick (A := blkA g11 35 [.int .i64 n, .slice A' L.length c']) (by repeat first | exact .here _ _ | assumption | apply Pick.there)).pick (A := blkA g9 27 (tcs n (ofF L))) (by repeat first | exact .here _ _ | assumption | apply Pick.there))⟩ (fun w hI => q_fieldAddr 2 Try.runUnderlying37 rfl Try.sizeOf3 (by decide) rfl rfl) ?_
              refine p_q hap hsel 2 rfl rfl ⟨_, (((hS.pick (A := blkA g13 37 (aof l j)) (by repeat first | exact .here _ _ | assumption | apply Pick.there)).pick (A := blkA g11 35 [.int .i64 n, .slice A' L.length c']) (by repeat first | exact .here _ _ | assumption | apply Pick.there)).pick (A := blkA g9 27 (tcs n (ofF L))) (by repeat first | exact .here _ _ | assumption | apply Pick.there))⟩ (fun w hI => q_load1 Try.isAgg3 rfl (hI.choose_spec.cell (by repeat first | exact .here _ _ | assumption | apply Pick.there) rfl)) ?_
              refine p_q hap hsel 4 rfl rfl ⟨_, (((hS.pick (A := blkA g13 37 (aof l j)) (by repeat first | exact .here _ _ | assumption | apply Pick.there)).pick (A := blkA g11 35 [.int .i64 n, .slice A' L.length c']) (by repeat first | exact .here _ _ | assumption | apply Pick.there)).pick (A := blkA g9 27 (tcs n (ofF L))) (by repeat first | exact .here _ _ | assumption | apply Pick.there))⟩ (fun w hI => q_load_blk Try.isAgg35 Try.sizeOf35 rfl (hI.choose_spec.blk (by repeat first | exact .here _ _ | assumption | apply Pick.there)) rfl) ?_
              refine p_q hap hsel 5 rfl rfl ⟨_, (((hS.pick (A := blkA g13 37 (aof l j)) (by repeat first | exact .here _ _ | assumption | apply Pick.there)).pick (A := blkA g11 35 [.int .i64 n, .slice A' L.length c']) (by repeat first | exact .here _ _ | assumption | apply Pick.there)).pick (A := blkA g9 27 (tcs n (ofF L))) (by repeat first | exact .here _ _ | assumption | apply Pick.there))⟩ (fun w hI => q_fieldAddr 2 Try.runUnderlying37 rfl Try.sizeOf3 (by decide) rfl rfl) ?_
              refine p_q hap hsel 6 rfl rfl ⟨_, (((hS.pick (A := blkA g13 37 (aof l j)) (by repeat first | exact .here _ _ | assumption | apply Pick.there)).pick (A := blkA g11 35 [.int .i64 n, .slice A' L.length c']) (by repeat first | exact .here _ _ | assumption | apply Pick.there)).pick (A := blkA g9 27 (tcs n (ofF L))) (by repeat first | exact .here _ _ | assumption | apply Pick.there))⟩ (fun w hI => q_load1 Try.isAgg3 rfl (hI.choose_spec.cell (by repeat first | exact .here _ _ | assumption | apply Pick.there) rfl)) ?_
              refine p_one 3 rfl (by kernel_rfl) ?_
              refine t_call Try.call33 (drop_calls (ofF_b L)) rfl ?_
              rintro e w ⟨rfl, hT⟩
              refine ⟨_, rfl, ?_⟩
              replace hS := hS.after hT
              refine t_nil ?_
              refine ⟨.inr ⟨_, (((hS.pick (A := blkA g13 37 (aof l j)) (by repeat first | exact .here _ _ | assumption | apply Pick.there)).pick (A := blkA g11 35 [.int .i64 n, .slice A' L.length c']) (by repeat first | exact .here _ _ | assumption | apply Pick.there)).pick (A := blkA g9 27 (tcs n (ofF L))) (by repeat first | exact .here _ _ | assumption | apply Pick.there))⟩, ?_⟩
              refine p_one 7 rfl (by kernel_rfl) ?_
              refine t_call Try.call34 (drop2_calls (rowRdA hS (by repeat first | exact .here _ _ | assumption | apply Pick.there) rfl) (by omega)) rfl ?_
              rintro e w ⟨A67, m67, c67, rfl, hm67, hT⟩
              refine ⟨_, rfl, ?_⟩
              have hS : St W w (_ :: _) := hS.lift hT
              refine t_nil ?_
              refine ⟨.inr ⟨_, (((hS.pick (A := blkA g13 37 (aof l j)) (by repeat first | exact .here _ _ | assumption | apply Pick.there)).pick (A := blkA g11 35 [.int .i64 n, .slice A' L.length c']) (by repeat first | exact .here _ _ | assumption | apply Pick.there)).pick (A := blkA g9 27 (tcs n (ofF L))) (by repeat first | exact .here _ _ | assumption | apply Pick.there))⟩, ?_⟩
              refine p_one 8 rfl (by kernel_rfl) ?_
              refine t_store (v := (.agg _)) Try.sizeOf27 hS (by repeat first | exact .here _ _ | assumption | apply Pick.there) rfl rfl rfl rfl rfl rfl (fun w hS => ?_)
              replace hS := hS.recast (show blkA g9 27 _ = blkA g9 27 (tcs n (ofF (dropL L (l.getD j default).version))) from congrArg (blkA g9 27 ·) ofF_drop)
              refine t_nil ?_
              refine ⟨.inl (by kernel_rfl), ?_⟩
              refine p_one 9 rfl (by kernel_rfl) ?_
              refine t_store (v := (.agg _)) Try.sizeOf35 hS (by repeat first | exact .here _ _ | assumption | apply Pick.there) rfl rfl rfl rfl rfl rfl (fun w hS => ?_)
              refine t_nil ?_
              refine ⟨.inl (by kernel_rfl), ?_⟩
              refine p_end (by kernel_rfl) ?_
              first
                | exact ⟨(dropL L (l.getD j default).version), _, _, _, by have := dropL_len L (l.getD j default).version; omega, hok.drop, hm67, (((((hS.pick (A := rowA 189 2 A67 m67 c67 (((dropL L (l.getD j default).version)).flatMap ackC)) (by repeat first | exact .here _ _ | assumption | apply Pick.there)).pick (A := blkA g13 37 (aof l j)) (by repeat first | exact .here _ _ | assumption | apply Pick.there)).pick (A := blkA g11 35 _) (by repeat first | exact .here _ _ | assumption | apply Pick.there)).pick (A := blkA g9 27 (tcs n (ofF (dropL L (l.getD j default).version)))) (by repeat first | exact .here _ _ | assumption | apply Pick.there))).front4⟩
                | exact ⟨L2, _, _, _, by omega, hok2, hm83, (((((hS.pick (A := rowA 189 2 A83 m83 c83 ((L2).flatMap ackC)) (by repeat first | exact .here _ _ | assumption | apply Pick.there)).pick (A := blkA g13 37 (aof l j)) (by repeat first | exact .here _ _ | assumption | apply Pick.there)).pick (A := blkA g11 35 _) (by repeat first | exact .here _ _ | assumption | apply Pick.there)).pick (A := blkA g9 27 (tcs n (ofF L2))) (by repeat first | exact .here _ _ | assumption | apply Pick.there))).front4⟩
            · intro hc25
              have hc25d := of_decide_eq_false hc25
              refine c_seq ?_
              refine c_region ?_
              refine t_q (q_load_blk Try.isAgg27 Try.sizeOf27 rfl (hS.blk (by repeat first | exact .here _ _ | assumption | apply Pick.there)) rfl) ?_
              refine t_q (q_fieldAddr 1 Try.runUnderlying37 rfl Try.sizeOf3 (by decide) rfl rfl) ?_
              refine t_q (q_load1 Try.isAgg3 rfl (hS.cell (by repeat first | exact .here _ _ | assumption | apply Pick.there) rfl)) ?_
              refine t_q (q_fieldAddr 2 Try.runUnderlying37 rfl Try.sizeOf3 (by decide) rfl rfl) ?_
              refine t_q (q_load1 Try.isAgg3 rfl (hS.cell (by repeat first | exact .here _ _ | assumption | apply Pick.there) rfl)) ?_
              refine t_call Try.call35 (add_both hn.2) rfl ?_
              rintro e w ⟨L2, q2, rfl, hq2, hT⟩
              refine ⟨_, rfl, ?_⟩
              replace hS := hS.after hT
              obtain ⟨hok2, hl2⟩ := hok.both hq2
              refine t_q (q_mv (.tuple _) rfl) ?_
              refine t_q (q_extract rfl rfl) ?_
              refine t_q (q_extract rfl rfl) ?_
              refine t_alloc Try.zeroValue27 rfl hS (fun g14 w hS => ?_)
              refine t_store (v := (.agg _)) Try.sizeOf27 hS (by repeat first | exact .here _ _ | assumption | apply Pick.there) rfl rfl rfl rfl rfl rfl (fun w hS => ?_)
              replace hS := hS.recast (show blkA g14 27 _ = blkA g14 27 (tcs n (ofF L2)) from rfl)
              refine t_q (q_as (.int _ _) rfl) ?_
              refine t_nil ?_
              refine c_seq ?_
              refine c_region ?_
              refine t_q (q_load_blk Try.isAgg35 Try.sizeOf35 rfl (hS.blk (by repeat first | exact .here _ _ | assumption | apply Pick.there)) rfl) ?_
              refine t_q (q_fieldAddr 1 Try.runUnderlying37 rfl Try.sizeOf3 (by decide) rfl rfl) ?_
              refine t_q (q_load1 Try.isAgg3 rfl (hS.cell (by repeat first | exact .here _ _ | assumption | apply Pick.there) rfl)) ?_
              refine t_q (q_fieldAddr 2 Try.runUnderlying37 rfl Try.sizeOf3 (by decide) rfl rfl) ?_
              refine t_q (q_load1 Try.isAgg3 rfl (hS.cell (by repeat first | exact .here _ _ | assumption | apply Pick.there) rfl)) ?_
              have hA2 : Calls Try.prog 36 #[.agg #[.int .i64 n, .slice A' L.length c'], .int .i64 (l.getD j default).replica, .int .i64 (l.getD j default).version] w (fun e w' => ∃ A83 m83 c83, e = .returned (.tuple #[.agg #[.int .i64 n, .slice A83 m83 c83], .int .i64 q2]) ∧ m83 = L2.length ∧ St W w' [rowA 189 2 A83 m83 c83 ((L2).flatMap ackC), blkA g9 27 (tcs n (ofF L)), blkA g11 35 [.int .i64 n, .slice A' L.length c'], blkA g13 37 (aof l j), blkA g14 27 (tcs n (ofF L2))]) :=
                (add2_both (n := n) (r := (l.getD j default).replica) (v := (l.getD j default).version) (rowRdA hS (by repeat first | exact .here _ _ | assumption | apply Pick.there) rfl) (by omega)).mono fun e w' hh => by
                  rcases hq2 with ⟨hin, rfl, hLL⟩ | ⟨hin, rfl, hLL⟩ <;> replace hLL := hLL.symm <;> subst hLL
                  · rcases hh with ⟨_, A83, m83, c83, he, hm83, hT⟩ | ⟨hno, _⟩
                    · exact ⟨A83, m83, c83, he, hm83, (((((((hS.lift hT).pick (A := blkA g14 27 (tcs n (ofF _))) (by repeat first | exact .here _ _ | assumption | apply Pick.there)).pick (A := blkA g13 37 (aof l j)) (by repeat first | exact .here _ _ | assumption | apply Pick.there)).pick (A := blkA g11 35 [.int .i64 n, .slice A' L.length c']) (by repeat first | exact .here _ _ | assumption | apply Pick.there)).pick (A := blkA g9 27 (tcs n (ofF L))) (by repeat first | exact .here _ _ | assumption | apply Pick.there)).pick (A := rowA 189 2 A83 m83 c83 ((L ++ [((l.getD j default).replica, (l.getD j default).version)]).flatMap ackC)) (by repeat first | exact .here _ _ | assumption | apply Pick.there))).front5⟩
                    · exact absurd hin hno
                  · rcases hh with ⟨hin2, _⟩ | ⟨_, he, hT⟩
                    · exact absurd hin2 hin
                    · exact ⟨A', _, c', he, rfl, (((((((hS.after hT).pick (A := blkA g14 27 (tcs n (ofF _))) (by repeat first | exact .here _ _ | assumption | apply Pick.there)).pick (A := blkA g13 37 (aof l j)) (by repeat first | exact .here _ _ | assumption | apply Pick.there)).pick (A := blkA g11 35 [.int .i64 n, .slice A' L.length c']) (by repeat first | exact .here _ _ | assumption | apply Pick.there)).pick (A := blkA g9 27 (tcs n (ofF L))) (by repeat first | exact .here _ _ | assumption | apply Pick.there)).pick (A := rowA 189 2 A' L.length c' ((L).flatMap ackC)) (by repeat first | exact .here _ _ | assumption | apply Pick.there))).front5⟩
              refine t_call Try.call36 hA2 rfl ?_
              rintro e w ⟨A83, m83, c83, rfl, hm83, hS⟩
              refine ⟨_, rfl, ?_⟩
              refine t_q (q_mv (.tuple _) rfl) ?_
              refine t_q (q_extract rfl rfl) ?_
              refine t_q (q_extract rfl rfl) ?_
              refine t_alloc Try.zeroValue35 rfl hS (fun g16 w hS => ?_)
              refine t_store (v := (.agg _)) Try.sizeOf35 hS (by repeat first | exact .here _ _ | assumption | apply Pick.there) rfl rfl rfl rfl rfl rfl (fun w hS => ?_)
              replace hS := hS.recast (show blkA g16 35 _ = blkA g16 35 [.int .i64 n, .slice A83 m83 c83] from rfl)
              refine t_q (q_as (.int _ _) rfl) ?_
              refine t_nil ?_
              refine c_seq ?_
              refine c_seq ?_
              refine c_region ?_
              refine t_q (q_mv (.int _ _) rfl) ?_
              refine t_q (q_mv (.int _ _) rfl) ?_
              refine t_q (q_cast (v' := .bool false) (q_neq rfl rfl) (by simp)) ?_
              refine t_nil ?_
              refine c_cond_f rfl rfl ?_
              refine c_skip ?_
              refine c_draw ?_
              refine d_keep2 (blkA g14 27 (tcs n (ofF L2))) (blkA g16 35 [.int .i64 n, .slice A83 m83 c83]) 4 [0, 1, 2, 3] [0, 2, 1, 3] hS rfl (by kernel_rfl) (by kernel_rfl) (by kernel_rfl) (by kernel_rfl) (fun hap hsel w hS => ?_)
              refine p_q hap hsel 0 rfl rfl ⟨_, ((hS.pick (A := blkA g16 35 [.int .i64 n, .slice A83 m83 c83]) (by repeat first | exact .here _ _ | assumption | apply Pick.there)).pick (A := blkA g14 27 (tcs n (ofF L2))) (by repeat first | exact .here _ _ | assumption | apply Pick.there))⟩ (fun w hI => q_load_blk Try.isAgg27 Try.sizeOf27 rfl (hI.choose_spec.blk (by repeat first | exact .here _ _ | assumption | apply Pick.there)) rfl) ?_
              refine p_q hap hsel 1 rfl rfl ⟨_, ((hS.pick (A := blkA g16 35 [.int .i64 n, .slice A83 m83 c83]) (by repeat first | exact .here _ _ | assumption | apply Pick.there)).pick (A := blkA g14 27 (tcs n (ofF L2))) (by repeat first | exact .here _ _ | assumption | apply Pick.there))⟩ (fun w hI => q_load_blk Try.isAgg35 Try.sizeOf35 rfl (hI.choose_spec.blk (by repeat first | exact .here _ _ | assumption | apply Pick.there)) rfl) ?_
              refine p_one 2 rfl (by kernel_rfl) ?_
              refine t_store (v := (.agg _)) Try.sizeOf27 hS (by repeat first | exact .here _ _ | assumption | apply Pick.there) rfl rfl rfl rfl rfl rfl (fun w hS => ?_)
              replace hS := hS.recast (show blkA g9 27 _ = blkA g9 27 (tcs n (ofF L2)) from rfl)
              refine t_nil ?_
              refine ⟨.inr ⟨_, ((hS.pick (A := blkA g16 35 [.int .i64 n, .slice A83 m83 c83]) (by repeat first | exact .here _ _ | assumption | apply Pick.there)).pick (A := blkA g14 27 (tcs n (ofF L2))) (by repeat first | exact .here _ _ | assumption | apply Pick.there))⟩, ?_⟩
              refine p_one 3 rfl (by kernel_rfl) ?_
              refine t_store (v := (.agg _)) Try.sizeOf35 hS (by repeat first | exact .here _ _ | assumption | apply Pick.there) rfl rfl rfl rfl rfl rfl (fun w hS => ?_)
              refine t_nil ?_
              refine ⟨.inl (by kernel_rfl), ?_⟩
              refine p_end (by kernel_rfl) ?_
              first
                | exact ⟨(dropL L (l.getD j default).version), _, _, _, by have := dropL_len L (l.getD j default).version; omega, hok.drop, hm67, (((((hS.pick (A := rowA 189 2 A67 m67 c67 (((dropL L (l.getD j default).version)).flatMap ackC)) (by repeat first | exact .here _ _ | assumption | apply Pick.there)).pick (A := blkA g13 37 (aof l j)) (by repeat first | exact .here _ _ | assumption | apply Pick.there)).pick (A := blkA g11 35 _) (by repeat first | exact .here _ _ | assumption | apply Pick.there)).pick (A := blkA g9 27 (tcs n (ofF (dropL L (l.getD j default).version)))) (by repeat first | exact .here _ _ | assumption | apply Pick.there))).front4⟩
                | exact ⟨L2, _, _, _, by omega, hok2, hm83, (((((hS.pick (A := rowA 189 2 A83 m83 c83 ((L2).flatMap ackC)) (by repeat first | exact .here _ _ | assumption | apply Pick.there)).pick (A := blkA g13 37 (aof l j)) (by repeat first | exact .here _ _ | assumption | apply Pick.there)).pick (A := blkA g11 35 _) (by repeat first | exact .here _ _ | assumption | apply Pick.there)).pick (A := blkA g9 27 (tcs n (ofF L2))) (by repeat first | exact .here _ _ | assumption | apply Pick.there))).front4⟩
          ·
            rintro σ w ⟨L, A', m, c', hLj, hok, hm', hS⟩
            subst hm'
            refine c_seq ?_
            refine c_region ?_
            refine t_q (q_load_blk Try.isAgg27 Try.sizeOf27 rfl (hS.blk (by repeat first | exact .here _ _ | assumption | apply Pick.there)) rfl) ?_
            refine t_q (q_load_blk Try.isAgg35 Try.sizeOf35 rfl (hS.blk (by repeat first | exact .here _ _ | assumption | apply Pick.there)) rfl) ?_
            refine t_q (q_mv (.int _ _) rfl) ?_
            refine t_q (q_mv (.int _ _) rfl) ?_
            refine t_call Try.call37 (like_calls (rowRdA hS (by repeat first | exact .here _ _ | assumption | apply Pick.there) rfl) (by omega) (by omega) hok) rfl ?_
            rintro e w ⟨rfl, hT⟩
            refine ⟨_, rfl, ?_⟩
            replace hS := hS.after hT
            refine t_q (q_cast (v' := .bool false) (q_not rfl) (by rfl)) ?_
            refine t_q (q_mv (.bool _) rfl) ?_
            refine t_yes rfl rfl rfl ?_
            refine t_q (q_load_blk Try.isAgg27 Try.sizeOf27 rfl (hS.blk (by repeat first | exact .here _ _ | assumption | apply Pick.there)) rfl) ?_
            refine t_yes rfl rfl rfl ?_
            refine t_q (q_load_blk Try.isAgg35 Try.sizeOf35 rfl (hS.blk (by repeat first | exact .here _ _ | assumption | apply Pick.there)) rfl) ?_
            refine t_yes rfl rfl rfl ?_
            refine t_q (q_fieldAddr 1 Try.runUnderlying37 rfl Try.sizeOf3 (by decide) rfl rfl) ?_
            refine t_yes rfl rfl rfl ?_
            refine t_q (q_load1 Try.isAgg3 rfl (hS.cell (by repeat first | exact .here _ _ | assumption | apply Pick.there) rfl)) ?_
            refine t_yes rfl rfl rfl ?_
            refine t_q (q_fieldAddr 2 Try.runUnderlying37 rfl Try.sizeOf3 (by decide) rfl rfl) ?_
            refine t_yes rfl rfl rfl ?_
            refine t_q (q_load1 Try.isAgg3 rfl (hS.cell (by repeat first | exact .here _ _ | assumption | apply Pick.there) rfl)) ?_
            refine t_yes rfl rfl rfl ?_
            refine t_call Try.call37 (like_calls (rowRdA hS (by repeat first | exact .here _ _ | assumption | apply Pick.there) rfl) (by omega) (by omega) hok) rfl ?_
            rintro e w ⟨rfl, hT⟩
            refine ⟨_, rfl, ?_⟩
            replace hS := hS.after hT
            refine t_yes rfl rfl rfl ?_
            refine t_q (q_cast (v' := .bool false) (q_not rfl) (by rfl)) ?_
            refine t_q (q_pick_f rfl rfl) ?_
            refine t_nil ?_
            refine c_cond_f rfl rfl ?_
            refine c_skip ?_
            refine c_region ?_
            refine t_q (q_add_i64 rfl rfl (by omega)) ?_
            refine t_q (q_mv (.int _ _) rfl) ?_
            refine t_nil ?_
            exact ⟨k - 1, by omega, j + 1, L, A', L.length, c', rfl, by omega, by omega, hLj, hok, rfl, ((((hS.pick (A := rowA 189 2 A' L.length c' ((L).flatMap ackC)) (by repeat first | exact .here _ _ | assumption | apply Pick.there)).pick (A := blkA g11 35 _) (by repeat first | exact .here _ _ | assumption | apply Pick.there)).pick (A := blkA g9 27 (tcs n (ofF L))) (by repeat first | exact .here _ _ | assumption | apply Pick.there))).front3⟩
        · intro hc22
          have hc22d := of_decide_eq_false hc22
          refine c_exit ?_
          refine ite_t rfl ?_
          refine c_seq ?_
          refine c_region ?_
          refine t_q (q_mv (.int _ _) rfl) ?_
          refine t_q (q_cast (v' := .bool true) (q_eql rfl rfl) (by rfl)) ?_
          refine t_q (q_mv (.bool _) rfl) ?_
          refine t_yes rfl rfl rfl ?_
          refine t_q (q_load_blk Try.isAgg27 Try.sizeOf27 rfl (hS.blk (by repeat first | exact .here _ _ | assumption | apply Pick.there)) rfl) ?_
          refine t_yes rfl rfl rfl ?_
          refine t_q (q_load_blk Try.isAgg35 Try.sizeOf35 rfl (hS.blk (by repeat first | exact .here _ _ | assumption | apply Pick.there)) rfl) ?_
          refine t_yes rfl rfl rfl ?_
          refine t_q (q_mv (.int _ _) rfl) ?_
          refine t_yes rfl rfl rfl ?_
          refine t_q (q_mv (.int _ _) rfl) ?_
          refine t_yes rfl rfl rfl ?_
          refine t_call Try.call37 (like_calls (rowRdA hS (by repeat first | exact .here _ _ | assumption | apply Pick.there) rfl) (by omega) (by omega) hok) rfl ?_
          rintro e w ⟨rfl, hT⟩
          refine ⟨_, rfl, ?_⟩
          replace hS := hS.after hT
          refine t_q (q_pick_t rfl rfl) ?_
          refine t_q (q_mv (.bool _) rfl) ?_
          refine t_yes rfl rfl rfl ?_
          refine t_q (q_mv (.int _ _) rfl) ?_
          refine t_yes rfl rfl rfl ?_
          refine t_call Try.call38 (bit_calls) rfl ?_
          rintro e w ⟨rfl, hT⟩
          refine ⟨_, rfl, ?_⟩
          replace hS := hS.after hT
          refine t_yes rfl rfl rfl ?_
          refine t_q (q_mv (.int _ _) rfl) ?_
          refine t_yes rfl rfl rfl ?_
          refine t_call Try.call39 (qbit_calls) rfl ?_
          rintro e w ⟨rfl, hT⟩
          refine ⟨_, rfl, ?_⟩
          replace hS := hS.after hT
          refine t_yes rfl rfl rfl ?_
          refine t_q (q_cast (v' := .bool true) (q_eql rfl rfl) (by simp)) ?_
          refine t_q (q_pick_t rfl rfl) ?_
          refine t_q (q_mv (.bool _) rfl) ?_
          refine t_yes rfl rfl rfl ?_
          refine t_call Try.call29 (alives_calls) rfl ?_
          rintro e w ⟨rfl, hT⟩
          refine ⟨_, rfl, ?_⟩
          replace hS := hS.after hT
          refine t_q (q_pick_t rfl rfl) ?_
          refine t_q (q_as (.bool _) rfl) ?_
          refine t_nil ?_
          refine c_ret ?_
          refine r_one rfl rfl ?_
          exact ⟨rfl, hS.nil⟩
end Go.Proofs.Ytcikoealneldkaa
