/- Events as bytes: what is written. -/
import Derived.Test.YtlppgpidakfnlaaEu
namespace Go.Proofs.Ytlppgpidakfnlaa
open Go Go.RowKit Go.Lib
variable {W : World}
set_option maxRecDepth 100000 in
theorem kind_calls {n : Int} : Calls Try.prog 150 #[.int .i64 n] W fun e w' => e = .returned (.bool (kindB n)) ∧ St W w' [] := by
  have hS := St.init W
  refine calls_of_wpE (args := [_]) Try.func150 rfl rfl rfl ?_
  refine c_seq ?_
  refine c_region ?_
  refine t_q (q_assign) ?_
  refine t_nil ?_
  refine c_seq ?_
  refine c_region ?_
  refine t_q (q_mv (.int _ _) rfl) ?_
  refine t_q (q_geq rfl rfl) ?_
  refine t_q (q_mv (.bool _) rfl) ?_
  refine t_case 5 rfl ?_ ?_
  · intro hg2
    have hg2d := of_decide_eq_true hg2
    refine t_yes rfl rfl hg2 ?_
    refine t_q (q_mv (.int _ _) rfl) ?_
    refine t_yes rfl rfl hg2 ?_
    refine t_q (q_leq rfl rfl) ?_
    refine t_q (q_pick_t rfl hg2) ?_
    refine t_q (q_as (.bool _) rfl) ?_
    refine t_nil ?_
    refine c_ret ?_
    refine r_one rfl rfl ?_
    refine ⟨congrArg (fun b => Ending.returned (.bool b)) ?_, hS.nil⟩
    unfold kindB
    first | (rw [decide_eq_true (show (1 : Int) ≤ n by omega)]; rfl) | (rw [decide_eq_false (show ¬ (1 : Int) ≤ n by omega)]; rfl)
  · intro hg2
    have hg2d := of_decide_eq_false hg2
    refine t_no rfl rfl (by rw [hg2]; decide) ?_
    refine t_no rfl rfl (by rw [hg2]; decide) ?_
    refine t_q (q_pick_f rfl hg2) ?_
    refine t_q (q_as (.bool _) rfl) ?_
    refine t_nil ?_
    refine c_ret ?_
    refine r_one rfl rfl ?_
    refine ⟨congrArg (fun b => Ending.returned (.bool b)) ?_, hS.nil⟩
    unfold kindB
    first | (rw [decide_eq_true (show (1 : Int) ≤ n by omega)]; rfl) | (rw [decide_eq_false (show ¬ (1 : Int) ≤ n by omega)]; rfl)
set_option maxRecDepth 100000 in
theorem bad_calls {x : Ev} : Calls Try.prog 157 #[.agg x.cells.toArray] W fun e w' => e = .returned (.bool (!kindB x.kind)) ∧ St W w' [] := by
  have hS := St.init W
  refine calls_of_wpE (args := [_]) Try.func157 rfl rfl rfl ?_
  refine c_seq ?_
  refine c_region ?_
  refine t_box (v := (.agg _)) rfl rfl hS (fun g1 w hS => ?_)
  refine t_q (q_assign) ?_
  refine t_nil ?_
  refine c_seq ?_
  refine c_region ?_
  refine t_q (q_fieldAddr 0 Try.runUnderlying206 rfl Try.sizeOf3 (by decide) rfl rfl) ?_
  refine t_q (q_load1 Try.isAgg3 rfl (hS.cell (by repeat first | exact .here _ _ | assumption | apply Pick.there) rfl)) ?_
  refine t_call Try.call150 (kind_calls) rfl ?_
  rintro e w ⟨rfl, hT⟩
  refine ⟨_, rfl, ?_⟩
  replace hS := hS.after hT
  refine t_q (q_not rfl) ?_
  refine t_q (q_as (.bool _) rfl) ?_
  refine t_nil ?_
  refine c_ret ?_
  refine r_one rfl rfl ?_
  exact ⟨rfl, hS.nil⟩
set_option maxRecDepth 100000 in
theorem idx_calls {A : Option Addr} {c : Nat} {l : List Ev} (hR : RdEv W A l) (hm : l.length ≤ 1000000) : Calls Try.prog 161 #[.slice A l.length c, .func (.func 157) #[] #[]] W fun e w' => ∃ r : Int, e = .returned (.int .i64 r) ∧ (0 ≤ r ↔ badL l = true) ∧ St W w' [] := by
  have hS := St.init W
  refine calls_of_wpE (args := [_, _]) Try.func161 rfl rfl rfl ?_
  refine c_seq ?_
  refine c_region ?_
  refine t_q (q_assign) ?_
  refine t_nil ?_
  refine c_seq ?_
  refine c_seq ?_
  refine c_region ?_
  refine t_q (q_mv (.slice _ _ _) rfl) ?_
  refine t_q (q_len_slice Try.runUnderlying112 rfl) ?_
  refine t_q (q_move) ?_
  refine t_nil ?_
  refine c_block ?_
  refine c_loop [4, 5, 8, 9, 10, 11, 12, 13, 14, 15, 16, 17, 18] (fun k σ w => ∃ j : Nat, σ 8 = .int .i64 (j : Int) ∧ j ≤ l.length ∧ l.length - j ≤ k ∧ (∀ i, i < j → kindB (l.getD i default).kind = true) ∧ St W w []) (l.length) rfl (⟨0, rfl, by omega, by omega, (fun i h => absurd h (by omega)), hS⟩) ?_
  skip
  rintro k σ w ⟨j, h8, hj, hk, hall, hS⟩
  refine c_know 8 h8 ?_
  clear h8
  refine c_seq ?_
  refine c_region ?_
  refine t_q (q_lss rfl rfl) ?_
  refine t_nil ?_
  refine c_seq ?_
  refine c_cond rfl ?_ ?_
  · intro hc2
    have hc2d := of_decide_eq_true hc2
    refine c_skip ?_
    refine c_seq ?_
    refine c_block ?_
    refine c_seq ?_
    refine c_region ?_
    refine t_q (q_mv (.int _ _) rfl) ?_
    refine t_q (q_as (.int _ _) rfl) ?_
    refine t_nil ?_
    refine c_seq ?_
    refine c_region ?_
    refine t_q (q_mv (.func _ _ _) rfl) ?_
    refine t_q (q_mv (.slice _ _ _) rfl) ?_
    refine t_q (q_mv (.int _ _) rfl) ?_
    first | refine t_index_nat Try.runUnderlying112 Try.sizeOf206 (hR.st hS) rfl rfl (by omega) (fun ad3 hl3 hx3 => ?_) | refine t_index Try.runUnderlying112 Try.sizeOf206 (hR.st hS) rfl rfl (by omega) (fun ad3 hl3 hx3 => ?_)
    refine t_q (q_loadN Try.isAgg206 Try.sizeOf206 rfl hl3 hx3) ?_
    refine t_callv Try.call157 rfl (bad_calls (x := l.getD j default)) rfl ?_
    rintro e w ⟨rfl, hT⟩
    refine ⟨_, rfl, ?_⟩
    replace hS := hS.after hT
    refine t_nil ?_
    refine c_cond rfl ?_ ?_
    · intro hc5
      have hno : kindB (l.getD j default).kind = false := by simpa using hc5
      refine c_seq ?_
      refine c_region ?_
      refine t_q (q_mv (.int _ _) rfl) ?_
      refine t_q (q_as (.int _ _) rfl) ?_
      refine t_nil ?_
      refine c_ret ?_
      refine r_one rfl rfl ?_
      first
        | exact ⟨_, rfl, ⟨fun _ => badL_iff.2 ⟨j, by omega, hno⟩, fun _ => by omega⟩, hS.nil⟩
        | exact ⟨_, rfl, ⟨fun h => absurd h (by omega), fun h => by
            obtain ⟨i, hi, hb⟩ := badL_iff.1 h
            rw [hall i (by omega)] at hb; cases hb⟩, hS.nil⟩
    · intro hc5
      have hyes : kindB (l.getD j default).kind = true := by simpa using hc5
      refine c_skip ?_
      refine c_region ?_
      refine t_q (q_add_i64 rfl rfl (by omega)) ?_
      refine t_q (q_mv (.int _ _) rfl) ?_
      refine t_nil ?_
      exact ⟨k - 1, by omega, j + 1, rfl, by omega, by omega, (fun i hi => by
        rcases Nat.lt_or_ge i j with h | h
        · exact hall i h
        · obtain rfl : i = j := by omega
          exact hyes), hS⟩
  · intro hc2
    have hc2d := of_decide_eq_false hc2
    refine c_exit ?_
    refine ite_t rfl ?_
    refine c_seq ?_
    refine c_region ?_
    refine t_q (q_assign) ?_
    refine t_nil ?_
    refine c_ret ?_
    refine r_one rfl rfl ?_
    first
      | exact ⟨_, rfl, ⟨fun _ => badL_iff.2 ⟨j, by omega, hno⟩, fun _ => by omega⟩, hS.nil⟩
      | exact ⟨_, rfl, ⟨fun h => absurd h (by omega), fun h => by
          obtain ⟨i, hi, hb⟩ := badL_iff.1 h
          rw [hall i (by omega)] at hb; cases hb⟩, hS.nil⟩
set_option maxRecDepth 100000 in
theorem con_calls {A : Option Addr} {c : Nat} {l : List Ev} (hR : RdEv W A l) (hm : l.length ≤ 1000000) : Calls Try.prog 156 #[.slice A l.length c, .func (.func 157) #[] #[]] W fun e w' => e = .returned (.bool (badL l)) ∧ St W w' [] := by
  have hS := St.init W
  refine calls_of_wpE (args := [_, _]) Try.func156 rfl rfl rfl ?_
  refine c_seq ?_
  refine c_region ?_
  refine t_q (q_assign) ?_
  refine t_nil ?_
  refine c_seq ?_
  refine c_region ?_
  refine t_q (q_mv (.slice _ _ _) rfl) ?_
  refine t_q (q_mv (.func _ _ _) rfl) ?_
  refine t_call Try.call161 (idx_calls (hR.st hS) hm) rfl ?_
  rintro e w ⟨r, rfl, hr, hT⟩
  refine ⟨_, rfl, ?_⟩
  replace hS := hS.after hT
  refine t_q (q_geq rfl rfl) ?_
  refine t_q (q_as (.bool _) rfl) ?_
  refine t_nil ?_
  refine c_ret ?_
  refine r_one rfl rfl ?_
  refine ⟨congrArg (fun b => Ending.returned (.bool b)) ?_, hS.nil⟩
  rw [Bool.eq_iff_iff, decide_eq_true_eq]
  exact hr
set_option maxRecDepth 100000 in
theorem eput_calls {w : World} {L R : List Asn} {g : Nat} {bs : List UInt8} {A : Option Addr} {c : Nat} {l : List Ev} (hS : St W w L) (pk : Pick L (wrA g bs) R) (hrd : ∀ w', St W w' R → RdEv w' A l) (hin : ∀ e ∈ l, e.In) (hm : l.length ≤ 1000000) (hb : bs.length ≤ 1000000000) :
  Calls Try.prog 144 #[.pointer (some ⟨g, 0, none⟩), .slice A l.length c] w fun e w' => e = .returned (.tuple #[]) ∧ St W w' (wrA g (bs ++ evsB l) :: R) := by
  replace hS := hS.pick pk
  clear pk
  have hl0 := encs_length (ns := [(l.length : Int)]) (by intro n hn; simp only [List.mem_cons, List.not_mem_nil, or_false] at hn; omega)
  simp only [List.length_cons, List.length_nil] at hl0
  refine calls_of_wpE (args := [_, _]) Try.func144 rfl rfl rfl ?_
  refine c_seq ?_
  refine c_region ?_
  refine t_q (q_mv (.pointer _) rfl) ?_
  refine t_q (q_mv (.slice _ _ _) rfl) ?_
  refine t_q (q_len_slice Try.runUnderlying112 rfl) ?_
  first | refine t_q (q_conv_u64 Try.runUnderlying3 Try.runUnderlying43 rfl (by omega)) ?_ | refine t_q (q_convm_u64 Try.runUnderlying3 Try.runUnderlying43 rfl) ?_
  refine t_build_ints [_] Try.runUnderlying194 Try.sizeOf43 Try.zeroValue43 rfl rfl (by decide) hS (fun g10 w hS => ?_)
  refine t_call Try.call78 (Nat_calls hS (by repeat first | exact .here _ _ | assumption | apply Pick.there) (fun _ h => h.rowInts (.here _ _) rfl) (by intro m hm; simp only [List.mem_cons, List.not_mem_nil, or_false] at hm; omega) (by simp) (by omega)) rfl ?_
  rintro e w ⟨rfl, hS⟩
  refine ⟨_, rfl, ?_⟩
  replace hS := hS.swap
  refine t_nil ?_
  refine c_seq ?_
  refine c_region ?_
  refine t_q (q_mv (.slice _ _ _) rfl) ?_
  refine t_q (q_len_slice Try.runUnderlying112 rfl) ?_
  refine t_q (q_move) ?_
  refine t_nil ?_
  refine c_block ?_
  refine c_loop [5, 14, 15, 16, 17, 18, 19, 20, 21, 22, 23, 24, 25, 26, 27, 28, 29, 30, 31, 32, 33, 34, 35, 36, 37, 38, 39, 40, 41, 42, 43, 44, 45, 46, 47, 48, 49, 50, 51, 52, 53, 54] (fun k σ w => ∃ j : Nat, σ 14 = .int .i64 (j : Int) ∧ j ≤ l.length ∧ l.length - j ≤ k ∧ St W w (wrA g (bs ++ evP l j) :: R)) (l.length) rfl (⟨0, rfl, by omega, by omega, hS.recast (congrArg (wrA g) (by rw [evP_zero, encs_one, Int.toNat_natCast]))⟩) ?_
  skip
  rintro k σ w ⟨j, h14, hj, hk, hS⟩
  refine c_know 14 h14 ?_
  clear h14
  have hpl := evP_len hin hm j
  refine c_seq ?_
  refine c_region ?_
  refine t_q (q_lss rfl rfl) ?_
  refine t_nil ?_
  refine c_seq ?_
  refine c_cond rfl ?_ ?_
  · intro hc3
    have hc3d := of_decide_eq_true hc3
    have hjl : j < l.length := by omega
    obtain ⟨hz1, hz2, hz3, hz4⟩ := ev_zig (evf_in hin hjl)
    obtain ⟨i1, i2, i3, i4, i5, i6, i7, i8, i9, i10, i11, i12⟩ := evf_in hin hjl
    unfold Ev.sev at hz3
    refine c_skip ?_
    refine c_seq ?_
    refine c_block ?_
    refine c_seq ?_
    refine c_region ?_
    first | refine t_index_nat Try.runUnderlying112 Try.sizeOf206 (hrd _ hS.drop) rfl rfl (by omega) (fun ad4 hl4 hx4 => ?_) | refine t_index Try.runUnderlying112 Try.sizeOf206 (hrd _ hS.drop) rfl rfl (by omega) (fun ad4 hl4 hx4 => ?_)
    refine t_q (q_loadN Try.isAgg206 Try.sizeOf206 rfl hl4 hx4) ?_
    refine t_alloc Try.zeroValue206 rfl hS (fun g5 w hS => ?_)
    refine t_store (v := (.agg _)) Try.sizeOf206 hS (by repeat first | exact .here _ _ | assumption | apply Pick.there) rfl rfl rfl rfl rfl rfl (fun w hS => ?_)
    replace hS := hS.recast (show blkA g5 206 _ = blkA g5 206 (l.getD j default).cells from rfl)
    refine t_nil ?_
    refine c_seq ?_
    refine c_region ?_
    refine t_q (q_mv (.pointer _) rfl) ?_
    refine t_q (q_fieldAddr 0 Try.runUnderlying206 rfl Try.sizeOf3 (by decide) rfl rfl) ?_
    refine t_q (q_load1 Try.isAgg3 rfl (hS.cell (by repeat first | exact .here _ _ | assumption | apply Pick.there) rfl)) ?_
    refine t_q (q_fieldAddr 1 Try.runUnderlying206 rfl Try.sizeOf3 (by decide) rfl rfl) ?_
    refine t_q (q_load1 Try.isAgg3 rfl (hS.cell (by repeat first | exact .here _ _ | assumption | apply Pick.there) rfl)) ?_
    refine t_build_ints [_, _] Try.runUnderlying219 Try.sizeOf2 Try.zeroValue2 rfl rfl (by decide) hS (fun g23 w hS => ?_)
    refine t_call Try.call160 (Int_calls hS (by repeat first | exact .here _ _ | assumption | apply Pick.there) (fun _ h => h.rowInts (.here _ _) rfl) (by intro m hm; simp only [List.mem_cons, List.not_mem_nil, or_false] at hm; omega) (by simp) (by simp only [List.length_append]; omega)) rfl ?_
    rintro e w ⟨rfl, hS⟩
    refine ⟨_, rfl, ?_⟩
    replace hS := hS.swap
    refine t_nil ?_
    refine c_seq ?_
    refine c_region ?_
    refine t_q (q_mv (.pointer _) rfl) ?_
    refine t_q (q_fieldAddr 2 Try.runUnderlying206 rfl Try.sizeOf43 (by decide) rfl rfl) ?_
    refine t_q (q_load1 Try.isAgg43 rfl (hS.cell (by repeat first | exact .here _ _ | assumption | apply Pick.there) rfl)) ?_
    refine t_q (q_fieldAddr 3 Try.runUnderlying206 rfl Try.sizeOf43 (by decide) rfl rfl) ?_
    refine t_q (q_load1 Try.isAgg43 rfl (hS.cell (by repeat first | exact .here _ _ | assumption | apply Pick.there) rfl)) ?_
    refine t_build_ints [_, _] Try.runUnderlying194 Try.sizeOf43 Try.zeroValue43 rfl rfl (by decide) hS (fun g30 w hS => ?_)
    refine t_call Try.call78 (Nat_calls hS (by repeat first | exact .here _ _ | assumption | apply Pick.there) (fun _ h => h.rowInts (.here _ _) rfl) (by intro m hm; simp only [List.mem_cons, List.not_mem_nil, or_false] at hm; omega) (by simp) (by simp only [List.length_append]; omega)) rfl ?_
    rintro e w ⟨rfl, hS⟩
    refine ⟨_, rfl, ?_⟩
    replace hS := hS.swap
    refine t_nil ?_
    refine c_seq ?_
    refine c_region ?_
    refine t_q (q_mv (.pointer _) rfl) ?_
    refine t_q (q_fieldAddr 4 Try.runUnderlying206 rfl Try.sizeOf3 (by decide) rfl rfl) ?_
    refine t_q (q_load1 Try.isAgg3 rfl (hS.cell (by repeat first | exact .here _ _ | assumption | apply Pick.there) rfl)) ?_
    refine t_q (q_fieldAddr 5 Try.runUnderlying206 rfl Try.sizeOf2 (by decide) rfl rfl) ?_
    refine t_q (q_load1 Try.isAgg2 rfl (hS.cell (by repeat first | exact .here _ _ | assumption | apply Pick.there) rfl)) ?_
    refine t_q (q_fieldAddr 6 Try.runUnderlying206 rfl Try.sizeOf2 (by decide) rfl rfl) ?_
    refine t_q (q_load1 Try.isAgg2 rfl (hS.cell (by repeat first | exact .here _ _ | assumption | apply Pick.there) rfl)) ?_
    refine t_q (q_fieldAddr 7 Try.runUnderlying206 rfl Try.sizeOf2 (by decide) rfl rfl) ?_
    refine t_q (q_load1 Try.isAgg2 rfl (hS.cell (by repeat first | exact .here _ _ | assumption | apply Pick.there) rfl)) ?_
    refine t_q (q_fieldAddr 8 Try.runUnderlying206 rfl Try.sizeOf2 (by decide) rfl rfl) ?_
    refine t_q (q_load1 Try.isAgg2 rfl (hS.cell (by repeat first | exact .here _ _ | assumption | apply Pick.there) rfl)) ?_
    refine t_q (q_fieldAddr 9 Try.runUnderlying206 rfl Try.sizeOf29 (by decide) rfl rfl) ?_
    refine t_q (q_load1 Try.isAgg29 rfl (hS.cell (by repeat first | exact .here _ _ | assumption | apply Pick.there) rfl)) ?_
    refine t_q (q_fieldAddr 10 Try.runUnderlying206 rfl Try.sizeOf3 (by decide) rfl rfl) ?_
    refine t_q (q_load1 Try.isAgg3 rfl (hS.cell (by repeat first | exact .here _ _ | assumption | apply Pick.there) rfl)) ?_
    refine t_build_ints [_, _, _, _, _, _, _] Try.runUnderlying219 Try.sizeOf2 Try.zeroValue2 rfl rfl (by decide) hS (fun g47 w hS => ?_)
    refine t_call Try.call160 (Int_calls hS (by repeat first | exact .here _ _ | assumption | apply Pick.there) (fun _ h => h.rowInts (.here _ _) rfl) (by intro m hm; simp only [List.mem_cons, List.not_mem_nil, or_false] at hm; omega) (by simp) (by simp only [List.length_append]; omega)) rfl ?_
    rintro e w ⟨rfl, hS⟩
    refine ⟨_, rfl, ?_⟩
    replace hS := hS.swap
    refine t_nil ?_
    refine c_region ?_
    refine t_q (q_mv (.pointer _) rfl) ?_
    refine t_q (q_fieldAddr 11 Try.runUnderlying206 rfl Try.sizeOf43 (by decide) rfl rfl) ?_
    refine t_q (q_load1 Try.isAgg43 rfl (hS.cell (by repeat first | exact .here _ _ | assumption | apply Pick.there) rfl)) ?_
    refine t_build_ints [_] Try.runUnderlying194 Try.sizeOf43 Try.zeroValue43 rfl rfl (by decide) hS (fun g52 w hS => ?_)
    refine t_call Try.call78 (Nat_calls hS (by repeat first | exact .here _ _ | assumption | apply Pick.there) (fun _ h => h.rowInts (.here _ _) rfl) (by intro m hm; simp only [List.mem_cons, List.not_mem_nil, or_false] at hm; omega) (by simp) (by simp only [List.length_append]; omega)) rfl ?_
    rintro e w ⟨rfl, hS⟩
    refine ⟨_, rfl, ?_⟩
    replace hS := hS.swap
    refine t_nil ?_
    refine c_region ?_
    refine t_q (q_add_i64 rfl rfl (by omega)) ?_
    refine t_q (q_mv (.int _ _) rfl) ?_
    refine t_nil ?_
    exact ⟨k - 1, by omega, j + 1, rfl, by omega, by omega, hS.swap.recast (congrArg (wrA g) (by rw [evP_snoc hjl, evB_parts]; simp only [List.append_assoc]; rfl))⟩
  · intro hc3
    have hc3d := of_decide_eq_false hc3
    obtain rfl : j = l.length := by omega
    refine c_exit ?_
    refine ite_t rfl ?_
    refine r_none rfl  ?_
    exact ⟨rfl, hS.recast (congrArg (wrA g) (by rw [evP_all]))⟩
end Go.Proofs.Ytlppgpidakfnlaa
