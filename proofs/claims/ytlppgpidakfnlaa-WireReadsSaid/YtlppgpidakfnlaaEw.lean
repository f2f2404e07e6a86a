/- Events as bytes: what is written. -/
import Derived.Test.YtlppgpidakfnlaaEu
namespace Go.Proofs.Ytlppgpidakfnlaa
open Go Go.RowKit Go.Lib
variable {W : World}
set_option maxRecDepth 100000 in
theorem kind_calls {n : Int} : Calls Try.prog 150 #[.int .i64 n] W fun e w' => e = .returned (.bool (kindB n)) ∧ St W w' [] := by
  have hS := St.init W
  refine calls_of_wpE (args := [_]) Try.func150 rfl rfl rfl ?_
  refine c_seq ?_
  refine c_region ?_
  refine t_q (q_assign) ?_
  refine t_nil ?_
  refine c_seq ?_
  refine c_region ?_
  refine t_q (q_mv (.int _ _) rfl) ?_
  refine t_q (q_geq rfl rfl) ?_
  refine t_q (q_mv (.bool _) rfl) ?_
  refine t_case 5 rfl ?_ ?_
  · intro hg2
    have hg2d := of_decide_eq_true hg2
    refine t_yes rfl rfl hg2 ?_
    refine t_q (q_mv (.int _ _) rfl) ?_
    refine t_yes rfl rfl hg2 ?_
    refine t_q (q_leq rfl rfl) ?_
    refine t_q (q_pick_t rfl hg2) ?_
    refine t_q (q_as (.bool _) rfl) ?_
    refine t_nil ?_
    refine c_ret ?_
    refine r_one rfl rfl ?_
    refine ⟨congrArg (fun b => Ending.returned (.bool b)) ?_, hS.nil⟩
    unfold kindB
    first | (rw [decide_eq_true (show (1 : Int) ≤ n by omega)]; rfl) | (rw [decide_eq_false (show ¬ (1 : Int) ≤ n by omega)]; rfl)
  · intro hg2
    have hg2d := of_decide_eq_false hg2
    refine t_no rfl rfl (by rw [hg2]; decide) ?_
    refine t_no rfl rfl (by rw [hg2]; decide) ?_
    refine t_q (q_pick_f rfl hg2) ?_
    refine t_q (q_as (.bool _) rfl) ?_
    refine t_nil ?_
    refine c_ret ?_
    refine r_one rfl rfl ?_
    refine ⟨congrArg (fun b => Ending.returned (.bool b)) ?_, hS.nil⟩
    unfold kindB
    first | (rw [decide_eq_true (show (1 : Int) ≤ n by omega)]; rfl) | (rw [decide_eq_false (show ¬ (1 : Int) ≤ n by omega)]; rfl)
set_option maxRecDepth 100000 in
theorem bad_calls {x : Ev} : Calls Try.prog 157 #[.agg x.cells.toArray] W fun e w' => e = .returned (.bool (!kindB x.kind)) ∧ St W w' [] := by
  have hS := St.init W
  refine calls_of_wpE (args := [_]) Try.func157 rfl rfl rfl ?_
  refine c_seq ?_
  refine c_region ?_
  refine t_box (v := (.agg _)) rfl rfl hS (fun g1 w hS => ?_)
  refine t_q (q_assign) ?_
  refine t_nil ?_
  refine c_seq ?_
  refine c_region ?_
  refine t_q (q_fieldAddr 0 Try.runUnderlying206 rfl Try.sizeOf3 (by decide) rfl rfl) ?_
  refine t_q (q_load1 Try.isAgg3 rfl (hS.cell (by repeat first | exact .here _ _ | assumption | apply Pick.there) rfl)) ?_
  refine t_call Try.call150 (kind_calls) rfl ?_
  rintro e w ⟨rfl, hT⟩
  refine ⟨_, rfl, ?_⟩
  replace hS := hS.after hT
  refine t_q (q_not rfl) ?_
  refine t_q (q_as (.bool _) rfl) ?_
  refine t_nil ?_
  refine c_ret ?_
  refine r_one rfl rfl ?_
  exact ⟨rfl, hS.nil⟩
set_option maxRecDepth 100000 in
theorem idx_calls {A : Option Addr} {c : Nat} {l : List Ev} (hR : RdEv W A l) (hm : l.length ≤ 1000000) : Calls Try.prog 161 #[.slice A l.length c, .func (.func 157) #[] #[]] W fun e w' => ∃ r : Int, e = .returned (.int .i64 r) ∧ (0 ≤ r ↔ badL l = true) ∧ St W w' [] := by
  have hS := St.init W
  refine calls_of_wpE (args := [_, _]) Try.func161 rfl rfl rfl ?_
  refine c_seq ?_
  refine c_region ?_
  refine t_q (q_assign) ?_
  refine t_nil ?_
  refine c_seq ?_
  refine c_seq ?_
  refine c_region ?_
  refine t_q (q_mv (.slice _ _ _) rfl) ?_
  refine t_q (q_len_slice Try.runUnderlying112 rfl) ?_
  refine t_q (q_move) ?_
  refine t_nil ?_
  refine c_block ?_
  refine c_loop [4, 5, 8, 9, 10, 11, 12, 13, 14, 15, 16, 17, 18] (fun k σ w => ∃ j : Nat, σ 8 = .int .i64 (j : Int) ∧ j ≤ l.length ∧ l.length - j ≤ k ∧ (∀ i, i < j → kindB (l.getD i default).kind = true) ∧ St W w []) (l.length) rfl (⟨0, rfl, by omega, by omega, (fun i h => absurd h (by omega)), hS⟩) ?_
  skip
  rintro k σ w ⟨j, h8, hj, hk, hall, hS⟩
  refine c_know 8 h8 ?_
  clear h8
  refine c_seq ?_
  refine c_region ?_
  refine t_q (q_lss rfl rfl) ?_
  refine t_nil ?_
  refine c_seq ?_
  refine c_cond rfl ?_ ?_
  · intro hc2
    have hc2d := of_decide_eq_true hc2
    refine c_skip ?_
    refine c_seq ?_
    refine c_block ?_
    refine c_seq ?_
    refine c_region ?_
    refine t_q (q_mv (.int _ _) rfl) ?_
    refine t_q (q_as (.int _ _) rfl) ?_
    refine t_nil ?_
    refine c_seq ?_
    refine c_region ?_
    refine t_q (q_mv (.func _ _ _) rfl) ?_
    refine t_q (q_mv (.slice _ _ _) rfl) ?_
    refine t_q (q_mv (.int _ _) rfl) ?_
    first | refine t_index_nat Try.runUnderlying112 Try.sizeOf206 (hR.st hS) rfl rfl (by omega) (fun ad3 hl3 hx3 => ?_) | refine t_index Try.runUnderlying112 Try.sizeOf206 (hR.st hS) rfl rfl (by omega) (fun ad3 hl3 hx3 => ?_)
    refine t_q (q_loadN Try.isAgg206 Try.sizeOf206 rfl hl3 hx3) ?_
    refine t_callv Try.call157 rfl (bad_calls (x := l.getD j default)) rfl ?_
    rintro e w ⟨rfl, hT⟩
    refine ⟨_, rfl, ?_⟩
    replace hS := hS.after hT
    refine t_nil ?_
    refine c_cond rfl ?_ ?_
    · intro hc5
      have hno : kindB (l.getD j default).kind = false := by simpa using hc5
      refine c_seq ?_
      refine c_region ?_
      refine t_q (q_mv (.int _ _) rfl) ?_
      refine t_q (q_as (.int _ _) rfl) ?_
      refine t_nil ?_
      refine c_ret ?_
      refine r_one rfl rfl ?_
      first
        | exact ⟨_, rfl, ⟨fun _ => badL_iff.2 ⟨j, by omega, hno⟩, fun _ => by omega⟩, hS.nil⟩
        | exact ⟨_, rfl, ⟨fun h => absurd h (by omega), fun h => by
            obtain ⟨i, hi, hb⟩ := badL_iff.1 h
            rw [hall i (by omega)] at hb; cases hb⟩, hS.nil⟩
    · intro hc5
      have hyes : kindB (l.getD j default).kind = true := by simpa using hc5
      refine c_skip ?_
      refine c_region ?_
      refine t_q (q_add_i64 rfl rfl (by omega)) ?_
      refine t_q (q_mv (.int _ _) rfl) ?_
      refine t_nil ?_
      exact ⟨k - 1, by omega, j + 1, rfl, by omega, by omega, (fun i hi => by
        rcases Nat.lt_or_ge i j with h | h
        · exact hall i h
        · obtain rfl : i = j := by omega
          exact hyes), hS⟩
  · intro hc2
    have hc2d := of_decide_eq_false hc2
    refine c_exit ?_
    refine ite_t rfl ?_
    refine c_seq ?_
    refine c_region ?_
    refine t_q (q_assign) ?_
    refine t_nil ?_
    refine c_ret ?_
    refine r_one rfl rfl ?_
    first
      | exact ⟨_, rfl, ⟨fun _ => badL_iff.2 ⟨j, by omega, hno⟩, fun _ => by omega⟩, hS.nil⟩
      | exact ⟨_, rfl, ⟨fun h => absurd h (by omega), fun h => by
          obtain ⟨i, hi, hb⟩ := badL_iff.1 h
          rw [hall i (by omega)] at hb; cases hb⟩, hS.nil⟩
set_option maxRecDepth 100000 in
theorem con_calls {A : Option Addr} {c : Nat} {l : List Ev} (hR : RdEv W A l) (hm : l.length ≤ 1000000) : Calls Try.prog 156 #[.slice A l.length c, .func (.func 157) #[] #[]] W fun e w' => e = .returned (.bool (badL l)) ∧ St W w' [] := by
  have hS := St.init W
  refine calls_of_wpE (args := [_, _]) Try.func156 rfl rfl rfl ?_
  refine c_seq ?_
  refine c_region ?_
  refine t_q (q_assign) ?_
  refine t_nil ?_
  refine c_seq ?_
  refine c_region ?_
  refine t_q (q_mv (.slice _ _ _) rfl) ?_
  refine t_q (q_mv (.func _ _ _) rfl) ?_
  refine t_call Try.call161 (idx_calls (hR.st hS) hm) rfl ?_
  rintro e w ⟨r, rfl, hr, hT⟩
  refine ⟨_, rfl, ?_⟩
  replace hS := hS.after hT
  refine t_q (q_geq rfl rfl) ?_
  refine t_q (q_as (.bool _) rfl) ?_
  refine t_nil ?_
  refine c_ret ?_
  refine r_one rfl rfl ?_
  refine ⟨congrArg (fun b => Ending.returned (.bool b)) ?_, hS.nil⟩
  rw [Bool.eq_iff_iff, decide_eq_true_eq]
  exact hr
set_option maxRecDepth 100000 in
theorem eput_calls {w : World} {L R : List Asn} {g : Nat} {bs : List UInt8} {A : Option Addr} {c : Nat} {l : List Ev} (hS : St W w L) (pk : Pick L (wrA g bs) R) (hrd : ∀ w', St W w' R → RdEv w' A l) (hin : ∀ e ∈ l, e.In) (hm : l.length ≤ 1000000) (hb : bs.length ≤ 1000000000) :
  Calls Try.prog 144 #[.pointer (some ⟨g, 0, none⟩), .slice A l.length c] w fun e w' => e = .returned (.tuple #[]) ∧ St W w' (wrA g (bs ++ evsB l) :: R) := by
  replace hS := hS.pick pk
  clear pk
  have hl0 := encs_length (ns := [(l.length : Int)]) (by intro n hn; simp only [List.mem_cons, List.not_mem_nil, or_false] at hn; omega)
  simp only [List.length_cons, List.length_nil] at hl0
  refine calls_of_wpE (args := [_, _]) Try.func144 rfl rfl rfl ?_
  refine c_seq ?_
  refine c_region ?_
  refine t_q (q_mv (.pointer _) rfl) ?_
  refine t_q (q_mv (.slice _ _ _) rfl) ?_
  refine t_q (q_len_slice Try.runUnderlying112 rfl) ?_
  first | refine t_q (q_conv_u64 Try.runUnderlying3 Try.runUnderlying43 rfl (by omega)) ?_ | refine t_q (q_convm_u64 Try.runUnderlying3 Try.runUnderlying43 rfl) ?_
  refine t_build_ints [_] Try.runUnderlying194 Try.sizeOf43 Try.zeroValue43 rfl rfl (by decide) hS (fun g10 w hS => ?_)
  refine t_call Try.call78 (Nat_calls hS (by repeat first | exact .here _ _ | assumption | apply Pick.there) (fun _ h => h.rowInts (.here _ _) rfl) (by intro m hm; simp only [List.mem_cons, List.not_mem_nil, or_false] at hm; omega) (by simp) (by omega)) rfl ?_
  rintro e w ⟨rfl, hS⟩
  refine ⟨_, rfl, ?_⟩
  replace hS := hS.swap
  refine t_nil ?_
  refine c_seq ?_
  refine c_region ?_
  refine t_q (q_mv (.slice _ _ _) rfl) ?_
  refine t_q (q_len_slice Try.runUnderlying112 rfl) ?_
  refine t_q (q_move) ?_
  refine t_nil ?_
  refine c_block ?_
  refine c_loop [5, 14, 15, 16, 17, 18, 19, 20, 21, 22, 23, 24, 25, 26, 27, 28, 29, 30, 31, 32, 33, 34, 35, 36, 37, 38, 39, 40, 41, 42, 43, 44, 45, 46, 47, 48, 49, 50, 51, 52, 53, 54] (fun k σ w => ∃ j : Nat, σ 14 = .int .i64 (j : Int) ∧ j ≤ l.length ∧ l.length - j ≤ k ∧ St W w (wrA g (bs ++ evP l j) :: R)) (l.length) rfl (⟨0, rfl, by omega, by omega, hS.recast (congrArg (wrA g) (by rw [evP_zero, encs_one, Int.toNat_natCast]))⟩) ?_
  skip
  rintro k σ w ⟨j, h14, hj, hk, hS⟩
  refine c_know 14 h14 ?_
  clear h14
  have hpl := evP_len hin hm j
  refine c_seq ?_
  refine c_region ?_
  refine t_q (q_lss rfl rfl) ?_
  refine t_nil ?_
  refine c_seq ?_
  refine c_cond rfl ?_ ?_
  · intro hc3
    have hc3d := of_decide_eq_true hc3
    have hjl : j < l.length := by omega
    obtain ⟨hz1, hz2, hz3, hz4⟩ := ev_zig (evf_in hin hjl)
    obtain ⟨i1, i2, i3, i4, i5, i6, i7, i8, i9, i10, i11, i12⟩ := evf_in hin hjl
    unfold Ev.sev at hz3
    refine c_skip ?_
    refine c_seq ?_
    refine c_block ?_
    refine c_seq ?_
    refine c_region ?_
    first | refine t_index_nat Try.runUnderlying112 Try.sizeOf206 (hrd _ hS.drop) rfl rfl (by omega) (fun ad4 hl4 hx4 => ?_) | refine t_index Try.runUnderlying112 Try.sizeOf206 (hrd _ hS.drop) rfl rfl (by omega) (fun ad4 hl4 hx4 => ?_)
    refine t_q (q_loadN Try.isAgg206 Try.sizeOf206 rfl hl4 hx4) ?_
    refine t_alloc Try.zeroValue206 rfl hS (fun g5 w hS => ?_)
    refine t_store (v := (.agg _)) Try.sizeOf206 hS (by repeat first | exact .here _ _ | assumption | apply Pick.there) rfl rfl rfl rfl rfl rfl (fun w hS => ?_)
    replace hS := hS.recast (show blkA g5 206 _ = blkA g5 206 (l.getD j default).cells from rfl)
    refine t_nil ?_
    refine c_seq ?_
    refine c_region ?_
    refine t_q (q_mv (.pointer _) rfl) ?_
    refine t_q (q_fieldAddr 0 Try.runUnderlying206 rfl Try.sizeOf3 (by decide) rfl rfl) ?_
    refine t_q (q_load1 Try.isAgg3 rfl (hS.cell (by repeat first | exact .here _ _ | assumption | apply Pick.there) rfl)) ?_
    refine t_q (q_fieldAddr 1 Try.runUnderlying206 rfl Try.sizeOf3 (by decide) rfl rfl) ?_
    refine t_q (q_load1 Try.isAgg3 rfl (hS.cell (by repeat first | exact .here _ _ | assumption | apply Pick.there) rfl)) ?_
    refine t_build_ints [_, _] Try.runUnderlying219 Try.sizeOf2 Try.zeroValue2 rfl rfl (by decide) hS (fun g23 w hS => ?_)
    refine t_call Try.call160 (Int_calls hS (by repeat first | exact .here _ _ | assumption | apply Pick.there) (fun _ h => h.rowInts (.here _ _) rfl) (by intro m hm; simp only [List.mem_cons, List.not_mem_nil, or_false] at hm; omega) (by simp) (by simp only [List.length_append]; omega)) rfl ?_
    rintro e w ⟨rfl, hS⟩
    refine ⟨_, rfl, ?_⟩
    replace hS := hS.swap
    refine t_nil ?_
    refine c_seq ?_
    refine c_region ?_
    refine t_q (q_mv (.pointer _) rfl) ?_
    refine t_q (q_fieldAddr 2 Try.runUnderlying206 rfl Try.sizeOf43 (by decide) rfl rfl) ?_
    refine t_q (q_load1 Try.isAgg43 rfl (hS.cell (by repeat first | exact .here _ _ | assumption | apply Pick.there) rfl)) ?_
    refine t_q (q_fieldAddr 3 Try.runUnderlying206 rfl Try.sizeOf43 (by decide) rfl rfl) ?_
    refine t_q (q_load1 Try.isAgg43 rfl (hS.cell (by repeat first | exact .here _ _ | assumption | apply Pick.there) rfl)) ?_
    refine t_build_ints [_, _] Try.runUnderlying194 Try.sizeOf43 Try.zeroValue43 rfl rfl (by decide) hS (fun g30 w hS => ?_)
    refine t_call Try.call78 (Nat_calls hS (by repeat first | exact .here _ _ | assumption | apply Pick.there) (fun _ h => h.rowInts (.here _ _) rfl) (by intro m hm; simp only [List.mem_cons, List.not_mem_nil, or_false] at hm; omega) (by simp) (by simp only [List.length_append]; omega)) rfl ?_
    rintro e w ⟨rfl, hS⟩
    refine ⟨_, rfl, ?_⟩
    replace hS := hS.swap
    refine t_nil ?_
    refine c_seq ?_
    refine c_region ?_
    refine t_q (q_mv (.pointer _) rfl) ?_
    refine t_q (q_fieldAddr 4 Try.runUnderlying206 rfl Try.sizeOf3 (by decide) rfl rfl) ?_
    refine t_q (q_load1 Try.isAgg3 rfl (hS.cell (by repeat first | exact .here _ _ | assumption | apply Pick.there) rfl)) ?_
    refine t_q (q_fieldAddr 5 Try.runUnderlying206 rfl Try.sizeOf2 (by decide) rfl rfl) ?_
    refine t_q (q_load1 Try.isAgg2 rfl (hS.cell (by repeat first | exact .here _ _ | assumption | apply Pick.there) rfl)) ?_
    refine t_q (q_fieldAddr 6 Try.runUnderlying206 rfl Try.sizeOf2 (by decide) rfl rfl) ?_
    refine t_q (q_load1 Try.isAgg2 rfl (hS.cell (by repeat first | exact .here _ _ | assumption | apply Pick.there) rfl)) ?_
    refine t_q (q_fieldAddr 7 Try.runUnderlying206 rfl Try.sizeOf2 (by decide) rfl rfl) ?_
    refine t_q (q_load1 Try.isAgg2 rfl (hS.cell (by repeat first | exact .here _ _ | assumption | apply Pick.there) rfl)) ?_
    refine t_q (q_fieldAddr 8 Try.runUnderlying206 rfl Try.sizeOf2 (by decide) rfl rfl) ?_
    refine t_q (q_load1 Try.isAgg2 rfl (hS.cell (by repeat first | exact .here _ _ | assumption | apply Pick.there) rfl)) ?_
    refine t_q (q_fieldAddr 9 Try.runUnderlying206 rfl Try.sizeOf29 (by decide) rfl rfl) ?_
    refine t_q (q_load1 Try.isAgg29 rfl (hS.cell (by repeat first | exact .here _ _ | assumption | apply Pick.there) rfl)) ?_
    refine t_q (q_fieldAddr 10 Try.runUnderlying206 rfl Try.sizeOf3 (by decide) rfl rfl) ?_
    refine t_q (q_load1 Try.isAgg3 rfl (hS.cell (by repeat first | exact .here _ _ | assumption | apply Pick.there) rfl)) ?_
    refine t_build_ints [_, _, _, _, _, _, _] Try.runUnderlying219 Try.sizeOf2 Try.zeroValue2 rfl rfl (by decide) hS (fun g47 w hS => ?_)
    refine t_call Try.call160 (Int_calls hS (by repeat first | exact .here _ _ | assumption | apply Pick.there) (fun _ h => h.rowInts (.here _ _) rfl) (by intro m hm; simp only [List.mem_cons, List.not_mem_nil, or_false] at hm; omega) (by simp) (by simp only [List.length_append]; omega)) rfl ?_
    rintro e w ⟨rfl, hS⟩
    refine ⟨_, rfl, ?_⟩
    replace hS := hS.swap
    refine t_nil ?_
    refine c_region ?_
    refine t_q (q_mv (.pointer _) rfl) ?_
    refine t_q (q_fieldAddr 11 Try.runUnderlying206 rfl Try.sizeOf43 (by decide) rfl rfl) ?_
    refine t_q (q_load1 Try.isAgg43 rfl (hS.cell (by repeat first | exact .here _ _ | assumption | apply Pick.there) rfl)) ?_
    refine t_build_ints [_] Try.runUnderlying194 Try.sizeOf43 Try.zeroValue43 rfl rfl (by decide) hS (fun g52 w hS => ?_)
    refine t_call Try.call78 (Nat_calls hS (by repeat first | exact .here _ _ | assumption | apply Pick.there) (fun _ h => h.rowInts (.here _ _) rfl) (by intro m hm; simp only [List.mem_cons, List.not_mem_nil, or_false] at hm; omega) (by simp) (by simp only [List.length_append]; omega)) rfl ?_
    rintro e w ⟨rfl, hS⟩
    refine ⟨_, rfl, ?_⟩
    replace hS := hS.swap
    refine t_nil ?_
    refine c_region ?_
    refine t_q (q_add_i64 rfl rfl (by omega)) ?_
    refine t_q (q_mv (.int _ _) rfl) ?_
    refine t_nil ?_
    exact ⟨k - 1, by omega, j + 1, rfl, by omega, by omega, hS.swap.recast (congrArg (wrA g) (by rw [evP_snoc hjl, evB_parts]; simp only [List.append_assoc]; rfl))⟩
  · intro hc3
    have hc3d := of_decide_eq_false hc3
    obtain rfl : j = l.length := by omega
    refine c_exit ?_
    refine ite_t rfl ?_
    refine r_none rfl  ?_
    exact ⟨rfl, hS.recast (congrArg (wrA g) (by rw [evP_all]))⟩
set_option maxRecDepth 100000 in
theorem qeput_calls {A : Option Addr} {c : Nat} {l : List Ev} (hR : RdEv W A l) (hin : ∀ e ∈ l, e.In) (hm : l.length ≤ 1000000) : Calls Try.prog 140 #[.slice A l.length c] W fun e w' => ∃ A' m c', e = .returned (.slice A' m c') ∧ m = (evsB l).length ∧ St W w' [rowA 5 1 A' m c' ((evsB l).map bv)] := by
  have hS := St.init W
  refine calls_of_wpE (args := [_]) Try.func140 rfl rfl rfl ?_
  refine c_seq ?_
  refine c_region ?_
  refine t_q (q_assign) ?_
  refine t_nil ?_
  refine c_seq ?_
  refine c_region ?_
  refine t_q (q_mv (.slice _ _ _) rfl) ?_
  refine t_q (q_len_slice Try.runUnderlying112 rfl) ?_
  first | refine t_q (q_conv_u64 Try.runUnderlying3 Try.runUnderlying43 rfl (by omega)) ?_ | refine t_q (q_convm_u64 Try.runUnderlying3 Try.runUnderlying43 rfl) ?_
  refine t_call Try.call79 (qwNat hS (by omega) (by omega)) rfl ?_
  rintro e w ⟨A11, n11, c11, rfl, hn11, hS⟩
  refine ⟨_, rfl, ?_⟩
  refine t_q (q_as (.slice _ _ _) rfl) ?_
  refine t_nil ?_
  refine c_seq ?_
  refine c_seq ?_
  refine c_region ?_
  refine t_q (q_assign) ?_
  refine t_nil ?_
  refine c_block ?_
  refine c_loop [3, 4, 5, 7, 12, 13, 14, 15, 16, 17, 18, 19, 20, 21, 22, 23, 24, 25, 26, 27, 28, 29, 30, 31, 32, 33, 34, 35, 36, 37, 38, 39, 40, 41, 42, 43, 44, 45, 46, 47, 48, 49, 50, 51, 52, 53, 54, 55, 56, 57, 58, 59, 60, 61, 62, 63, 64, 65, 66, 67, 68, 69, 70, 71] (fun k σ w => ∃ (j : Nat) (A' : Option Addr) (m c' : Nat), σ 4 = .int .i64 (j : Int) ∧ σ 3 = .slice A' m c' ∧ j ≤ l.length ∧ l.length - j ≤ k ∧ m = (evP l j).length ∧ St W w [rowA 5 1 A' m c' ((evP l j).map bv)]) (l.length) rfl (⟨0, _, _, _, rfl, rfl, by omega, by omega, (by rw [hn11, evP_zero, Int.toNat_natCast]), hS.recast (congrArg (rowA 5 1 _ _ _) (by rw [evP_zero, Int.toNat_natCast]))⟩) ?_
  skip
  rintro k σ w ⟨j, A', m, c', h4, h3, hj, hk, hmm, hS⟩
  refine c_know 4 h4 ?_
  refine c_know 3 h3 ?_
  clear h4 h3
  have hpl := evP_len hin hm j
  obtain ⟨kO, hkO⟩ : ∃ x, x = k := ⟨_, rfl⟩
  rw [← hkO] at hk
  refine c_seq ?_
  refine c_seq ?_
  refine c_region ?_
  refine t_q (q_mv (.int _ _) rfl) ?_
  refine t_q (q_mv (.slice _ _ _) rfl) ?_
  refine t_q (q_len_slice Try.runUnderlying112 rfl) ?_
  refine t_q (q_lss rfl rfl) ?_
  refine t_nil ?_
  refine c_cond rfl ?_ ?_
  · intro hc3
    have hc3d := of_decide_eq_true hc3
    have hjl : j < l.length := by omega
    refine c_skip ?_
    refine c_seq ?_
    refine c_block ?_
    refine c_seq ?_
    refine c_region ?_
    refine t_q (q_mv (.slice _ _ _) rfl) ?_
    refine t_q (q_mv (.int _ _) rfl) ?_
    first | refine t_index_nat Try.runUnderlying112 Try.sizeOf206 (hR.st hS) rfl rfl (by omega) (fun ad4 hl4 hx4 => ?_) | refine t_index Try.runUnderlying112 Try.sizeOf206 (hR.st hS) rfl rfl (by omega) (fun ad4 hl4 hx4 => ?_)
    refine t_q (q_loadN Try.isAgg206 Try.sizeOf206 rfl hl4 hx4) ?_
    refine t_alloc Try.zeroValue206 rfl hS (fun g5 w hS => ?_)
    refine t_store (v := (.agg _)) Try.sizeOf206 hS (by repeat first | exact .here _ _ | assumption | apply Pick.there) rfl rfl rfl rfl rfl rfl (fun w hS => ?_)
    obtain ⟨x, hx⟩ : ∃ x, x = (l.getD j default) := ⟨_, rfl⟩
    replace hS := hS.recast (show blkA g5 206 _ = blkA g5 206 x.cells from by rw [hx]; rfl)
    have hxin : x.In := by rw [hx]; exact evf_in hin hjl
    have hbl := evB_len hxin
    obtain ⟨i1, i2, i3, i4, i5, i6, i7, i8, i9, i10, i11, i12⟩ := id hxin
    have z1 := enc_ten (zig_lt i1.1 i1.2)
    have z2 := enc_ten (zig_lt i2.1 i2.2)
    have z3 := enc_ten (n := x.id.toNat) (by omega)
    have z4 := enc_ten (n := x.other.toNat) (by omega)
    have z12 := enc_ten (n := x.index.toNat) (by omega)
    refine t_nil ?_
    refine c_seq ?_
    refine c_region ?_
    refine t_q (q_mv (.slice _ _ _) rfl) ?_
    refine t_q (q_fieldAddr 0 Try.runUnderlying206 rfl Try.sizeOf3 (by decide) rfl rfl) ?_
    refine t_q (q_load1 Try.isAgg3 rfl (hS.cell (by repeat first | exact .here _ _ | assumption | apply Pick.there) rfl)) ?_
    refine t_call Try.call159 (qwInt hS (by omega) (by omega)) rfl ?_
    rintro e w ⟨A25, n25, c25, rfl, hn25, hS⟩
    refine ⟨_, rfl, ?_⟩
    refine t_append_own (size := 1) (bytes := 1) Try.underlying25 (info_of Try.type5) rfl rfl rfl rfl (by decide) hS (.here _ _) (by repeat first | exact .here _ _ | assumption | apply Pick.there) rfl rfl (by first | exact allOne_bv _ | exact allOne_ints _ _ | rfl) (by unfold maxLen; omega) (by omega) (fun A26 c26 w hS => ?_)
    refine t_q (q_as (.slice _ _ _) rfl) ?_
    refine t_nil ?_
    refine c_seq ?_
    refine c_region ?_
    refine t_q (q_mv (.slice _ _ _) rfl) ?_
    refine t_q (q_fieldAddr 1 Try.runUnderlying206 rfl Try.sizeOf3 (by decide) rfl rfl) ?_
    refine t_q (q_load1 Try.isAgg3 rfl (hS.cell (by repeat first | exact .here _ _ | assumption | apply Pick.there) rfl)) ?_
    refine t_call Try.call159 (qwInt hS (by omega) (by omega)) rfl ?_
    rintro e w ⟨A30, n30, c30, rfl, hn30, hS⟩
    refine ⟨_, rfl, ?_⟩
    refine t_append_own (size := 1) (bytes := 1) Try.underlying25 (info_of Try.type5) rfl rfl rfl rfl (by decide) hS (.here _ _) (by repeat first | exact .here _ _ | assumption | apply Pick.there) rfl rfl (by first | exact allOne_bv _ | exact allOne_ints _ _ | rfl) (by unfold maxLen; omega) (by omega) (fun A31 c31 w hS => ?_)
    refine t_q (q_as (.slice _ _ _) rfl) ?_
    refine t_nil ?_
    refine c_seq ?_
    refine c_region ?_
    refine t_q (q_mv (.slice _ _ _) rfl) ?_
    refine t_q (q_fieldAddr 2 Try.runUnderlying206 rfl Try.sizeOf43 (by decide) rfl rfl) ?_
    refine t_q (q_load1 Try.isAgg43 rfl (hS.cell (by repeat first | exact .here _ _ | assumption | apply Pick.there) rfl)) ?_
    refine t_call Try.call79 (qwNat hS (by omega) (by omega)) rfl ?_
    rintro e w ⟨A35, n35, c35, rfl, hn35, hS⟩
    refine ⟨_, rfl, ?_⟩
    refine t_append_own (size := 1) (bytes := 1) Try.underlying25 (info_of Try.type5) rfl rfl rfl rfl (by decide) hS (.here _ _) (by repeat first | exact .here _ _ | assumption | apply Pick.there) rfl rfl (by first | exact allOne_bv _ | exact allOne_ints _ _ | rfl) (by unfold maxLen; omega) (by omega) (fun A36 c36 w hS => ?_)
    refine t_q (q_as (.slice _ _ _) rfl) ?_
    refine t_nil ?_
    refine c_seq ?_
    refine c_region ?_
    refine t_q (q_mv (.slice _ _ _) rfl) ?_
    refine t_q (q_fieldAddr 3 Try.runUnderlying206 rfl Try.sizeOf43 (by decide) rfl rfl) ?_
    refine t_q (q_load1 Try.isAgg43 rfl (hS.cell (by repeat first | exact .here _ _ | assumption | apply Pick.there) rfl)) ?_
    refine t_call Try.call79 (qwNat hS (by omega) (by omega)) rfl ?_
    rintro e w ⟨A40, n40, c40, rfl, hn40, hS⟩
    refine ⟨_, rfl, ?_⟩
    refine t_append_own (size := 1) (bytes := 1) Try.underlying25 (info_of Try.type5) rfl rfl rfl rfl (by decide) hS (.here _ _) (by repeat first | exact .here _ _ | assumption | apply Pick.there) rfl rfl (by first | exact allOne_bv _ | exact allOne_ints _ _ | rfl) (by unfold maxLen; omega) (by omega) (fun A41 c41 w hS => ?_)
    refine t_q (q_as (.slice _ _ _) rfl) ?_
    refine t_nil ?_
    refine c_seq ?_
    refine c_seq ?_
    refine c_region ?_
    refine t_q (q_fieldAddr 4 Try.runUnderlying206 rfl Try.sizeOf3 (by decide) rfl rfl) ?_
    refine t_q (q_load1 Try.isAgg3 rfl (hS.cell (by repeat first | exact .here _ _ | assumption | apply Pick.there) rfl)) ?_
    refine t_q (q_fieldAddr 5 Try.runUnderlying206 rfl Try.sizeOf2 (by decide) rfl rfl) ?_
    refine t_q (q_load1 Try.isAgg2 rfl (hS.cell (by repeat first | exact .here _ _ | assumption | apply Pick.there) rfl)) ?_
    refine t_q (q_fieldAddr 6 Try.runUnderlying206 rfl Try.sizeOf2 (by decide) rfl rfl) ?_
    refine t_q (q_load1 Try.isAgg2 rfl (hS.cell (by repeat first | exact .here _ _ | assumption | apply Pick.there) rfl)) ?_
    refine t_q (q_fieldAddr 7 Try.runUnderlying206 rfl Try.sizeOf2 (by decide) rfl rfl) ?_
    refine t_q (q_load1 Try.isAgg2 rfl (hS.cell (by repeat first | exact .here _ _ | assumption | apply Pick.there) rfl)) ?_
    refine t_q (q_fieldAddr 8 Try.runUnderlying206 rfl Try.sizeOf2 (by decide) rfl rfl) ?_
    refine t_q (q_load1 Try.isAgg2 rfl (hS.cell (by repeat first | exact .here _ _ | assumption | apply Pick.there) rfl)) ?_
    refine t_q (q_fieldAddr 9 Try.runUnderlying206 rfl Try.sizeOf29 (by decide) rfl rfl) ?_
    refine t_q (q_load1 Try.isAgg29 rfl (hS.cell (by repeat first | exact .here _ _ | assumption | apply Pick.there) rfl)) ?_
    refine t_q (q_fieldAddr 10 Try.runUnderlying206 rfl Try.sizeOf3 (by decide) rfl rfl) ?_
    refine t_q (q_load1 Try.isAgg3 rfl (hS.cell (by repeat first | exact .here _ _ | assumption | apply Pick.there) rfl)) ?_
    refine t_build_ints [_, _, _, _, _, _, _] Try.runUnderlying219 Try.sizeOf2 Try.zeroValue2 rfl rfl (by decide) hS (fun g56 w hS => ?_)
    replace hS := hS.recast (show _ = rowA 2 1 (some ⟨g56, 0, none⟩) 7 7 (x.sev.map (Value.int .i64)) from rfl)
    refine t_q (q_len_slice Try.runUnderlying219 rfl) ?_
    refine t_q (q_move) ?_
    refine t_nil ?_
    refine c_block ?_
    refine c_loop [3, 7, 58, 59, 60, 61, 62, 63, 64, 65, 66] (fun k σ w => ∃ (i : Nat) (A' : Option Addr) (m c' : Nat), σ 58 = .int .i64 (i : Int) ∧ σ 3 = .slice A' m c' ∧ i ≤ 7 ∧ 7 - i ≤ k ∧ m = ((evP l j ++ (enc (zig x.kind) ++ (enc (zig x.account) ++ (enc x.id.toNat ++ enc x.other.toNat)))) ++ ints (x.sev.take i)).length ∧ St W w [rowA 5 1 A' m c' (((evP l j ++ (enc (zig x.kind) ++ (enc (zig x.account) ++ (enc x.id.toNat ++ enc x.other.toNat)))) ++ ints (x.sev.take i)).map bv), rowA 2 1 (some ⟨g56, 0, none⟩) 7 7 (x.sev.map (Value.int .i64)), blkA g5 206 x.cells]) (7) rfl (⟨0, A41, _, c41, rfl, rfl, by omega, by omega, (by rw [hmm, hn25, hn30, hn35, hn40]; simp only [List.take_zero, ints, List.flatMap_nil, List.append_nil, List.length_append]; omega), ((((hS.pick (A := blkA g5 206 x.cells) (by repeat first | exact .here _ _ | assumption | apply Pick.there)).pick (A := rowA 2 1 (some ⟨g56, 0, none⟩) 7 7 (x.sev.map (Value.int .i64))) (by repeat first | exact .here _ _ | assumption | apply Pick.there)).pick (A := rowA 5 1 A41 _ c41 _) (by repeat first | exact .here _ _ | assumption | apply Pick.there)).recast (congrArg (rowA 5 1 _ _ _) (by simp only [List.take_zero, ints, List.flatMap_nil, List.append_nil, List.map_append, List.append_assoc])))⟩) ?_
    skip
    rintro k σ w ⟨i, A', m, c', h58, h3, hi, hk2, hmm2, hS⟩
    refine c_know 58 h58 ?_
    refine c_know 3 h3 ?_
    clear h58 h3
    have hs7 : x.sev.length = 7 := rfl
    have hil := ints_length (ns := x.sev.take i) (fun n hn => by obtain ⟨u, hu, rfl⟩ := List.mem_iff_getElem.1 (List.mem_of_mem_take hn); have := sev_in hxin (i := u) (by simpa [Ev.sev] using hu); rw [List.getD_eq_getElem?_getD, List.getElem?_eq_getElem hu] at this; exact this)
    rw [List.length_take] at hil
    have hP4 : (evP l j ++ (enc (zig x.kind) ++ (enc (zig x.account) ++ (enc x.id.toNat ++ enc x.other.toNat)))).length ≤ 130000040 := by simp only [List.length_append]; omega
    rw [List.length_append] at hmm2
    refine c_seq ?_
    refine c_region ?_
    refine t_q (q_lss rfl rfl) ?_
    refine t_nil ?_
    refine c_seq ?_
    refine c_cond rfl ?_ ?_
    · intro hc10
      have hc10d := of_decide_eq_true hc10
      refine c_skip ?_
      refine c_seq ?_
      refine c_block ?_
      refine c_seq ?_
      refine c_region ?_
      first | refine t_index_nat Try.runUnderlying219 Try.sizeOf2 (hS.rowInts (k := .i64) (ns := x.sev) (by repeat first | exact .here _ _ | assumption | apply Pick.there) rfl) rfl rfl (by omega) (fun ad11 hl11 hx11 => ?_) | refine t_index Try.runUnderlying219 Try.sizeOf2 (hS.rowInts (k := .i64) (ns := x.sev) (by repeat first | exact .here _ _ | assumption | apply Pick.there) rfl) rfl rfl (by omega) (fun ad11 hl11 hx11 => ?_)
      refine t_q (q_cast (v' := .int .i64 (x.sev.getD i 0)) (q_load1 Try.isAgg2 rfl (hx11 0 _ rfl)) (rfl)) ?_
      refine t_q (q_as (.int _ _) rfl) ?_
      refine t_nil ?_
      have hsv := sev_in hxin (i := i) (by omega)
      have hi7 : i < x.sev.length := by show i < 7; omega
      have z64 := enc_ten (zig_lt hsv.1 hsv.2)
      refine c_region ?_
      refine t_q (q_mv (.slice _ _ _) rfl) ?_
      refine t_q (q_mv (.int _ _) rfl) ?_
      refine t_call Try.call159 (qwInt hS (by omega) (by omega)) rfl ?_
      rintro e w ⟨A64, n64, c64, rfl, hn64, hS⟩
      refine ⟨_, rfl, ?_⟩
      refine t_append_own (size := 1) (bytes := 1) Try.underlying25 (info_of Try.type5) rfl rfl rfl rfl (by decide) hS (.here _ _) (by repeat first | exact .here _ _ | assumption | apply Pick.there) rfl rfl (by first | exact allOne_bv _ | exact allOne_ints _ _ | rfl) (by unfold maxLen; omega) (by omega) (fun A65 c65 w hS => ?_)
      refine t_q (q_as (.slice _ _ _) rfl) ?_
      refine t_nil ?_
      refine c_region ?_
      refine t_q (q_add_i64 rfl rfl (by omega)) ?_
      refine t_q (q_mv (.int _ _) rfl) ?_
      refine t_nil ?_
      refine ⟨k - 1, by omega, i + 1, A65, _, c65, rfl, rfl, by omega, by omega, ?_, ((((hS.pick (A := blkA g5 206 x.cells) (by repeat first | exact .here _ _ | assumption | apply Pick.there)).pick (A := rowA 2 1 (some ⟨g56, 0, none⟩) 7 7 (x.sev.map (Value.int .i64))) (by repeat first | exact .here _ _ | assumption | apply Pick.there)).pick (A := rowA 5 1 A65 _ c65 _) (by repeat first | exact .here _ _ | assumption | apply Pick.there)).recast (congrArg (rowA 5 1 _ _ _) ?_))⟩
      · rw [ints_snoc hi7, hmm2, hn64]; simp only [List.length_append]; omega
      · rw [ints_snoc hi7]; simp only [List.map_append, List.append_assoc]
    · intro hc10
      have hc10d := of_decide_eq_false hc10
      obtain rfl : i = 7 := by omega
      have hev : evB x = (enc (zig x.kind) ++ (enc (zig x.account) ++ (enc x.id.toNat ++ enc x.other.toNat))) ++ (ints (x.sev.take 7) ++ enc x.index.toNat) := by simp [evB, ints, Ev.sev, List.append_assoc]
      refine c_exit ?_
      refine ite_t rfl ?_
      refine c_region ?_
      refine t_q (q_mv (.slice _ _ _) rfl) ?_
      refine t_q (q_fieldAddr 11 Try.runUnderlying206 rfl Try.sizeOf43 (by decide) rfl rfl) ?_
      refine t_q (q_load1 Try.isAgg43 rfl (hS.cell (by repeat first | exact .here _ _ | assumption | apply Pick.there) rfl)) ?_
      refine t_call Try.call79 (qwNat hS (by omega) (by omega)) rfl ?_
      rintro e w ⟨A70, n70, c70, rfl, hn70, hS⟩
      refine ⟨_, rfl, ?_⟩
      refine t_append_own (size := 1) (bytes := 1) Try.underlying25 (info_of Try.type5) rfl rfl rfl rfl (by decide) hS (.here _ _) (by repeat first | exact .here _ _ | assumption | apply Pick.there) rfl rfl (by first | exact allOne_bv _ | exact allOne_ints _ _ | rfl) (by unfold maxLen; omega) (by omega) (fun A71 c71 w hS => ?_)
      refine t_q (q_as (.slice _ _ _) rfl) ?_
      refine t_nil ?_
      refine c_region ?_
      refine t_q (q_mv (.int _ _) rfl) ?_
      refine t_q (q_add_i64 rfl rfl (by omega)) ?_
      refine t_q (q_as (.int _ _) rfl) ?_
      refine t_nil ?_
      refine ⟨kO - 1, by omega, j + 1, A71, _, c71, rfl, rfl, by omega, by omega, ?_, ((hS.pick (A := rowA 5 1 A71 _ c71 _) (by repeat first | exact .here _ _ | assumption | apply Pick.there)).recast (congrArg (rowA 5 1 _ _ _) ?_)).front1⟩
      · rw [evP_snoc hjl, ← hx, hev, hmm2, hn70]; simp only [List.length_append]; omega
      · rw [evP_snoc hjl, ← hx, hev]; simp only [List.map_append, List.append_assoc]
  · intro hc3
    have hc3d := of_decide_eq_false hc3
    obtain rfl : j = l.length := by omega
    refine c_exit ?_
    refine ite_t rfl ?_
    refine c_seq ?_
    refine c_region ?_
    refine t_q (q_mv (.slice _ _ _) rfl) ?_
    refine t_q (q_as (.slice _ _ _) rfl) ?_
    refine t_nil ?_
    refine c_ret ?_
    refine r_one rfl rfl ?_
    exact ⟨_, _, _, rfl, (by rw [hmm, evP_all]), hS.recast (congrArg (rowA 5 1 _ _ _) (by rw [evP_all]))⟩
end Go.Proofs.Ytlppgpidakfnlaa
