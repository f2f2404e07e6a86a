/- Events read from bytes, both ways. -/
import Derived.Test.YtlppgpidakfnlaaEw
namespace Go.Proofs.Ytlppgpidakfnlaa
open Go Go.RowKit Go.Lib
variable {W : World}
theorem evk_mem {s : Rs} {i : Nat} : ∀ {k : Nat}, i < k → (evR (evk s i).2).1 ∈ (evk s k).1
  | k + 1, h => by
    rw [evk]
    rcases Nat.lt_or_ge i k with hi | hi
    · exact List.mem_append_left _ (evk_mem hi)
    · obtain rfl : i = k := by omega
      exact List.mem_append_right _ (List.mem_singleton.2 rfl)
def evAll (s : Rs) (k : Nat) : Bool := (evk s k).1.all fun e => kindB e.kind
theorem evAll_zero (s : Rs) : evAll s 0 = true := rfl
theorem evAll_snoc (s : Rs) (k : Nat) : evAll s (k + 1) = (evAll s k && kindB (evR (evk s k).2).1.kind) := by
  unfold evAll
  rw [evk, List.all_append]
  simp
theorem evOk_eq (s : Rs) : evOk s = (!(evk s (evN s)).2.bad && evAll s (evN s)) := rfl
theorem evOk_no {s : Rs} (h : evOk s = false) : evL s = [] ∧ evS s = s.fail := by unfold evL evS; rw [h]; exact ⟨rfl, rfl⟩
theorem evOk_yes {s : Rs} (h : evOk s = true) : evL s = (evk s (evN s)).1 ∧ evS s = (evk s (evN s)).2 := by unfold evL evS; rw [h]; exact ⟨rfl, rfl⟩
theorem evOk_f1 {s : Rs} (h : (evk s (evN s)).2.bad = true) : evOk s = false := by rw [evOk_eq, h]; rfl
theorem evOk_f2 {s : Rs} {i : Nat} (hi : i < evN s) (h : kindB (evR (evk s i).2).1.kind = false) : evOk s = false := by
  rw [evOk_eq]
  have : evAll s (evN s) = false := by
    unfold evAll
    rw [List.all_eq_false]
    exact ⟨_, evk_mem hi, by rw [h]; decide⟩
  rw [this, Bool.and_false]
theorem evOk_f3 {s : Rs} (h : (!evAll s (evN s)) = true) : evOk s = false := by
  rw [evOk_eq]
  cases hb : evAll s (evN s) with
  | false => rw [Bool.and_false]
  | true => rw [hb] at h; cases h
theorem evOk_t {s : Rs} (h : (evk s (evN s)).2.bad = false) (h2 : evAll s (evN s) = true) : evOk s = true := by rw [evOk_eq, h, h2]; rfl
theorem evOk_t' {s : Rs} (h : (evk s (evN s)).2.bad = false) (h2 : (!evAll s (evN s)) = false) : evOk s = true := evOk_t h (by simpa using h2)
def Rs.Wf (s : Rs) : Prop := s.bad = true → s.left = []
theorem Rs.Wf.nat {s : Rs} (h : s.Wf) (m : Nat) : (s.nat m).2.Wf := by
  intro hb
  cases hd : decFrom m 0 0 s.left with
  | none => rw [Rs.nat_none hd]; rfl
  | some p =>
    obtain ⟨n, rest⟩ := p
    rw [Rs.nat_some hd] at hb
    rw [h hb] at hd
    rw [decFrom] at hd
    cases hd
theorem Rs.Wf.int {s : Rs} (h : s.Wf) : s.int.2.Wf := h.nat allNat
theorem Rs.Wf.all {s : Rs} (h : s.Wf) : s.all.2.Wf := h.nat allNat
theorem evk_wf {s : Rs} (h : s.Wf) (k : Nat) : (evk s k).2.Wf := by
  induction k with
  | zero => rw [evk]; exact h.nat 256
  | succ k ih =>
    rw [evk]
    dsimp only [evR]
    exact ih.int.int.all.all.int.int.int.int.int.int.int.all
theorem evk_fail {s : Rs} (h : s.Wf) {k : Nat} (hb : (evk s k).2.bad = true) : (evk s k).2 = s.fail := by
  have h1 := evk_wf h k hb
  cases hs : (evk s k).2 with
  | mk l b =>
    rw [hs] at h1 hb
    dsimp only at h1 hb
    rw [h1, hb]
    rfl
theorem rNat256 {w : World} {L R : List Asn} {g : Nat} {s : Rs} (hS : St W w L) (pk : Pick L (rdrA W 197 g s) R) : Calls Try.prog 82 #[.pointer (some ⟨g, 0, none⟩), .int .u64 256] w fun e w' => e = .returned (.int .u64 (evN s : Int)) ∧ St W w' (rdrA W 197 g (evk s 0).2 :: R) := rNat (most := 256) hS pk (by decide) (by decide)
theorem qNat256 {w : World} {L R : List Asn} {g : Nat} {s : Rs} (hS : St W w L) (pk : Pick L (rdrA W 145 g s) R) : Calls Try.prog 75 #[.pointer (some ⟨g, 0, none⟩), .int .u64 256] w fun e w' => e = .returned (.int .u64 (evN s : Int)) ∧ St W w' (rdrA W 145 g (evk s 0).2 :: R) := qNat (most := 256) hS pk (by decide) (by decide)
theorem rAll {w : World} {L R : List Asn} {g : Nat} {s : Rs} (hS : St W w L) (pk : Pick L (rdrA W 197 g s) R) : Calls Try.prog 82 #[.pointer (some ⟨g, 0, none⟩), .int .u64 18446744073709551615] w fun e w' => e = .returned (.int .u64 s.all.1) ∧ St W w' (rdrA W 197 g s.all.2 :: R) := rNat_all hS pk
theorem qAll {w : World} {L R : List Asn} {g : Nat} {s : Rs} (hS : St W w L) (pk : Pick L (rdrA W 145 g s) R) : Calls Try.prog 75 #[.pointer (some ⟨g, 0, none⟩), .int .u64 18446744073709551615] w fun e w' => e = .returned (.int .u64 s.all.1) ∧ St W w' (rdrA W 145 g s.all.2 :: R) := qNat_all hS pk
attribute [local irreducible] blkA rowA rdrA Rs.nat Rs.int Rs.all
set_option maxRecDepth 100000 in
theorem enat_calls {w : World} {R : List Asn} {g g1 : Nat} {s : Rs} (hS : St W w (rdrA W 197 g s :: blkA g1 150 [.pointer (some ⟨g, 0, none⟩)] :: R)) : Calls Try.prog 147 #[.pointer (some ⟨g1, 0, none⟩)] w fun e w' => e = .returned (.int .u64 s.all.1) ∧ St W w' (rdrA W 197 g s.all.2 :: blkA g1 150 [.pointer (some ⟨g, 0, none⟩)] :: R) := by
  refine calls_of_wpE (args := [_]) Try.func147 rfl rfl rfl ?_
  refine c_seq ?_
  refine c_region ?_
  refine t_q (q_assign) ?_
  refine t_nil ?_
  refine c_seq ?_
  refine c_region ?_
  refine t_q (q_load1 Try.isAgg150 rfl (hS.cell (by repeat first | exact .here _ _ | assumption | apply Pick.there) rfl)) ?_
  refine t_call Try.call82 (rAll hS (.here _ _)) rfl ?_
  rintro e w ⟨rfl, hS⟩
  refine ⟨_, rfl, ?_⟩
  refine t_q (q_as (.int _ _) rfl) ?_
  refine t_nil ?_
  refine c_ret ?_
  refine r_one rfl rfl ?_
  exact ⟨rfl, hS⟩
set_option maxRecDepth 100000 in
theorem enum_calls {w : World} {R : List Asn} {g g1 : Nat} {s : Rs} (hS : St W w (rdrA W 197 g s :: blkA g1 150 [.pointer (some ⟨g, 0, none⟩)] :: R)) : Calls Try.prog 148 #[.pointer (some ⟨g1, 0, none⟩)] w fun e w' => e = .returned (.int .i64 s.int.1) ∧ St W w' (rdrA W 197 g s.int.2 :: blkA g1 150 [.pointer (some ⟨g, 0, none⟩)] :: R) := by
  refine calls_of_wpE (args := [_]) Try.func148 rfl rfl rfl ?_
  refine c_seq ?_
  refine c_region ?_
  refine t_q (q_assign) ?_
  refine t_nil ?_
  refine c_seq ?_
  refine c_region ?_
  refine t_q (q_load1 Try.isAgg150 rfl (hS.cell (by repeat first | exact .here _ _ | assumption | apply Pick.there) rfl)) ?_
  refine t_call Try.call149 (rInt hS (.here _ _)) rfl ?_
  rintro e w ⟨rfl, hS⟩
  refine ⟨_, rfl, ?_⟩
  refine t_q (q_as (.int _ _) rfl) ?_
  refine t_nil ?_
  refine c_ret ?_
  refine r_one rfl rfl ?_
  exact ⟨rfl, hS⟩
set_option maxHeartbeats 2000000 in
set_option maxRecDepth 100000 in
theorem eread_calls {w : World} {L R : List Asn} {g : Nat} {s : Rs} (hS : St W w L) (pk : Pick L (rdrA W 197 g s) R) (hW : s.Wf) :
  Calls Try.prog 119 #[.pointer (some ⟨g, 0, none⟩)] w fun e w' => ∃ A' m c', e = .returned (.tuple #[.slice A' m c', .bool (evOk s)]) ∧ m = (evL s).length ∧ St W w' (rdrA W 197 g (evS s) :: rowA 206 12 A' m c' ((evL s).flatMap Ev.cells) :: R) := by
  replace hS := hS.pick pk
  clear pk
  have hN := evN_le s
  refine calls_of_wpE (args := [_]) Try.func119 rfl rfl rfl ?_
  refine c_seq ?_
  refine c_region ?_
  refine t_box (v := (.pointer _)) rfl rfl hS (fun g1 w hS => ?_)
  refine t_q (q_assign) ?_
  refine t_q (q_assign) ?_
  refine t_nil ?_
  refine c_seq ?_
  refine c_region ?_
  refine t_q (q_makeFunc rfl) ?_
  refine t_q (q_as (.func _ _ _) rfl) ?_
  refine t_nil ?_
  refine c_seq ?_
  refine c_region ?_
  refine t_q (q_makeFunc rfl) ?_
  refine t_q (q_as (.func _ _ _) rfl) ?_
  refine t_nil ?_
  refine c_seq ?_
  refine c_seq ?_
  refine c_region ?_
  refine t_q (q_load1 Try.isAgg150 rfl (hS.cell (by repeat first | exact .here _ _ | assumption | apply Pick.there) rfl)) ?_
  refine t_call Try.call82 (rNat256 hS (by repeat first | exact .here _ _ | assumption | apply Pick.there)) rfl ?_
  rintro e w ⟨rfl, hS⟩
  refine ⟨_, rfl, ?_⟩
  refine t_q (q_move) ?_
  refine t_nil ?_
  refine c_block ?_
  refine c_loop [2, 6, 11, 12, 13, 14, 15, 16, 17, 18, 19, 20, 21, 22, 23, 24, 25, 26, 27, 28, 29, 30, 31, 32, 33, 34, 35, 36, 37, 38, 39, 40, 41, 42, 43, 44, 45, 46, 47, 48, 49, 50, 51, 52, 53, 54, 55, 56] (fun k σ w => ∃ (i : Nat) (A' : Option Addr) (m c' : Nat), σ 11 = .int .u64 (i : Int) ∧ σ 2 = .slice A' m c' ∧ i ≤ evN s ∧ evN s - i ≤ k ∧ m = (evk s i).1.length ∧ evAll s i = true ∧ St W w (rdrA W 197 g (evk s i).2 :: blkA g1 150 [.pointer (some ⟨g, 0, none⟩)] :: rowA 206 12 A' m c' (((evk s i).1).flatMap Ev.cells) :: R)) (evN s) rfl (⟨0, none, 0, 0, rfl, rfl, by omega, by omega, rfl, evAll_zero s, ((((hS.nilrow 206 12).pick (A := rowA 206 12 none 0 0 []) (by repeat first | exact .here _ _ | assumption | apply Pick.there)).pick (A := blkA g1 150 _) (by repeat first | exact .here _ _ | assumption | apply Pick.there)).pick (A := rdrA W 197 g _) (by repeat first | exact .here _ _ | assumption | apply Pick.there))⟩) ?_
  skip
  rintro k σ w ⟨i, A', m, c', h11, h2, hi, hk, hmm, hall, hS⟩
  refine c_know 11 h11 ?_
  refine c_know 2 h2 ?_
  clear h11 h2
  have hel := evk_len s i
  refine c_seq ?_
  refine c_region ?_
  refine t_q (q_lss rfl rfl) ?_
  refine t_nil ?_
  refine c_seq ?_
  refine c_cond rfl ?_ ?_
  · intro hc3
    have hc3d := of_decide_eq_true hc3
    refine c_skip ?_
    refine c_seq ?_
    refine c_block ?_
    refine c_seq ?_
    refine c_region ?_
    refine t_q (q_mv (.func _ _ _) rfl) ?_
    refine t_callv Try.call148 rfl (enum_calls ((hS.pick (A := blkA g1 150 [.pointer (some ⟨g, 0, none⟩)]) (by repeat first | exact .here _ _ | assumption | apply Pick.there)).pick (A := rdrA W 197 g _) (by repeat first | exact .here _ _ | assumption | apply Pick.there))) rfl ?_
    rintro e w ⟨rfl, hS⟩
    refine ⟨_, rfl, ?_⟩
    refine t_q (q_mv (.func _ _ _) rfl) ?_
    refine t_callv Try.call148 rfl (enum_calls ((hS.pick (A := blkA g1 150 [.pointer (some ⟨g, 0, none⟩)]) (by repeat first | exact .here _ _ | assumption | apply Pick.there)).pick (A := rdrA W 197 g _) (by repeat first | exact .here _ _ | assumption | apply Pick.there))) rfl ?_
    rintro e w ⟨rfl, hS⟩
    refine ⟨_, rfl, ?_⟩
    refine t_q (q_mv (.func _ _ _) rfl) ?_
    refine t_callv Try.call147 rfl (enat_calls ((hS.pick (A := blkA g1 150 [.pointer (some ⟨g, 0, none⟩)]) (by repeat first | exact .here _ _ | assumption | apply Pick.there)).pick (A := rdrA W 197 g _) (by repeat first | exact .here _ _ | assumption | apply Pick.there))) rfl ?_
    rintro e w ⟨rfl, hS⟩
    refine ⟨_, rfl, ?_⟩
    refine t_q (q_mv (.func _ _ _) rfl) ?_
    refine t_callv Try.call147 rfl (enat_calls ((hS.pick (A := blkA g1 150 [.pointer (some ⟨g, 0, none⟩)]) (by repeat first | exact .here _ _ | assumption | apply Pick.there)).pick (A := rdrA W 197 g _) (by repeat first | exact .here _ _ | assumption | apply Pick.there))) rfl ?_
    rintro e w ⟨rfl, hS⟩
    refine ⟨_, rfl, ?_⟩
    refine t_q (q_build (qs := [(0, 1), (1, 1), (2, 1), (3, 1), (4, 1), (5, 1), (6, 1), (7, 1), (8, 1), (9, 1), (10, 1), (11, 1)]) [(.int _ _), (.int _ _), (.int _ _), (.int _ _), (.int _ _), (.int _ _), (.int _ _), (.int _ _), (.int _ _), (.int _ _), (.int _ _), (.int _ _)] Try.zeroValue206 Try.runUnderlying206 ⟨rfl, Try.sizeOf3, rfl, Try.sizeOf3, rfl, Try.sizeOf43, rfl, Try.sizeOf43, rfl, Try.sizeOf3, rfl, Try.sizeOf2, rfl, Try.sizeOf2, rfl, Try.sizeOf2, rfl, Try.sizeOf2, rfl, Try.sizeOf29, rfl, Try.sizeOf3, rfl, Try.sizeOf43, trivial⟩ rfl rfl) ?_
    refine t_alloc Try.zeroValue206 rfl hS (fun g6 w hS => ?_)
    refine t_store (v := (.agg _)) Try.sizeOf206 hS (by repeat first | exact .here _ _ | assumption | apply Pick.there) rfl rfl rfl rfl rfl rfl (fun w hS => ?_)
    replace hS := hS.recast (show blkA g6 206 _ = blkA g6 206 [.int .i64 (evk s i).2.int.1, .int .i64 (evk s i).2.int.2.int.1, .int .u64 (evk s i).2.int.2.int.2.all.1, .int .u64 (evk s i).2.int.2.int.2.all.2.all.1, .int .i64 0, .int .i64 0, .int .i64 0, .int .i64 0, .int .i64 0, .int .i64 0, .int .i64 0, .int .u64 0] from rfl)
    refine t_nil ?_
    refine c_seq ?_
    refine c_draw ?_
    refine d_keep (blkA g1 150 [.pointer (some ⟨g, 0, none⟩)]) 20 [0, 1, 2, 3, 4, 5, 6, 7, 8, 9, 10, 11, 12, 13, 14, 15, 16, 17, 18, 19] [0, 1, 2, 3, 4, 5, 6, 7, 8, 9, 10, 11, 12, 13, 14, 15, 16, 17, 18, 19] hS rfl (by kernel_rfl) (by kernel_rfl) (by kernel_rfl) (by kernel_rfl) (fun hap hsel w hS => ?_)
    refine p_q hap hsel 0 rfl rfl ⟨_, hS.pick (by repeat first | exact .here _ _ | assumption | apply Pick.there)⟩ (fun w hI => q_mv (.func _ _ _) rfl) ?_
    refine p_q hap hsel 2 rfl rfl ⟨_, hS.pick (by repeat first | exact .here _ _ | assumption | apply Pick.there)⟩ (fun w hI => q_load1 Try.isAgg150 rfl (hI.choose_spec.cell (by repeat first | exact .here _ _ | assumption | apply Pick.there) rfl)) ?_
    refine p_q hap hsel 4 rfl rfl ⟨_, hS.pick (by repeat first | exact .here _ _ | assumption | apply Pick.there)⟩ (fun w hI => q_load1 Try.isAgg150 rfl (hI.choose_spec.cell (by repeat first | exact .here _ _ | assumption | apply Pick.there) rfl)) ?_
    refine p_q hap hsel 6 rfl rfl ⟨_, hS.pick (by repeat first | exact .here _ _ | assumption | apply Pick.there)⟩ (fun w hI => q_load1 Try.isAgg150 rfl (hI.choose_spec.cell (by repeat first | exact .here _ _ | assumption | apply Pick.there) rfl)) ?_
    refine p_q hap hsel 8 rfl rfl ⟨_, hS.pick (by repeat first | exact .here _ _ | assumption | apply Pick.there)⟩ (fun w hI => q_load1 Try.isAgg150 rfl (hI.choose_spec.cell (by repeat first | exact .here _ _ | assumption | apply Pick.there) rfl)) ?_
    refine p_one 1 rfl (by kernel_rfl) ?_
    refine t_callv Try.call148 rfl (enum_calls ((hS.pick (A := blkA g1 150 [.pointer (some ⟨g, 0, none⟩)]) (by repeat first | exact .here _ _ | assumption | apply Pick.there)).pick (A := rdrA W 197 g _) (by repeat first | exact .here _ _ | assumption | apply Pick.there))) rfl ?_
    rintro e w ⟨rfl, hS⟩
    refine ⟨_, rfl, ?_⟩
    refine t_nil ?_
    refine ⟨.inr ⟨_, hS.pick (by repeat first | exact .here _ _ | assumption | apply Pick.there)⟩, ?_⟩
    refine p_q hap hsel 10 rfl rfl ⟨_, hS.pick (by repeat first | exact .here _ _ | assumption | apply Pick.there)⟩ (fun w hI => q_fieldAddr 4 Try.runUnderlying206 rfl Try.sizeOf3 (by decide) rfl rfl) ?_
    refine p_one 3 rfl (by kernel_rfl) ?_
    refine t_call Try.call149 (rInt hS (by repeat first | exact .here _ _ | assumption | apply Pick.there)) rfl ?_
    rintro e w ⟨rfl, hS⟩
    refine ⟨_, rfl, ?_⟩
    refine t_nil ?_
    refine ⟨.inr ⟨_, hS.pick (by repeat first | exact .here _ _ | assumption | apply Pick.there)⟩, ?_⟩
    refine p_one 5 rfl (by kernel_rfl) ?_
    refine t_call Try.call149 (rInt hS (by repeat first | exact .here _ _ | assumption | apply Pick.there)) rfl ?_
    rintro e w ⟨rfl, hS⟩
    refine ⟨_, rfl, ?_⟩
    refine t_nil ?_
    refine ⟨.inr ⟨_, hS.pick (by repeat first | exact .here _ _ | assumption | apply Pick.there)⟩, ?_⟩
    refine p_one 7 rfl (by kernel_rfl) ?_
    refine t_call Try.call149 (rInt hS (by repeat first | exact .here _ _ | assumption | apply Pick.there)) rfl ?_
    rintro e w ⟨rfl, hS⟩
    refine ⟨_, rfl, ?_⟩
    refine t_nil ?_
    refine ⟨.inr ⟨_, hS.pick (by repeat first | exact .here _ _ | assumption | apply Pick.there)⟩, ?_⟩
    refine p_one 9 rfl (by kernel_rfl) ?_
    refine t_call Try.call149 (rInt hS (by repeat first | exact .here _ _ | assumption | apply Pick.there)) rfl ?_
    rintro e w ⟨rfl, hS⟩
    refine ⟨_, rfl, ?_⟩
    refine t_nil ?_
    refine ⟨.inr ⟨_, hS.pick (by repeat first | exact .here _ _ | assumption | apply Pick.there)⟩, ?_⟩
    refine p_one 11 rfl (by kernel_rfl) ?_
    refine t_store (v := (.int _ _)) Try.sizeOf3 hS (by repeat first | exact .here _ _ | assumption | apply Pick.there) rfl rfl rfl rfl rfl rfl (fun w hS => ?_)
    replace hS := hS.recast (show blkA g6 206 _ = blkA g6 206 [.int .i64 (evk s i).2.int.1, .int .i64 (evk s i).2.int.2.int.1, .int .u64 (evk s i).2.int.2.int.2.all.1, .int .u64 (evk s i).2.int.2.int.2.all.2.all.1, .int .i64 (evk s i).2.int.2.int.2.all.2.all.2.int.1, .int .i64 0, .int .i64 0, .int .i64 0, .int .i64 0, .int .i64 0, .int .i64 0, .int .u64 0] from rfl)
    refine t_nil ?_
    refine ⟨.inr ⟨_, hS.pick (by repeat first | exact .here _ _ | assumption | apply Pick.there)⟩, ?_⟩
    refine p_q hap hsel 12 rfl rfl ⟨_, hS.pick (by repeat first | exact .here _ _ | assumption | apply Pick.there)⟩ (fun w hI => q_fieldAddr 5 Try.runUnderlying206 rfl Try.sizeOf2 (by decide) rfl rfl) ?_
    refine p_one 13 rfl (by kernel_rfl) ?_
    refine t_store (v := (.int _ _)) Try.sizeOf2 hS (by repeat first | exact .here _ _ | assumption | apply Pick.there) rfl rfl rfl rfl rfl rfl (fun w hS => ?_)
    replace hS := hS.recast (show blkA g6 206 _ = blkA g6 206 [.int .i64 (evk s i).2.int.1, .int .i64 (evk s i).2.int.2.int.1, .int .u64 (evk s i).2.int.2.int.2.all.1, .int .u64 (evk s i).2.int.2.int.2.all.2.all.1, .int .i64 (evk s i).2.int.2.int.2.all.2.all.2.int.1, .int .i64 (evk s i).2.int.2.int.2.all.2.all.2.int.2.int.1, .int .i64 0, .int .i64 0, .int .i64 0, .int .i64 0, .int .i64 0, .int .u64 0] from rfl)
    refine t_nil ?_
    refine ⟨.inr ⟨_, hS.pick (by repeat first | exact .here _ _ | assumption | apply Pick.there)⟩, ?_⟩
    refine p_q hap hsel 14 rfl rfl ⟨_, hS.pick (by repeat first | exact .here _ _ | assumption | apply Pick.there)⟩ (fun w hI => q_fieldAddr 6 Try.runUnderlying206 rfl Try.sizeOf2 (by decide) rfl rfl) ?_
    refine p_one 15 rfl (by kernel_rfl) ?_
    refine t_store (v := (.int _ _)) Try.sizeOf2 hS (by repeat first | exact .here _ _ | assumption | apply Pick.there) rfl rfl rfl rfl rfl rfl (fun w hS => ?_)
    replace hS := hS.recast (show blkA g6 206 _ = blkA g6 206 [.int .i64 (evk s i).2.int.1, .int .i64 (evk s i).2.int.2.int.1, .int .u64 (evk s i).2.int.2.int.2.all.1, .int .u64 (evk s i).2.int.2.int.2.all.2.all.1, .int .i64 (evk s i).2.int.2.int.2.all.2.all.2.int.1, .int .i64 (evk s i).2.int.2.int.2.all.2.all.2.int.2.int.1, .int .i64 (evk s i).2.int.2.int.2.all.2.all.2.int.2.int.2.int.1, .int .i64 0, .int .i64 0, .int .i64 0, .int .i64 0, .int .u64 0] from rfl)
    refine t_nil ?_
    refine ⟨.inr ⟨_, hS.pick (by repeat first | exact .here _ _ | assumption | apply Pick.there)⟩, ?_⟩
    refine p_q hap hsel 16 rfl rfl ⟨_, hS.pick (by repeat first | exact .here _ _ | assumption | apply Pick.there)⟩ (fun w hI => q_fieldAddr 7 Try.runUnderlying206 rfl Try.sizeOf2 (by decide) rfl rfl) ?_
    refine p_one 17 rfl (by kernel_rfl) ?_
    refine t_store (v := (.int _ _)) Try.sizeOf2 hS (by repeat first | exact .here _ _ | assumption | apply Pick.there) rfl rfl rfl rfl rfl rfl (fun w hS => ?_)
    replace hS := hS.recast (show blkA g6 206 _ = blkA g6 206 [.int .i64 (evk s i).2.int.1, .int .i64 (evk s i).2.int.2.int.1, .int .u64 (evk s i).2.int.2.int.2.all.1, .int .u64 (evk s i).2.int.2.int.2.all.2.all.1, .int .i64 (evk s i).2.int.2.int.2.all.2.all.2.int.1, .int .i64 (evk s i).2.int.2.int.2.all.2.all.2.int.2.int.1, .int .i64 (evk s i).2.int.2.int.2.all.2.all.2.int.2.int.2.int.1, .int .i64 (evk s i).2.int.2.int.2.all.2.all.2.int.2.int.2.int.2.int.1, .int .i64 0, .int .i64 0, .int .i64 0, .int .u64 0] from rfl)
    refine t_nil ?_
    refine ⟨.inr ⟨_, hS.pick (by repeat first | exact .here _ _ | assumption | apply Pick.there)⟩, ?_⟩
    refine p_q hap hsel 18 rfl rfl ⟨_, hS.pick (by repeat first | exact .here _ _ | assumption | apply Pick.there)⟩ (fun w hI => q_fieldAddr 8 Try.runUnderlying206 rfl Try.sizeOf2 (by decide) rfl rfl) ?_
    refine p_one 19 rfl (by kernel_rfl) ?_
    refine t_store (v := (.int _ _)) Try.sizeOf2 hS (by repeat first | exact .here _ _ | assumption | apply Pick.there) rfl rfl rfl rfl rfl rfl (fun w hS => ?_)
    replace hS := hS.recast (show blkA g6 206 _ = blkA g6 206 [.int .i64 (evk s i).2.int.1, .int .i64 (evk s i).2.int.2.int.1, .int .u64 (evk s i).2.int.2.int.2.all.1, .int .u64 (evk s i).2.int.2.int.2.all.2.all.1, .int .i64 (evk s i).2.int.2.int.2.all.2.all.2.int.1, .int .i64 (evk s i).2.int.2.int.2.all.2.all.2.int.2.int.1, .int .i64 (evk s i).2.int.2.int.2.all.2.all.2.int.2.int.2.int.1, .int .i64 (evk s i).2.int.2.int.2.all.2.all.2.int.2.int.2.int.2.int.1, .int .i64 (evk s i).2.int.2.int.2.all.2.all.2.int.2.int.2.int.2.int.2.int.1, .int .i64 0, .int .i64 0, .int .u64 0] from rfl)
    refine t_nil ?_
    refine ⟨.inl (by kernel_rfl), ?_⟩
    refine p_end (by kernel_rfl) ?_
    refine c_seq ?_
    refine c_region ?_
    refine t_q (q_mv (.func _ _ _) rfl) ?_
    refine t_callv Try.call148 rfl (enum_calls ((hS.pick (A := blkA g1 150 [.pointer (some ⟨g, 0, none⟩)]) (by repeat first | exact .here _ _ | assumption | apply Pick.there)).pick (A := rdrA W 197 g _) (by repeat first | exact .here _ _ | assumption | apply Pick.there))) rfl ?_
    rintro e w ⟨rfl, hS⟩
    refine ⟨_, rfl, ?_⟩
    refine t_q (q_mv (.func _ _ _) rfl) ?_
    refine t_callv Try.call148 rfl (enum_calls ((hS.pick (A := blkA g1 150 [.pointer (some ⟨g, 0, none⟩)]) (by repeat first | exact .here _ _ | assumption | apply Pick.there)).pick (A := rdrA W 197 g _) (by repeat first | exact .here _ _ | assumption | apply Pick.there))) rfl ?_
    rintro e w ⟨rfl, hS⟩
    refine ⟨_, rfl, ?_⟩
    refine t_q (q_mv (.func _ _ _) rfl) ?_
    refine t_callv Try.call147 rfl (enat_calls ((hS.pick (A := blkA g1 150 [.pointer (some ⟨g, 0, none⟩)]) (by repeat first | exact .here _ _ | assumption | apply Pick.there)).pick (A := rdrA W 197 g _) (by repeat first | exact .here _ _ | assumption | apply Pick.there))) rfl ?_
    rintro e w ⟨rfl, hS⟩
    refine ⟨_, rfl, ?_⟩
    refine t_q (q_fieldAddr 9 Try.runUnderlying206 rfl Try.sizeOf29 (by decide) rfl rfl) ?_
    refine t_store (v := (.int _ _)) Try.sizeOf29 hS (by repeat first | exact .here _ _ | assumption | apply Pick.there) rfl rfl rfl rfl rfl rfl (fun w hS => ?_)
    replace hS := hS.recast (show blkA g6 206 _ = blkA g6 206 [.int .i64 (evk s i).2.int.1, .int .i64 (evk s i).2.int.2.int.1, .int .u64 (evk s i).2.int.2.int.2.all.1, .int .u64 (evk s i).2.int.2.int.2.all.2.all.1, .int .i64 (evk s i).2.int.2.int.2.all.2.all.2.int.1, .int .i64 (evk s i).2.int.2.int.2.all.2.all.2.int.2.int.1, .int .i64 (evk s i).2.int.2.int.2.all.2.all.2.int.2.int.2.int.1, .int .i64 (evk s i).2.int.2.int.2.all.2.all.2.int.2.int.2.int.2.int.1, .int .i64 (evk s i).2.int.2.int.2.all.2.all.2.int.2.int.2.int.2.int.2.int.1, .int .i64 (evk s i).2.int.2.int.2.all.2.all.2.int.2.int.2.int.2.int.2.int.2.int.1, .int .i64 0, .int .u64 0] from rfl)
    refine t_q (q_fieldAddr 10 Try.runUnderlying206 rfl Try.sizeOf3 (by decide) rfl rfl) ?_
    refine t_store (v := (.int _ _)) Try.sizeOf3 hS (by repeat first | exact .here _ _ | assumption | apply Pick.there) rfl rfl rfl rfl rfl rfl (fun w hS => ?_)
    replace hS := hS.recast (show blkA g6 206 _ = blkA g6 206 [.int .i64 (evk s i).2.int.1, .int .i64 (evk s i).2.int.2.int.1, .int .u64 (evk s i).2.int.2.int.2.all.1, .int .u64 (evk s i).2.int.2.int.2.all.2.all.1, .int .i64 (evk s i).2.int.2.int.2.all.2.all.2.int.1, .int .i64 (evk s i).2.int.2.int.2.all.2.all.2.int.2.int.1, .int .i64 (evk s i).2.int.2.int.2.all.2.all.2.int.2.int.2.int.1, .int .i64 (evk s i).2.int.2.int.2.all.2.all.2.int.2.int.2.int.2.int.1, .int .i64 (evk s i).2.int.2.int.2.all.2.all.2.int.2.int.2.int.2.int.2.int.1, .int .i64 (evk s i).2.int.2.int.2.all.2.all.2.int.2.int.2.int.2.int.2.int.2.int.1, .int .i64 (evk s i).2.int.2.int.2.all.2.all.2.int.2.int.2.int.2.int.2.int.2.int.2.int.1, .int .u64 0] from rfl)
    refine t_q (q_fieldAddr 11 Try.runUnderlying206 rfl Try.sizeOf43 (by decide) rfl rfl) ?_
    refine t_store (v := (.int _ _)) Try.sizeOf43 hS (by repeat first | exact .here _ _ | assumption | apply Pick.there) rfl rfl rfl rfl rfl rfl (fun w hS => ?_)
    replace hS := hS.recast (show blkA g6 206 _ = blkA g6 206 [.int .i64 (evk s i).2.int.1, .int .i64 (evk s i).2.int.2.int.1, .int .u64 (evk s i).2.int.2.int.2.all.1, .int .u64 (evk s i).2.int.2.int.2.all.2.all.1, .int .i64 (evk s i).2.int.2.int.2.all.2.all.2.int.1, .int .i64 (evk s i).2.int.2.int.2.all.2.all.2.int.2.int.1, .int .i64 (evk s i).2.int.2.int.2.all.2.all.2.int.2.int.2.int.1, .int .i64 (evk s i).2.int.2.int.2.all.2.all.2.int.2.int.2.int.2.int.1, .int .i64 (evk s i).2.int.2.int.2.all.2.all.2.int.2.int.2.int.2.int.2.int.1, .int .i64 (evk s i).2.int.2.int.2.all.2.all.2.int.2.int.2.int.2.int.2.int.2.int.1, .int .i64 (evk s i).2.int.2.int.2.all.2.all.2.int.2.int.2.int.2.int.2.int.2.int.2.int.1, .int .u64 (evk s i).2.int.2.int.2.all.2.all.2.int.2.int.2.int.2.int.2.int.2.int.2.int.2.all.1] from rfl)
    refine t_nil ?_
    refine c_seq ?_
    refine c_seq ?_
    replace hS := (hS.pick (A := blkA g6 206 _) (by repeat first | exact .here _ _ | assumption | apply Pick.there)).recast (show _ = blkA g6 206 (evR (evk s i).2).1.cells from rfl)
    refine c_region ?_
    refine t_q (q_fieldAddr 0 Try.runUnderlying206 rfl Try.sizeOf3 (by decide) rfl rfl) ?_
    refine t_q (q_load1 Try.isAgg3 rfl (hS.cell (by repeat first | exact .here _ _ | assumption | apply Pick.there) rfl)) ?_
    refine t_call Try.call150 (kind_calls) rfl ?_
    rintro e w ⟨rfl, hT⟩
    refine ⟨_, rfl, ?_⟩
    replace hS := hS.after hT
    refine t_q (q_not rfl) ?_
    refine t_nil ?_
    refine c_cond rfl ?_ ?_
    · intro hc17
      have hno : kindB (evR (evk s i).2).1.kind = false := by simpa using hc17
      refine c_seq ?_
      refine c_region ?_
      refine t_q (q_load1 Try.isAgg150 rfl (hS.cell (by repeat first | exact .here _ _ | assumption | apply Pick.there) rfl)) ?_
      refine t_call Try.call132 (rFail hS (by repeat first | exact .here _ _ | assumption | apply Pick.there)) rfl ?_
      rintro e w ⟨rfl, hS⟩
      refine ⟨_, rfl, ?_⟩
      refine t_nil ?_
      refine c_exit ?_
      refine ite_f (by decide) ?_
      refine ite_t rfl ?_
      refine c_seq ?_
      refine c_seq ?_
      refine c_region ?_
      refine t_q (q_load1 Try.isAgg150 rfl (hS.cell (by repeat first | exact .here _ _ | assumption | apply Pick.there) rfl)) ?_
      refine t_call Try.call124 (rBad hS (by repeat first | exact .here _ _ | assumption | apply Pick.there)) rfl ?_
      rintro e w ⟨rfl, hS⟩
      refine ⟨_, rfl, ?_⟩
      refine t_nil ?_
      refine c_cond rfl ?_ ?_
      · intro hc20
        first
          | have hfin := evOk_f2 (s := s) (i := i) (by omega) hno
          | (have hfin := evOk_f1 hc20; have hst := evk_fail hW hc20)
        refine c_seq ?_
        refine c_region ?_
        refine t_q (q_assign) ?_
        refine t_q (q_assign) ?_
        refine t_nil ?_
        refine c_ret ?_
        refine r_two rfl rfl rfl ?_
        first
          | (obtain ⟨e1, e2⟩ := evOk_no hfin
             rw [hfin, e1, e2]
             refine ⟨none, 0, 0, rfl, rfl, ?_⟩
             first
               | (rw [← hst]; exact ((((hS.pick (A := blkA g1 150 _) (by repeat first | exact .here _ _ | assumption | apply Pick.there)).drop.pick (A := rowA 206 12 A' _ c' _) (by repeat first | exact .here _ _ | assumption | apply Pick.there)).drop).nilrow 206 12).pick (A := rdrA W 197 g _) (by repeat first | exact .here _ _ | assumption | apply Pick.there))
               | exact (((((hS.pick (A := blkA g6 206 _) (by repeat first | exact .here _ _ | assumption | apply Pick.there)).drop.pick (A := blkA g1 150 _) (by repeat first | exact .here _ _ | assumption | apply Pick.there)).drop.pick (A := rowA 206 12 A' _ c' _) (by repeat first | exact .here _ _ | assumption | apply Pick.there)).drop).nilrow 206 12).pick (A := rdrA W 197 g _) (by repeat first | exact .here _ _ | assumption | apply Pick.there))
          | exact Bool.noConfusion (show true = false from hbf)
          | (have hfin := evOk_t hbf hall
             obtain ⟨e1, e2⟩ := evOk_yes hfin
             rw [hfin, e1, e2]
             exact ⟨A', _, c', rfl, hmm, hS.swap⟩)
      · intro hc20
        have hbf := hc20
        refine c_skip ?_
        refine c_seq ?_
        refine c_region ?_
        refine t_q (q_mv (.slice _ _ _) rfl) ?_
        refine t_q (q_as (.slice _ _ _) rfl) ?_
        refine t_q (q_assign) ?_
        refine t_nil ?_
        refine c_ret ?_
        refine r_two rfl rfl rfl ?_
        first
          | (obtain ⟨e1, e2⟩ := evOk_no hfin
             rw [hfin, e1, e2]
             refine ⟨none, 0, 0, rfl, rfl, ?_⟩
             first
               | (rw [← hst]; exact ((((hS.pick (A := blkA g1 150 _) (by repeat first | exact .here _ _ | assumption | apply Pick.there)).drop.pick (A := rowA 206 12 A' _ c' _) (by repeat first | exact .here _ _ | assumption | apply Pick.there)).drop).nilrow 206 12).pick (A := rdrA W 197 g _) (by repeat first | exact .here _ _ | assumption | apply Pick.there))
               | exact (((((hS.pick (A := blkA g6 206 _) (by repeat first | exact .here _ _ | assumption | apply Pick.there)).drop.pick (A := blkA g1 150 _) (by repeat first | exact .here _ _ | assumption | apply Pick.there)).drop.pick (A := rowA 206 12 A' _ c' _) (by repeat first | exact .here _ _ | assumption | apply Pick.there)).drop).nilrow 206 12).pick (A := rdrA W 197 g _) (by repeat first | exact .here _ _ | assumption | apply Pick.there))
          | exact Bool.noConfusion (show true = false from hbf)
          | (have hfin := evOk_t hbf hall
             obtain ⟨e1, e2⟩ := evOk_yes hfin
             rw [hfin, e1, e2]
             exact ⟨A', _, c', rfl, hmm, hS.swap⟩)
    · intro hc17
      have hyes : kindB (evR (evk s i).2).1.kind = true := by simpa using hc17
      refine c_skip ?_
      refine c_region ?_
      refine t_q (q_mv (.slice _ _ _) rfl) ?_
      refine t_q (q_load_blk Try.isAgg206 Try.sizeOf206 rfl (hS.blk (by repeat first | exact .here _ _ | assumption | apply Pick.there)) rfl) ?_
      refine t_buildSlice Try.runUnderlying112 Try.sizeOf206 Try.zeroValue206 rfl rfl (by intro v hv; simp at hv; try (first | (subst hv; rfl) | (rcases hv with rfl | rfl <;> rfl))) (by decide) (by decide) hS (fun g54 w hS => ?_)
      refine t_append_own (size := 12) (bytes := 96) Try.underlying112 (info_of Try.type206) rfl rfl rfl rfl (by decide) hS (by repeat first | exact .here _ _ | assumption | apply Pick.there) (by repeat first | exact .here _ _ | assumption | apply Pick.there) rfl rfl (by first | exact allOne_bv _ | exact allOne_ints _ _ | rfl) (by unfold maxLen; omega) (by omega) (fun A55 c55 w hS => ?_)
      refine t_q (q_as (.slice _ _ _) rfl) ?_
      refine t_nil ?_
      refine c_region ?_
      refine t_q (q_add_u64 rfl rfl (by omega)) ?_
      refine t_q (q_mv (.int _ _) rfl) ?_
      refine t_nil ?_
      replace hS := (hS.pick (A := rowA 206 12 A55 _ c55 _) (by repeat first | exact .here _ _ | assumption | apply Pick.there)).recast (congrArg (rowA 206 12 A55 _ c55) (show _ = (evk s (i + 1)).1.flatMap Ev.cells from by rw [evk, List.flatMap_append]; rfl))
      replace hS := (hS.pick (A := blkA g6 206 _) (by repeat first | exact .here _ _ | assumption | apply Pick.there)).drop
      refine ⟨k - 1, by omega, i + 1, A55, _, c55, rfl, rfl, by omega, by omega, ?_, ?_, (((hS.pick (A := rowA 206 12 A55 _ c55 _) (by repeat first | exact .here _ _ | assumption | apply Pick.there)).pick (A := blkA g1 150 _) (by repeat first | exact .here _ _ | assumption | apply Pick.there)).pick (A := rdrA W 197 g (evk s (i + 1)).2) (by repeat first | exact .here _ _ | assumption | apply Pick.there))⟩
      · rw [evk_len, hmm, hel]
      · rw [evAll_snoc, hall, hyes]; rfl
  · intro hc3
    have hc3d := of_decide_eq_false hc3
    obtain rfl : i = evN s := by omega
    refine c_exit ?_
    refine ite_t rfl ?_
    refine c_seq ?_
    refine c_seq ?_
    refine c_region ?_
    refine t_q (q_load1 Try.isAgg150 rfl (hS.cell (by repeat first | exact .here _ _ | assumption | apply Pick.there) rfl)) ?_
    refine t_call Try.call124 (rBad hS (by repeat first | exact .here _ _ | assumption | apply Pick.there)) rfl ?_
    rintro e w ⟨rfl, hS⟩
    refine ⟨_, rfl, ?_⟩
    refine t_nil ?_
    refine c_cond rfl ?_ ?_
    · intro hc22
      first
        | have hfin := evOk_f2 (s := s) (i := i) (by omega) hno
        | (have hfin := evOk_f1 hc22; have hst := evk_fail hW hc22)
      refine c_seq ?_
      refine c_region ?_
      refine t_q (q_assign) ?_
      refine t_q (q_assign) ?_
      refine t_nil ?_
      refine c_ret ?_
      refine r_two rfl rfl rfl ?_
      first
        | (obtain ⟨e1, e2⟩ := evOk_no hfin
           rw [hfin, e1, e2]
           refine ⟨none, 0, 0, rfl, rfl, ?_⟩
           first
             | (rw [← hst]; exact ((((hS.pick (A := blkA g1 150 _) (by repeat first | exact .here _ _ | assumption | apply Pick.there)).drop.pick (A := rowA 206 12 A' _ c' _) (by repeat first | exact .here _ _ | assumption | apply Pick.there)).drop).nilrow 206 12).pick (A := rdrA W 197 g _) (by repeat first | exact .here _ _ | assumption | apply Pick.there))
             | exact (((((hS.pick (A := blkA g6 206 _) (by repeat first | exact .here _ _ | assumption | apply Pick.there)).drop.pick (A := blkA g1 150 _) (by repeat first | exact .here _ _ | assumption | apply Pick.there)).drop.pick (A := rowA 206 12 A' _ c' _) (by repeat first | exact .here _ _ | assumption | apply Pick.there)).drop).nilrow 206 12).pick (A := rdrA W 197 g _) (by repeat first | exact .here _ _ | assumption | apply Pick.there))
        | exact Bool.noConfusion (show true = false from hbf)
        | (have hfin := evOk_t hbf hall
           obtain ⟨e1, e2⟩ := evOk_yes hfin
           rw [hfin, e1, e2]
           exact ⟨A', _, c', rfl, hmm, hS.swap⟩)
    · intro hc22
      have hbf := hc22
      refine c_skip ?_
      refine c_seq ?_
      refine c_region ?_
      refine t_q (q_mv (.slice _ _ _) rfl) ?_
      refine t_q (q_as (.slice _ _ _) rfl) ?_
      refine t_q (q_assign) ?_
      refine t_nil ?_
      refine c_ret ?_
      refine r_two rfl rfl rfl ?_
      first
        | (obtain ⟨e1, e2⟩ := evOk_no hfin
           rw [hfin, e1, e2]
           refine ⟨none, 0, 0, rfl, rfl, ?_⟩
           first
             | (rw [← hst]; exact ((((hS.pick (A := blkA g1 150 _) (by repeat first | exact .here _ _ | assumption | apply Pick.there)).drop.pick (A := rowA 206 12 A' _ c' _) (by repeat first | exact .here _ _ | assumption | apply Pick.there)).drop).nilrow 206 12).pick (A := rdrA W 197 g _) (by repeat first | exact .here _ _ | assumption | apply Pick.there))
             | exact (((((hS.pick (A := blkA g6 206 _) (by repeat first | exact .here _ _ | assumption | apply Pick.there)).drop.pick (A := blkA g1 150 _) (by repeat first | exact .here _ _ | assumption | apply Pick.there)).drop.pick (A := rowA 206 12 A' _ c' _) (by repeat first | exact .here _ _ | assumption | apply Pick.there)).drop).nilrow 206 12).pick (A := rdrA W 197 g _) (by repeat first | exact .here _ _ | assumption | apply Pick.there))
        | exact Bool.noConfusion (show true = false from hbf)
        | (have hfin := evOk_t hbf hall
           obtain ⟨e1, e2⟩ := evOk_yes hfin
           rw [hfin, e1, e2]
           exact ⟨A', _, c', rfl, hmm, hS.swap⟩)
set_option maxHeartbeats 2000000 in
set_option maxRecDepth 100000 in
theorem qeread_calls {w : World} {L R : List Asn} {g : Nat} {s : Rs} (hS : St W w L) (pk : Pick L (rdrA W 145 g s) R) :
  Calls Try.prog 122 #[.pointer (some ⟨g, 0, none⟩)] w fun e w' => ∃ A' m c', e = .returned (.tuple #[.slice A' m c', .bool (evOk s)]) ∧ m = (evL s).length ∧ St W w' (rdrA W 145 g (evS s) :: rowA 206 12 A' m c' ((evL s).flatMap Ev.cells) :: R) := by
  replace hS := hS.pick pk
  clear pk
  have hN := evN_le s
  refine calls_of_wpE (args := [_]) Try.func122 rfl rfl rfl ?_
  refine c_seq ?_
  refine c_region ?_
  refine t_q (q_assign) ?_
  refine t_q (q_assign) ?_
  refine t_nil ?_
  refine c_seq ?_
  refine c_region ?_
  refine t_q (q_assign) ?_
  refine t_nil ?_
  refine c_seq ?_
  refine c_region ?_
  refine t_q (q_assign) ?_
  refine t_nil ?_
  refine c_seq ?_
  refine c_region ?_
  refine t_q (q_assign) ?_
  refine t_nil ?_
  refine c_seq ?_
  refine c_region ?_
  refine t_q (q_mv (.pointer _) rfl) ?_
  refine t_call Try.call75 (qNat256 hS (by repeat first | exact .here _ _ | assumption | apply Pick.there)) rfl ?_
  rintro e w ⟨rfl, hS⟩
  refine ⟨_, rfl, ?_⟩
  refine t_q (q_as (.int _ _) rfl) ?_
  refine t_nil ?_
  refine c_seq ?_
  refine c_seq ?_
  refine c_region ?_
  refine t_q (q_assign) ?_
  refine t_nil ?_
  refine c_block ?_
  refine c_loop [5, 6, 8, 9, 12, 13, 14, 15, 16, 17, 18, 19, 20, 21, 22, 23, 24, 25, 26, 27, 28, 29, 30, 31, 32, 33, 34, 35, 36, 37, 38, 39, 40, 41, 42, 43, 44, 45, 46, 47, 48, 49, 50, 51, 52, 53, 54, 55, 56, 57, 58, 59, 60, 61, 62, 63, 64, 65, 66, 67, 68, 69, 70] (fun k σ w => ∃ (i : Nat) (A' : Option Addr) (m c' : Nat), σ 8 = .int .u64 (i : Int) ∧ σ 5 = .slice A' m c' ∧ σ 6 = .bool (evAll s i) ∧ i ≤ evN s ∧ evN s - i ≤ k ∧ m = (evk s i).1.length ∧ St W w (rdrA W 145 g (evk s i).2 :: rowA 206 12 A' m c' (((evk s i).1).flatMap Ev.cells) :: R)) (evN s) rfl (⟨0, none, 0, 0, rfl, rfl, rfl, by omega, by omega, rfl, (((hS.nilrow 206 12).pick (A := rowA 206 12 none 0 0 []) (by repeat first | exact .here _ _ | assumption | apply Pick.there)).pick (A := rdrA W 145 g _) (by repeat first | exact .here _ _ | assumption | apply Pick.there))⟩) ?_
  skip
  rintro k σ w ⟨i, A', m, c', h8, h5, h6, hi, hk, hmm, hS⟩
  refine c_know 8 h8 ?_
  refine c_know 5 h5 ?_
  refine c_know 6 h6 ?_
  clear h8 h5 h6
  have hel := evk_len s i
  refine c_seq ?_
  refine c_seq ?_
  refine c_region ?_
  refine t_q (q_mv (.int _ _) rfl) ?_
  refine t_q (q_mv (.int _ _) rfl) ?_
  refine t_q (q_lss rfl rfl) ?_
  refine t_nil ?_
  refine c_cond rfl ?_ ?_
  · intro hc3
    have hc3d := of_decide_eq_true hc3
    refine c_skip ?_
    refine c_seq ?_
    refine c_block ?_
    refine c_seq ?_
    refine c_region ?_
    refine t_alloc Try.zeroValue206 rfl hS (fun g9 w hS => ?_)
    refine t_nil ?_
    refine c_seq ?_
    refine c_region ?_
    refine t_q (q_mv (.pointer _) rfl) ?_
    refine t_call Try.call151 (qInt hS (by repeat first | exact .here _ _ | assumption | apply Pick.there)) rfl ?_
    rintro e w ⟨rfl, hS⟩
    refine ⟨_, rfl, ?_⟩
    refine t_q (q_fieldAddr 0 Try.runUnderlying206 rfl Try.sizeOf3 (by decide) rfl rfl) ?_
    refine t_store (v := (.int _ _)) Try.sizeOf3 hS (by repeat first | exact .here _ _ | assumption | apply Pick.there) rfl rfl rfl rfl rfl rfl (fun w hS => ?_)
    replace hS := hS.recast (show blkA g9 206 _ = blkA g9 206 [.int .i64 (evk s i).2.int.1, .int .i64 0, .int .u64 0, .int .u64 0, .int .i64 0, .int .i64 0, .int .i64 0, .int .i64 0, .int .i64 0, .int .i64 0, .int .i64 0, .int .u64 0] from rfl)
    refine t_nil ?_
    refine c_seq ?_
    refine c_region ?_
    refine t_q (q_mv (.pointer _) rfl) ?_
    refine t_call Try.call151 (qInt hS (by repeat first | exact .here _ _ | assumption | apply Pick.there)) rfl ?_
    rintro e w ⟨rfl, hS⟩
    refine ⟨_, rfl, ?_⟩
    refine t_q (q_fieldAddr 1 Try.runUnderlying206 rfl Try.sizeOf3 (by decide) rfl rfl) ?_
    refine t_store (v := (.int _ _)) Try.sizeOf3 hS (by repeat first | exact .here _ _ | assumption | apply Pick.there) rfl rfl rfl rfl rfl rfl (fun w hS => ?_)
    replace hS := hS.recast (show blkA g9 206 _ = blkA g9 206 [.int .i64 (evk s i).2.int.1, .int .i64 (evk s i).2.int.2.int.1, .int .u64 0, .int .u64 0, .int .i64 0, .int .i64 0, .int .i64 0, .int .i64 0, .int .i64 0, .int .i64 0, .int .i64 0, .int .u64 0] from rfl)
    refine t_nil ?_
    refine c_seq ?_
    refine c_region ?_
    refine t_q (q_mv (.pointer _) rfl) ?_
    refine t_q (q_mv (.int _ _) rfl) ?_
    refine t_call Try.call75 (qAll hS (by repeat first | exact .here _ _ | assumption | apply Pick.there)) rfl ?_
    rintro e w ⟨rfl, hS⟩
    refine ⟨_, rfl, ?_⟩
    refine t_q (q_fieldAddr 2 Try.runUnderlying206 rfl Try.sizeOf43 (by decide) rfl rfl) ?_
    refine t_store (v := (.int _ _)) Try.sizeOf43 hS (by repeat first | exact .here _ _ | assumption | apply Pick.there) rfl rfl rfl rfl rfl rfl (fun w hS => ?_)
    replace hS := hS.recast (show blkA g9 206 _ = blkA g9 206 [.int .i64 (evk s i).2.int.1, .int .i64 (evk s i).2.int.2.int.1, .int .u64 (evk s i).2.int.2.int.2.all.1, .int .u64 0, .int .i64 0, .int .i64 0, .int .i64 0, .int .i64 0, .int .i64 0, .int .i64 0, .int .i64 0, .int .u64 0] from rfl)
    refine t_nil ?_
    refine c_seq ?_
    refine c_region ?_
    refine t_q (q_mv (.pointer _) rfl) ?_
    refine t_q (q_mv (.int _ _) rfl) ?_
    refine t_call Try.call75 (qAll hS (by repeat first | exact .here _ _ | assumption | apply Pick.there)) rfl ?_
    rintro e w ⟨rfl, hS⟩
    refine ⟨_, rfl, ?_⟩
    refine t_q (q_fieldAddr 3 Try.runUnderlying206 rfl Try.sizeOf43 (by decide) rfl rfl) ?_
    refine t_store (v := (.int _ _)) Try.sizeOf43 hS (by repeat first | exact .here _ _ | assumption | apply Pick.there) rfl rfl rfl rfl rfl rfl (fun w hS => ?_)
    replace hS := hS.recast (show blkA g9 206 _ = blkA g9 206 [.int .i64 (evk s i).2.int.1, .int .i64 (evk s i).2.int.2.int.1, .int .u64 (evk s i).2.int.2.int.2.all.1, .int .u64 (evk s i).2.int.2.int.2.all.2.all.1, .int .i64 0, .int .i64 0, .int .i64 0, .int .i64 0, .int .i64 0, .int .i64 0, .int .i64 0, .int .u64 0] from rfl)
    refine t_nil ?_
    refine c_seq ?_
    refine c_region ?_
    refine t_q (q_mv (.pointer _) rfl) ?_
    refine t_call Try.call151 (qInt hS (by repeat first | exact .here _ _ | assumption | apply Pick.there)) rfl ?_
    rintro e w ⟨rfl, hS⟩
    refine ⟨_, rfl, ?_⟩
    refine t_q (q_fieldAddr 4 Try.runUnderlying206 rfl Try.sizeOf3 (by decide) rfl rfl) ?_
    refine t_store (v := (.int _ _)) Try.sizeOf3 hS (by repeat first | exact .here _ _ | assumption | apply Pick.there) rfl rfl rfl rfl rfl rfl (fun w hS => ?_)
    replace hS := hS.recast (show blkA g9 206 _ = blkA g9 206 [.int .i64 (evk s i).2.int.1, .int .i64 (evk s i).2.int.2.int.1, .int .u64 (evk s i).2.int.2.int.2.all.1, .int .u64 (evk s i).2.int.2.int.2.all.2.all.1, .int .i64 (evk s i).2.int.2.int.2.all.2.all.2.int.1, .int .i64 0, .int .i64 0, .int .i64 0, .int .i64 0, .int .i64 0, .int .i64 0, .int .u64 0] from rfl)
    refine t_nil ?_
    refine c_seq ?_
    refine c_region ?_
    refine t_q (q_mv (.pointer _) rfl) ?_
    refine t_call Try.call151 (qInt hS (by repeat first | exact .here _ _ | assumption | apply Pick.there)) rfl ?_
    rintro e w ⟨rfl, hS⟩
    refine ⟨_, rfl, ?_⟩
    refine t_q (q_fieldAddr 5 Try.runUnderlying206 rfl Try.sizeOf2 (by decide) rfl rfl) ?_
    refine t_store (v := (.int _ _)) Try.sizeOf2 hS (by repeat first | exact .here _ _ | assumption | apply Pick.there) rfl rfl rfl rfl rfl rfl (fun w hS => ?_)
    replace hS := hS.recast (show blkA g9 206 _ = blkA g9 206 [.int .i64 (evk s i).2.int.1, .int .i64 (evk s i).2.int.2.int.1, .int .u64 (evk s i).2.int.2.int.2.all.1, .int .u64 (evk s i).2.int.2.int.2.all.2.all.1, .int .i64 (evk s i).2.int.2.int.2.all.2.all.2.int.1, .int .i64 (evk s i).2.int.2.int.2.all.2.all.2.int.2.int.1, .int .i64 0, .int .i64 0, .int .i64 0, .int .i64 0, .int .i64 0, .int .u64 0] from rfl)
    refine t_nil ?_
    refine c_seq ?_
    refine c_region ?_
    refine t_q (q_mv (.pointer _) rfl) ?_
    refine t_call Try.call151 (qInt hS (by repeat first | exact .here _ _ | assumption | apply Pick.there)) rfl ?_
    rintro e w ⟨rfl, hS⟩
    refine ⟨_, rfl, ?_⟩
    refine t_q (q_fieldAddr 6 Try.runUnderlying206 rfl Try.sizeOf2 (by decide) rfl rfl) ?_
    refine t_store (v := (.int _ _)) Try.sizeOf2 hS (by repeat first | exact .here _ _ | assumption | apply Pick.there) rfl rfl rfl rfl rfl rfl (fun w hS => ?_)
    replace hS := hS.recast (show blkA g9 206 _ = blkA g9 206 [.int .i64 (evk s i).2.int.1, .int .i64 (evk s i).2.int.2.int.1, .int .u64 (evk s i).2.int.2.int.2.all.1, .int .u64 (evk s i).2.int.2.int.2.all.2.all.1, .int .i64 (evk s i).2.int.2.int.2.all.2.all.2.int.1, .int .i64 (evk s i).2.int.2.int.2.all.2.all.2.int.2.int.1, .int .i64 (evk s i).2.int.2.int.2.all.2.all.2.int.2.int.2.int.1, .int .i64 0, .int .i64 0, .int .i64 0, .int .i64 0, .int .u64 0] from rfl)
    refine t_nil ?_
    refine c_seq ?_
    refine c_region ?_
    refine t_q (q_mv (.pointer _) rfl) ?_
    refine t_call Try.call151 (qInt hS (by repeat first | exact .here _ _ | assumption | apply Pick.there)) rfl ?_
    rintro e w ⟨rfl, hS⟩
    refine ⟨_, rfl, ?_⟩
    refine t_q (q_fieldAddr 7 Try.runUnderlying206 rfl Try.sizeOf2 (by decide) rfl rfl) ?_
    refine t_store (v := (.int _ _)) Try.sizeOf2 hS (by repeat first | exact .here _ _ | assumption | apply Pick.there) rfl rfl rfl rfl rfl rfl (fun w hS => ?_)
    replace hS := hS.recast (show blkA g9 206 _ = blkA g9 206 [.int .i64 (evk s i).2.int.1, .int .i64 (evk s i).2.int.2.int.1, .int .u64 (evk s i).2.int.2.int.2.all.1, .int .u64 (evk s i).2.int.2.int.2.all.2.all.1, .int .i64 (evk s i).2.int.2.int.2.all.2.all.2.int.1, .int .i64 (evk s i).2.int.2.int.2.all.2.all.2.int.2.int.1, .int .i64 (evk s i).2.int.2.int.2.all.2.all.2.int.2.int.2.int.1, .int .i64 (evk s i).2.int.2.int.2.all.2.all.2.int.2.int.2.int.2.int.1, .int .i64 0, .int .i64 0, .int .i64 0, .int .u64 0] from rfl)
    refine t_nil ?_
    refine c_seq ?_
    refine c_region ?_
    refine t_q (q_mv (.pointer _) rfl) ?_
    refine t_call Try.call151 (qInt hS (by repeat first | exact .here _ _ | assumption | apply Pick.there)) rfl ?_
    rintro e w ⟨rfl, hS⟩
    refine ⟨_, rfl, ?_⟩
    refine t_q (q_fieldAddr 8 Try.runUnderlying206 rfl Try.sizeOf2 (by decide) rfl rfl) ?_
    refine t_store (v := (.int _ _)) Try.sizeOf2 hS (by repeat first | exact .here _ _ | assumption | apply Pick.there) rfl rfl rfl rfl rfl rfl (fun w hS => ?_)
    replace hS := hS.recast (show blkA g9 206 _ = blkA g9 206 [.int .i64 (evk s i).2.int.1, .int .i64 (evk s i).2.int.2.int.1, .int .u64 (evk s i).2.int.2.int.2.all.1, .int .u64 (evk s i).2.int.2.int.2.all.2.all.1, .int .i64 (evk s i).2.int.2.int.2.all.2.all.2.int.1, .int .i64 (evk s i).2.int.2.int.2.all.2.all.2.int.2.int.1, .int .i64 (evk s i).2.int.2.int.2.all.2.all.2.int.2.int.2.int.1, .int .i64 (evk s i).2.int.2.int.2.all.2.all.2.int.2.int.2.int.2.int.1, .int .i64 (evk s i).2.int.2.int.2.all.2.all.2.int.2.int.2.int.2.int.2.int.1, .int .i64 0, .int .i64 0, .int .u64 0] from rfl)
    refine t_nil ?_
    refine c_seq ?_
    refine c_region ?_
    refine t_q (q_mv (.pointer _) rfl) ?_
    refine t_call Try.call151 (qInt hS (by repeat first | exact .here _ _ | assumption | apply Pick.there)) rfl ?_
    rintro e w ⟨rfl, hS⟩
    refine ⟨_, rfl, ?_⟩
    refine t_q (q_fieldAddr 9 Try.runUnderlying206 rfl Try.sizeOf29 (by decide) rfl rfl) ?_
    refine t_store (v := (.int _ _)) Try.sizeOf29 hS (by repeat first | exact .here _ _ | assumption | apply Pick.there) rfl rfl rfl rfl rfl rfl (fun w hS => ?_)
    replace hS := hS.recast (show blkA g9 206 _ = blkA g9 206 [.int .i64 (evk s i).2.int.1, .int .i64 (evk s i).2.int.2.int.1, .int .u64 (evk s i).2.int.2.int.2.all.1, .int .u64 (evk s i).2.int.2.int.2.all.2.all.1, .int .i64 (evk s i).2.int.2.int.2.all.2.all.2.int.1, .int .i64 (evk s i).2.int.2.int.2.all.2.all.2.int.2.int.1, .int .i64 (evk s i).2.int.2.int.2.all.2.all.2.int.2.int.2.int.1, .int .i64 (evk s i).2.int.2.int.2.all.2.all.2.int.2.int.2.int.2.int.1, .int .i64 (evk s i).2.int.2.int.2.all.2.all.2.int.2.int.2.int.2.int.2.int.1, .int .i64 (evk s i).2.int.2.int.2.all.2.all.2.int.2.int.2.int.2.int.2.int.2.int.1, .int .i64 0, .int .u64 0] from rfl)
    refine t_nil ?_
    refine c_seq ?_
    refine c_region ?_
    refine t_q (q_mv (.pointer _) rfl) ?_
    refine t_call Try.call151 (qInt hS (by repeat first | exact .here _ _ | assumption | apply Pick.there)) rfl ?_
    rintro e w ⟨rfl, hS⟩
    refine ⟨_, rfl, ?_⟩
    refine t_q (q_fieldAddr 10 Try.runUnderlying206 rfl Try.sizeOf3 (by decide) rfl rfl) ?_
    refine t_store (v := (.int _ _)) Try.sizeOf3 hS (by repeat first | exact .here _ _ | assumption | apply Pick.there) rfl rfl rfl rfl rfl rfl (fun w hS => ?_)
    replace hS := hS.recast (show blkA g9 206 _ = blkA g9 206 [.int .i64 (evk s i).2.int.1, .int .i64 (evk s i).2.int.2.int.1, .int .u64 (evk s i).2.int.2.int.2.all.1, .int .u64 (evk s i).2.int.2.int.2.all.2.all.1, .int .i64 (evk s i).2.int.2.int.2.all.2.all.2.int.1, .int .i64 (evk s i).2.int.2.int.2.all.2.all.2.int.2.int.1, .int .i64 (evk s i).2.int.2.int.2.all.2.all.2.int.2.int.2.int.1, .int .i64 (evk s i).2.int.2.int.2.all.2.all.2.int.2.int.2.int.2.int.1, .int .i64 (evk s i).2.int.2.int.2.all.2.all.2.int.2.int.2.int.2.int.2.int.1, .int .i64 (evk s i).2.int.2.int.2.all.2.all.2.int.2.int.2.int.2.int.2.int.2.int.1, .int .i64 (evk s i).2.int.2.int.2.all.2.all.2.int.2.int.2.int.2.int.2.int.2.int.2.int.1, .int .u64 0] from rfl)
    refine t_nil ?_
    refine c_seq ?_
    refine c_region ?_
    refine t_q (q_mv (.pointer _) rfl) ?_
    refine t_q (q_mv (.int _ _) rfl) ?_
    refine t_call Try.call75 (qAll hS (by repeat first | exact .here _ _ | assumption | apply Pick.there)) rfl ?_
    rintro e w ⟨rfl, hS⟩
    refine ⟨_, rfl, ?_⟩
    refine t_q (q_fieldAddr 11 Try.runUnderlying206 rfl Try.sizeOf43 (by decide) rfl rfl) ?_
    refine t_store (v := (.int _ _)) Try.sizeOf43 hS (by repeat first | exact .here _ _ | assumption | apply Pick.there) rfl rfl rfl rfl rfl rfl (fun w hS => ?_)
    replace hS := hS.recast (show blkA g9 206 _ = blkA g9 206 [.int .i64 (evk s i).2.int.1, .int .i64 (evk s i).2.int.2.int.1, .int .u64 (evk s i).2.int.2.int.2.all.1, .int .u64 (evk s i).2.int.2.int.2.all.2.all.1, .int .i64 (evk s i).2.int.2.int.2.all.2.all.2.int.1, .int .i64 (evk s i).2.int.2.int.2.all.2.all.2.int.2.int.1, .int .i64 (evk s i).2.int.2.int.2.all.2.all.2.int.2.int.2.int.1, .int .i64 (evk s i).2.int.2.int.2.all.2.all.2.int.2.int.2.int.2.int.1, .int .i64 (evk s i).2.int.2.int.2.all.2.all.2.int.2.int.2.int.2.int.2.int.1, .int .i64 (evk s i).2.int.2.int.2.all.2.all.2.int.2.int.2.int.2.int.2.int.2.int.1, .int .i64 (evk s i).2.int.2.int.2.all.2.all.2.int.2.int.2.int.2.int.2.int.2.int.2.int.1, .int .u64 (evk s i).2.int.2.int.2.all.2.all.2.int.2.int.2.int.2.int.2.int.2.int.2.int.2.all.1] from rfl)
    refine t_nil ?_
    refine c_seq ?_
    replace hS := (hS.pick (A := blkA g9 206 _) (by repeat first | exact .here _ _ | assumption | apply Pick.there)).recast (show _ = blkA g9 206 (evR (evk s i).2).1.cells from rfl)
    refine c_region ?_
    refine t_q (q_mv (.slice _ _ _) rfl) ?_
    refine t_q (q_load_blk Try.isAgg206 Try.sizeOf206 rfl (hS.blk (by repeat first | exact .here _ _ | assumption | apply Pick.there)) rfl) ?_
    refine t_buildSlice Try.runUnderlying112 Try.sizeOf206 Try.zeroValue206 rfl rfl (by intro v hv; simp at hv; try (first | (subst hv; rfl) | (rcases hv with rfl | rfl <;> rfl))) (by decide) (by decide) hS (fun g58 w hS => ?_)
    refine t_append_own (size := 12) (bytes := 96) Try.underlying112 (info_of Try.type206) rfl rfl rfl rfl (by decide) hS (by repeat first | exact .here _ _ | assumption | apply Pick.there) (by repeat first | exact .here _ _ | assumption | apply Pick.there) rfl rfl (by first | exact allOne_bv _ | exact allOne_ints _ _ | rfl) (by unfold maxLen; omega) (by omega) (fun A59 c59 w hS => ?_)
    refine t_q (q_as (.slice _ _ _) rfl) ?_
    refine t_nil ?_
    refine c_region ?_
    refine t_q (q_mv (.bool _) rfl) ?_
    refine t_q (q_mv (.bool _) rfl) ?_
    refine t_case 61 rfl ?_ ?_
    · intro hg17
      refine t_yes rfl rfl hg17 ?_
      refine t_q (q_fieldAddr 0 Try.runUnderlying206 rfl Try.sizeOf3 (by decide) rfl rfl) ?_
      refine t_yes rfl rfl hg17 ?_
      refine t_q (q_load1 Try.isAgg3 rfl (hS.cell (by repeat first | exact .here _ _ | assumption | apply Pick.there) rfl)) ?_
      refine t_yes rfl rfl hg17 ?_
      refine t_q (q_geq rfl rfl) ?_
      refine t_q (q_pick_t rfl hg17) ?_
      refine t_q (q_mv (.bool _) rfl) ?_
      refine t_case 66 rfl ?_ ?_
      · intro hg19
        have hg19d := of_decide_eq_true hg19
        refine t_yes rfl rfl hg19 ?_
        refine t_q (q_fieldAddr 0 Try.runUnderlying206 rfl Try.sizeOf3 (by decide) rfl rfl) ?_
        refine t_yes rfl rfl hg19 ?_
        refine t_q (q_load1 Try.isAgg3 rfl (hS.cell (by repeat first | exact .here _ _ | assumption | apply Pick.there) rfl)) ?_
        refine t_yes rfl rfl hg19 ?_
        refine t_q (q_leq rfl rfl) ?_
        refine t_q (q_cast (v' := .bool (evAll s (i + 1))) (q_pick_t rfl hg19) (by
      first
        | exact congrArg Value.bool (show decide ((evR (evk s i).2).1.kind ≤ 15) = evAll s (i + 1) from by rw [evAll_snoc, ‹evAll s i = true›, kindB, ‹decide (1 ≤ (evR (evk s i).2).1.kind) = true›]; rfl)
        | exact congrArg Value.bool (show false = evAll s (i + 1) from by rw [evAll_snoc, ‹evAll s i = true›, kindB, ‹decide (1 ≤ (evR (evk s i).2).1.kind) = false›]; rfl)
        | exact congrArg Value.bool (show false = evAll s (i + 1) from by rw [evAll_snoc, ‹evAll s i = false›]; rfl))) ?_
        refine t_q (q_as (.bool _) rfl) ?_
        refine t_nil ?_
        refine c_region ?_
        refine t_q (q_mv (.int _ _) rfl) ?_
        refine t_q (q_add_u64 rfl rfl (by omega)) ?_
        refine t_q (q_as (.int _ _) rfl) ?_
        refine t_nil ?_
        replace hS := (hS.pick (A := rowA 206 12 A59 _ c59 _) (by repeat first | exact .here _ _ | assumption | apply Pick.there)).recast (congrArg (rowA 206 12 A59 _ c59) (show _ = (evk s (i + 1)).1.flatMap Ev.cells from by rw [evk, List.flatMap_append]; rfl))
        replace hS := (hS.pick (A := blkA g9 206 _) (by repeat first | exact .here _ _ | assumption | apply Pick.there)).drop
        refine ⟨k - 1, by omega, i + 1, A59, _, c59, rfl, rfl, rfl, by omega, by omega, ?_, ((hS.pick (A := rowA 206 12 A59 _ c59 _) (by repeat first | exact .here _ _ | assumption | apply Pick.there)).pick (A := rdrA W 145 g (evk s (i + 1)).2) (by repeat first | exact .here _ _ | assumption | apply Pick.there))⟩
        rw [evk_len, hmm, hel]
      · intro hg19
        have hg19d := of_decide_eq_false hg19
        refine t_no rfl rfl (by rw [hg19]; decide) ?_
        refine t_no rfl rfl (by rw [hg19]; decide) ?_
        refine t_no rfl rfl (by rw [hg19]; decide) ?_
        refine t_q (q_cast (v' := .bool (evAll s (i + 1))) (q_pick_f rfl hg19) (by
      first
        | exact congrArg Value.bool (show decide ((evR (evk s i).2).1.kind ≤ 15) = evAll s (i + 1) from by rw [evAll_snoc, ‹evAll s i = true›, kindB, ‹decide (1 ≤ (evR (evk s i).2).1.kind) = true›]; rfl)
        | exact congrArg Value.bool (show false = evAll s (i + 1) from by rw [evAll_snoc, ‹evAll s i = true›, kindB, ‹decide (1 ≤ (evR (evk s i).2).1.kind) = false›]; rfl)
        | exact congrArg Value.bool (show false = evAll s (i + 1) from by rw [evAll_snoc, ‹evAll s i = false›]; rfl))) ?_
        refine t_q (q_as (.bool _) rfl) ?_
        refine t_nil ?_
        refine c_region ?_
        refine t_q (q_mv (.int _ _) rfl) ?_
        refine t_q (q_add_u64 rfl rfl (by omega)) ?_
        refine t_q (q_as (.int _ _) rfl) ?_
        refine t_nil ?_
        replace hS := (hS.pick (A := rowA 206 12 A59 _ c59 _) (by repeat first | exact .here _ _ | assumption | apply Pick.there)).recast (congrArg (rowA 206 12 A59 _ c59) (show _ = (evk s (i + 1)).1.flatMap Ev.cells from by rw [evk, List.flatMap_append]; rfl))
        replace hS := (hS.pick (A := blkA g9 206 _) (by repeat first | exact .here _ _ | assumption | apply Pick.there)).drop
        refine ⟨k - 1, by omega, i + 1, A59, _, c59, rfl, rfl, rfl, by omega, by omega, ?_, ((hS.pick (A := rowA 206 12 A59 _ c59 _) (by repeat first | exact .here _ _ | assumption | apply Pick.there)).pick (A := rdrA W 145 g (evk s (i + 1)).2) (by repeat first | exact .here _ _ | assumption | apply Pick.there))⟩
        rw [evk_len, hmm, hel]
    · intro hg17
      refine t_no rfl rfl (by rw [hg17]; decide) ?_
      refine t_no rfl rfl (by rw [hg17]; decide) ?_
      refine t_no rfl rfl (by rw [hg17]; decide) ?_
      refine t_q (q_pick_f rfl hg17) ?_
      refine t_q (q_mv (.bool _) rfl) ?_
      refine t_no rfl rfl (by decide) ?_
      refine t_no rfl rfl (by decide) ?_
      refine t_no rfl rfl (by decide) ?_
      refine t_q (q_cast (v' := .bool (evAll s (i + 1))) (q_pick_f rfl rfl) (by
      first
        | exact congrArg Value.bool (show decide ((evR (evk s i).2).1.kind ≤ 15) = evAll s (i + 1) from by rw [evAll_snoc, ‹evAll s i = true›, kindB, ‹decide (1 ≤ (evR (evk s i).2).1.kind) = true›]; rfl)
        | exact congrArg Value.bool (show false = evAll s (i + 1) from by rw [evAll_snoc, ‹evAll s i = true›, kindB, ‹decide (1 ≤ (evR (evk s i).2).1.kind) = false›]; rfl)
        | exact congrArg Value.bool (show false = evAll s (i + 1) from by rw [evAll_snoc, ‹evAll s i = false›]; rfl))) ?_
      refine t_q (q_as (.bool _) rfl) ?_
      refine t_nil ?_
      refine c_region ?_
      refine t_q (q_mv (.int _ _) rfl) ?_
      refine t_q (q_add_u64 rfl rfl (by omega)) ?_
      refine t_q (q_as (.int _ _) rfl) ?_
      refine t_nil ?_
      replace hS := (hS.pick (A := rowA 206 12 A59 _ c59 _) (by repeat first | exact .here _ _ | assumption | apply Pick.there)).recast (congrArg (rowA 206 12 A59 _ c59) (show _ = (evk s (i + 1)).1.flatMap Ev.cells from by rw [evk, List.flatMap_append]; rfl))
      replace hS := (hS.pick (A := blkA g9 206 _) (by repeat first | exact .here _ _ | assumption | apply Pick.there)).drop
      refine ⟨k - 1, by omega, i + 1, A59, _, c59, rfl, rfl, rfl, by omega, by omega, ?_, ((hS.pick (A := rowA 206 12 A59 _ c59 _) (by repeat first | exact .here _ _ | assumption | apply Pick.there)).pick (A := rdrA W 145 g (evk s (i + 1)).2) (by repeat first | exact .here _ _ | assumption | apply Pick.there))⟩
      rw [evk_len, hmm, hel]
  · intro hc3
    have hc3d := of_decide_eq_false hc3
    refine c_exit ?_
    refine ite_t rfl ?_
    refine c_seq ?_
    refine c_seq ?_
    obtain rfl : i = evN s := by omega
    obtain ⟨Ar, cr, hRr, hcr, hS⟩ := hS.rdr
    refine c_region ?_
    refine t_q (q_mv (.pointer _) rfl) ?_
    refine t_q (q_nilCheck rfl) ?_
    refine t_q (q_fieldAddr 1 Try.runUnderlying145 rfl Try.sizeOf4 (by decide) rfl rfl) ?_
    refine t_q (q_load1 Try.isAgg4 rfl (hS.cell (by repeat first | exact .here _ _ | assumption | apply Pick.there) rfl)) ?_
    refine t_q (q_mv (.bool _) rfl) ?_
    refine t_case 75 rfl ?_ ?_
    · intro hg22
      refine t_no rfl rfl (by rw [hg22]; decide) ?_
      refine t_no rfl rfl (by rw [hg22]; decide) ?_
      refine t_q (q_pick_t rfl hg22) ?_
      refine t_nil ?_
      refine c_cond_t rfl rfl ?_
      have hfin : evOk s = false := by first | exact evOk_f1 (by assumption) | exact evOk_f3 (by assumption)
      refine c_seq ?_
      refine c_region ?_
      refine t_q (q_mv (.pointer _) rfl) ?_
      refine t_call Try.call152 (qFail (hS.unrdr rfl rfl hRr hcr) (.here _ _)) rfl ?_
      rintro e w ⟨rfl, hS⟩
      refine ⟨_, rfl, ?_⟩
      refine t_nil ?_
      refine c_seq ?_
      refine c_region ?_
      refine t_q (q_assign) ?_
      refine t_q (q_assign) ?_
      refine t_nil ?_
      refine c_ret ?_
      refine r_two rfl rfl rfl ?_
      first
        | (obtain ⟨e1, e2⟩ := evOk_no hfin
           rw [hfin, e1, e2]
           exact ⟨none, 0, 0, rfl, rfl, ((hS.swap).nilrow 206 12).pick (A := rdrA W 145 g _) (by repeat first | exact .here _ _ | assumption | apply Pick.there)⟩)
        | (obtain ⟨e1, e2⟩ := evOk_yes hfin
           rw [hfin, e1, e2]
           exact ⟨A', _, c', rfl, hmm, hS.unrdr rfl rfl hRr hcr⟩)
    · intro hg22
      refine t_yes rfl rfl hg22 ?_
      refine t_q (q_mv (.bool _) rfl) ?_
      refine t_yes rfl rfl hg22 ?_
      refine t_q (q_not rfl) ?_
      refine t_q (q_pick_f rfl hg22) ?_
      refine t_nil ?_
      refine c_cond rfl ?_ ?_
      · intro hc25
        have hfin : evOk s = false := by first | exact evOk_f1 (by assumption) | exact evOk_f3 (by assumption)
        refine c_seq ?_
        refine c_region ?_
        refine t_q (q_mv (.pointer _) rfl) ?_
        refine t_call Try.call152 (qFail (hS.unrdr rfl rfl hRr hcr) (.here _ _)) rfl ?_
        rintro e w ⟨rfl, hS⟩
        refine ⟨_, rfl, ?_⟩
        refine t_nil ?_
        refine c_seq ?_
        refine c_region ?_
        refine t_q (q_assign) ?_
        refine t_q (q_assign) ?_
        refine t_nil ?_
        refine c_ret ?_
        refine r_two rfl rfl rfl ?_
        first
          | (obtain ⟨e1, e2⟩ := evOk_no hfin
             rw [hfin, e1, e2]
             exact ⟨none, 0, 0, rfl, rfl, ((hS.swap).nilrow 206 12).pick (A := rdrA W 145 g _) (by repeat first | exact .here _ _ | assumption | apply Pick.there)⟩)
          | (obtain ⟨e1, e2⟩ := evOk_yes hfin
             rw [hfin, e1, e2]
             exact ⟨A', _, c', rfl, hmm, hS.unrdr rfl rfl hRr hcr⟩)
      · intro hc25
        have hfin : evOk s = true := evOk_t' (by assumption) (by assumption)
        refine c_skip ?_
        refine c_seq ?_
        refine c_region ?_
        refine t_q (q_mv (.slice _ _ _) rfl) ?_
        refine t_q (q_as (.slice _ _ _) rfl) ?_
        refine t_q (q_assign) ?_
        refine t_nil ?_
        refine c_ret ?_
        refine r_two rfl rfl rfl ?_
        first
          | (obtain ⟨e1, e2⟩ := evOk_no hfin
             rw [hfin, e1, e2]
             exact ⟨none, 0, 0, rfl, rfl, ((hS.swap).nilrow 206 12).pick (A := rdrA W 145 g _) (by repeat first | exact .here _ _ | assumption | apply Pick.there)⟩)
          | (obtain ⟨e1, e2⟩ := evOk_yes hfin
             rw [hfin, e1, e2]
             exact ⟨A', _, c', rfl, hmm, hS.unrdr rfl rfl hRr hcr⟩)
end Go.Proofs.Ytlppgpidakfnlaa
