/- Tables of sessions: whether two are alike; the chapter's example. -/
import Derived.Test.YtcikoealneldkaaSf
namespace Go.Proofs.Ytcikoealneldkaa
open Go Go.RowKit Go.Lib
variable {W : World}
theorem lookL_in {T : Tb} (h : TGood T) (c q : Int) : (∀ e ∈ lookL T c q, e.In) ∧ (lookL T c q).length ≤ 1000000 := by
  unfold lookL
  split
  · exact ⟨h.evs c, Nat.le_trans (h.len c) (by decide)⟩
  · exact ⟨(fun _ h => by cases h), by simp⟩
def optA (o : Option Nat) (A : Nat → Asn) : Asn := match o with
  | none => rowA 5 1 none 0 0 []
  | some g => A g
def oad (o : Option Nat) : Option Addr := o.map fun g => ⟨g, 0, none⟩
theorem oread_calls {w : World} {L R : List Asn} {g : Nat} {s : Rs} (hS : St W w L) (pk : Pick L (rdrA W 106 g s) R) (hW : s.Wf) :
  Calls Try.prog 116 #[.pointer (some ⟨g, 0, none⟩)] w fun e w' => ∃ o, e = .returned (.tuple #[.pointer (oad o), .bool (sOk s)]) ∧ o.isSome = sOk s ∧ St W w' (rdrA W 106 g (sS s) :: optA o (tabA · (sT s)) :: R) :=
  (sread_calls hS pk hW).mono fun e w' hh => by
    obtain ⟨p, rfl, ⟨h1, gt, rfl, hT⟩ | ⟨h1, rfl, hT⟩⟩ := hh
    · exact ⟨some gt, rfl, h1.symm, hT⟩
    · refine ⟨none, rfl, h1.symm, ?_⟩
      rw [(sOk_no h1).2]
      exact (hT.nilrow 5 1).pick (.there (.here _ _))
theorem oqread_calls {w : World} {L R : List Asn} {g : Nat} {s : Rs} (hS : St W w L) (pk : Pick L (rdrA W 81 g s) R) :
  Calls Try.prog 117 #[.pointer (some ⟨g, 0, none⟩)] w fun e w' => ∃ o, e = .returned (.tuple #[.pointer (oad o), .bool (sOk s)]) ∧ o.isSome = sOk s ∧ St W w' (rdrA W 81 g (sS s) :: optA o (refA · (sT s)) :: R) :=
  (qsread_calls hS pk).mono fun e w' hh => by
    obtain ⟨p, rfl, ⟨h1, gt, rfl, hT⟩ | ⟨h1, rfl, hT⟩⟩ := hh
    · exact ⟨some gt, rfl, h1.symm, hT⟩
    · refine ⟨none, rfl, h1.symm, ?_⟩
      rw [(sOk_no h1).2]
      exact (hT.nilrow 5 1).pick (.there (.here _ _))
def ev2 : Ev := ⟨1, 0, 0, 0, 0, 0, 0, 0, 0, 0, 0, 0⟩
theorem ev2_in : ev2.In := by unfold Ev.In ev2; decide
theorem ev2_all : ∀ e ∈ [ev2], e.In := fun e he => by rw [List.mem_singleton.1 he]; exact ev2_in
def T1 : Tb := updT T0 1 (5, [ev2])
theorem T1_good : TGood T1 := TGood.zero.upd (by decide) (by decide) (by simp) ev2_all
theorem done_T1 : doneE T0 1 5 [ev2] = 0 ∧ doneT T0 1 5 [ev2] = T1 := by
  have h : doneE T0 1 5 [ev2] = 0 := rfl
  exact ⟨h, done_yes h⟩
attribute [local irreducible] blkA rowA rdrA mapA mapS rdsA tabA refA wrA Sk.good Sk.cl Sk.rq Sk.s1 Sk.s2 evS rcs
set_option maxHeartbeats 1000000 in
set_option maxRecDepth 100000 in
theorem slike_calls {w : World} {L R R2 : List Asn} {g g2 : Nat} {T : Tb} (hS : St W w L) (pk : Pick L (tabA g T) R2) (pk2 : Pick R2 (refA g2 T) R) (hT : TGood T) :
  Calls Try.prog 118 #[.pointer (some ⟨g, 0, none⟩), .pointer (some ⟨g2, 0, none⟩)] w fun e w' => e = .returned (.bool true) ∧ St W w' (tabA g T :: refA g2 T :: R) := by
  replace hS := (hS.pick pk).pick (.there pk2)
  clear pk pk2
  obtain ⟨sl, hS⟩ := hS.ref
  refine calls_of_wpE (args := [_, _]) Try.func118 rfl rfl rfl ?_
  refine c_seq ?_
  refine c_region ?_
  refine t_q (q_assign) ?_
  refine t_nil ?_
  refine c_seq ?_
  refine c_seq ?_
  refine c_region ?_
  refine t_q (q_move) ?_
  refine t_nil ?_
  refine c_block ?_
  refine c_loop [4, 5, 6, 7, 8, 9, 10, 11, 12, 13, 14, 15, 16, 17, 18, 19, 20, 21, 22, 23, 24, 25, 26, 27, 28, 29, 30, 31, 32, 33, 34, 35, 36, 37, 38, 39, 40, 41, 42, 43, 44, 45, 46, 47, 48, 49, 50, 51, 52, 53, 54, 55, 56, 57, 58, 59, 60, 61, 62, 63, 64, 65, 66] (fun k σ w => ∃ i : Nat, σ 13 = .int .u64 (i : Int) ∧ i ≤ 10 ∧ 10 - i ≤ k ∧ St W w (blkA g2 168 (rcs T sl) :: rdsA (rps T sl) :: tabA g T :: R)) (10) rfl (⟨0, rfl, by omega, by omega, hS⟩) ?_
  skip
  rintro k σ w ⟨i, h13, hi, hk, hS⟩
  refine c_know 13 h13 ?_
  clear h13
  have hlr := lastT_rng hT (i : Int)
  have hli := lookL_in hT (i : Int) (lastT T (i : Int))
  refine c_seq ?_
  refine c_region ?_
  refine t_q (q_lss rfl rfl) ?_
  refine t_nil ?_
  refine c_seq ?_
  refine c_cond rfl ?_ ?_
  · intro hc2
    have hc2d := of_decide_eq_true hc2
    refine c_skip ?_
    refine c_seq ?_
    refine c_block ?_
    refine c_seq ?_
    refine c_region ?_
    refine t_q (q_mv (.int _ _) rfl) ?_
    refine t_q (q_as (.int _ _) rfl) ?_
    refine t_nil ?_
    refine c_seq ?_
    refine c_region ?_
    refine t_q (q_assign) ?_
    refine t_nil ?_
    refine c_seq ?_
    refine c_seq ?_
    refine c_region ?_
    refine t_q (q_mv (.int _ _) rfl) ?_
    refine t_q (q_geq rfl rfl) ?_
    refine t_q (q_mv (.bool _) rfl) ?_
    refine t_case 18 rfl ?_ ?_
    · intro hg4
      have hg4d := of_decide_eq_true hg4
      refine t_yes rfl rfl hg4 ?_
      refine t_q (q_mv (.int _ _) rfl) ?_
      refine t_yes rfl rfl hg4 ?_
      refine t_q (q_leq rfl rfl) ?_
      refine t_q (q_pick_t rfl hg4) ?_
      refine t_nil ?_
      refine c_cond rfl ?_ ?_
      · intro hc6
        have hc6d := of_decide_eq_true hc6
        have hl6 : (T (i : Int)).1 = (lastT T (i : Int)) := by unfold lastT; rw [if_pos (by omega)]
        refine c_region ?_
        refine t_q (q_mv (.pointer _) rfl) ?_
        refine t_q (q_mv (.int _ _) rfl) ?_
        refine t_q (q_nilCheck rfl) ?_
        refine t_q (q_fieldAddr 0 Try.runUnderlying168 rfl Try.sizeOf166 (by decide) rfl rfl) ?_
        first | refine t_q (q_arr_nat Try.runUnderlying166 Try.sizeOf165 rfl rfl (by omega)) ?_ | refine t_q (q_arr Try.runUnderlying166 Try.sizeOf165 rfl rfl (by omega)) ?_
        refine t_q (q_fieldAddr 0 Try.runUnderlying165 rfl Try.sizeOf24 (by decide) rfl rfl) ?_
        refine t_q (q_load1 Try.isAgg24 rfl (hS.cell (by repeat first | exact .here _ _ | assumption | apply Pick.there) (rcs_req (c := (i : Int)) (by omega)))) ?_
        refine t_q (q_as (.int _ _) rfl) ?_
        refine t_nil ?_
        refine c_seq ?_
        refine c_region ?_
        refine t_q (q_mv (.pointer _) rfl) ?_
        refine t_q (q_mv (.int _ _) rfl) ?_
        refine t_q (q_cast (v' := .int .u64 (lastT T (i : Int))) (q_mv (.int _ _) rfl) (congrArg (Value.int .u64) hl6)) ?_
        refine t_call Try.call53 (look_calls hS (by repeat first | exact .here _ _ | assumption | apply Pick.there) hT hlr.1) rfl ?_
        rintro e w ⟨A33, n33, c33, rfl, hn33, hS⟩
        refine ⟨_, rfl, ?_⟩
        subst hn33
        refine t_q (q_mv (.tuple _) rfl) ?_
        refine t_q (q_extract rfl rfl) ?_
        refine t_q (q_extract rfl rfl) ?_
        refine t_q (q_extract rfl rfl) ?_
        refine t_q (q_as (.bool _) rfl) ?_
        refine t_q (q_as (.bool _) rfl) ?_
        refine t_q (q_as (.slice _ _ _) rfl) ?_
        refine t_nil ?_
        refine c_seq ?_
        refine c_region ?_
        refine t_q (q_mv (.pointer _) rfl) ?_
        refine t_q (q_mv (.int _ _) rfl) ?_
        refine t_q (q_cast (v' := .int .u64 (lastT T (i : Int))) (q_mv (.int _ _) rfl) (congrArg (Value.int .u64) hl6)) ?_
        refine t_call Try.call179 (qlook_calls (sl := sl) hS (by repeat first | exact .here _ _ | assumption | apply Pick.there) hlr.1) rfl ?_
        rintro e w ⟨A41, n41, c41, rfl, hn41, hA41, hS⟩
        refine ⟨_, rfl, ?_⟩
        subst hn41
        refine t_q (q_mv (.tuple _) rfl) ?_
        refine t_q (q_extract rfl rfl) ?_
        refine t_q (q_extract rfl rfl) ?_
        refine t_q (q_extract rfl rfl) ?_
        refine t_q (q_as (.bool _) rfl) ?_
        refine t_q (q_as (.bool _) rfl) ?_
        refine t_q (q_as (.slice _ _ _) rfl) ?_
        refine t_nil ?_
        refine c_seq ?_
        refine c_region ?_
        refine t_q (q_mv (.pointer _) rfl) ?_
        refine t_q (q_mv (.int _ _) rfl) ?_
        refine t_call Try.call55 (last_calls hS (by repeat first | exact .here _ _ | assumption | apply Pick.there) hT) rfl ?_
        rintro e w ⟨rfl, hS⟩
        refine ⟨_, rfl, ?_⟩
        refine t_q (q_cast (v' := .int .u64 (lastT T (i : Int))) (q_mv (.int _ _) rfl) (congrArg (Value.int .u64) hl6)) ?_
        refine t_q (q_cast (v' := .bool false) (q_neq rfl rfl) (by simp)) ?_
        refine t_q (q_mv (.bool _) rfl) ?_
        refine t_yes rfl rfl rfl ?_
        refine t_q (q_mv (.bool _) rfl) ?_
        refine t_yes rfl rfl rfl ?_
        refine t_q (q_mv (.bool _) rfl) ?_
        refine t_yes rfl rfl rfl ?_
        refine t_q (q_cast (v' := .bool false) (q_neq_bool Try.runUnderlying4 rfl rfl) (by simp)) ?_
        refine t_q (q_pick_f rfl rfl) ?_
        refine t_q (q_mv (.bool _) rfl) ?_
        refine t_yes rfl rfl rfl ?_
        refine t_q (q_mv (.bool _) rfl) ?_
        refine t_yes rfl rfl rfl ?_
        refine t_q (q_mv (.bool _) rfl) ?_
        refine t_yes rfl rfl rfl ?_
        refine t_q (q_cast (v' := .bool false) (q_neq_bool Try.runUnderlying4 rfl rfl) (by simp)) ?_
        refine t_q (q_pick_f rfl rfl) ?_
        refine t_q (q_mv (.bool _) rfl) ?_
        refine t_yes rfl rfl rfl ?_
        refine t_q (q_mv (.slice _ _ _) rfl) ?_
        refine t_yes rfl rfl rfl ?_
        refine t_q (q_mv (.slice _ _ _) rfl) ?_
        refine t_yes rfl rfl rfl ?_
        refine t_call Try.call101 (same_self_calls (rowRdE (A := A33) (c := c33) (l := lookL T (i : Int) (lastT T (i : Int))) hS (by repeat first | exact .here _ _ | assumption | apply Pick.there) rfl) (lookL_rd (sl := sl) hS (by repeat first | exact .here _ _ | assumption | apply Pick.there) hA41) hli.1 hli.2) rfl ?_
        rintro e w ⟨rfl, hT⟩
        refine ⟨_, rfl, ?_⟩
        replace hS := hS.after hT
        refine t_yes rfl rfl rfl ?_
        refine t_q (q_cast (v' := .bool false) (q_not rfl) (by rfl)) ?_
        refine t_q (q_pick_f rfl rfl) ?_
        refine t_nil ?_
        refine c_cond_f rfl rfl ?_
        refine c_skip ?_
        refine c_region ?_
        refine t_q (q_add_u64 rfl rfl (by omega)) ?_
        refine t_q (q_mv (.int _ _) rfl) ?_
        refine t_nil ?_
        replace hS := (hS.pick (A := rowA 130 12 A33 _ c33 _) (by repeat first | exact .here _ _ | assumption | apply Pick.there)).drop
        exact ⟨k - 1, by omega, i + 1, rfl, by omega, by omega, (((hS.pick (A := tabA g T) (by repeat first | exact .here _ _ | assumption | apply Pick.there)).pick (A := rdsA _) (by repeat first | exact .here _ _ | assumption | apply Pick.there)).pick (A := blkA g2 168 _) (by repeat first | exact .here _ _ | assumption | apply Pick.there))⟩
      · intro hc6
        have hc6d := of_decide_eq_false hc6
        have hl6 : (0 : Int) = (lastT T (i : Int)) := by unfold lastT; rw [if_neg (by omega)]
        refine c_skip ?_
        refine c_seq ?_
        refine c_region ?_
        refine t_q (q_mv (.pointer _) rfl) ?_
        refine t_q (q_mv (.int _ _) rfl) ?_
        refine t_q (q_cast (v' := .int .u64 (lastT T (i : Int))) (q_mv (.int _ _) rfl) (congrArg (Value.int .u64) hl6)) ?_
        refine t_call Try.call53 (look_calls hS (by repeat first | exact .here _ _ | assumption | apply Pick.there) hT hlr.1) rfl ?_
        rintro e w ⟨A33, n33, c33, rfl, hn33, hS⟩
        refine ⟨_, rfl, ?_⟩
        subst hn33
        refine t_q (q_mv (.tuple _) rfl) ?_
        refine t_q (q_extract rfl rfl) ?_
        refine t_q (q_extract rfl rfl) ?_
        refine t_q (q_extract rfl rfl) ?_
        refine t_q (q_as (.bool _) rfl) ?_
        refine t_q (q_as (.bool _) rfl) ?_
        refine t_q (q_as (.slice _ _ _) rfl) ?_
        refine t_nil ?_
        refine c_seq ?_
        refine c_region ?_
        refine t_q (q_mv (.pointer _) rfl) ?_
        refine t_q (q_mv (.int _ _) rfl) ?_
        refine t_q (q_cast (v' := .int .u64 (lastT T (i : Int))) (q_mv (.int _ _) rfl) (congrArg (Value.int .u64) hl6)) ?_
        refine t_call Try.call179 (qlook_calls (sl := sl) hS (by repeat first | exact .here _ _ | assumption | apply Pick.there) hlr.1) rfl ?_
        rintro e w ⟨A41, n41, c41, rfl, hn41, hA41, hS⟩
        refine ⟨_, rfl, ?_⟩
        subst hn41
        refine t_q (q_mv (.tuple _) rfl) ?_
        refine t_q (q_extract rfl rfl) ?_
        refine t_q (q_extract rfl rfl) ?_
        refine t_q (q_extract rfl rfl) ?_
        refine t_q (q_as (.bool _) rfl) ?_
        refine t_q (q_as (.bool _) rfl) ?_
        refine t_q (q_as (.slice _ _ _) rfl) ?_
        refine t_nil ?_
        refine c_seq ?_
        refine c_region ?_
        refine t_q (q_mv (.pointer _) rfl) ?_
        refine t_q (q_mv (.int _ _) rfl) ?_
        refine t_call Try.call55 (last_calls hS (by repeat first | exact .here _ _ | assumption | apply Pick.there) hT) rfl ?_
        rintro e w ⟨rfl, hS⟩
        refine ⟨_, rfl, ?_⟩
        refine t_q (q_cast (v' := .int .u64 (lastT T (i : Int))) (q_mv (.int _ _) rfl) (congrArg (Value.int .u64) hl6)) ?_
        refine t_q (q_cast (v' := .bool false) (q_neq rfl rfl) (by simp)) ?_
        refine t_q (q_mv (.bool _) rfl) ?_
        refine t_yes rfl rfl rfl ?_
        refine t_q (q_mv (.bool _) rfl) ?_
        refine t_yes rfl rfl rfl ?_
        refine t_q (q_mv (.bool _) rfl) ?_
        refine t_yes rfl rfl rfl ?_
        refine t_q (q_cast (v' := .bool false) (q_neq_bool Try.runUnderlying4 rfl rfl) (by simp)) ?_
        refine t_q (q_pick_f rfl rfl) ?_
        refine t_q (q_mv (.bool _) rfl) ?_
        refine t_yes rfl rfl rfl ?_
        refine t_q (q_mv (.bool _) rfl) ?_
        refine t_yes rfl rfl rfl ?_
        refine t_q (q_mv (.bool _) rfl) ?_
        refine t_yes rfl rfl rfl ?_
        refine t_q (q_cast (v' := .bool false) (q_neq_bool Try.runUnderlying4 rfl rfl) (by simp)) ?_
        refine t_q (q_pick_f rfl rfl) ?_
        refine t_q (q_mv (.bool _) rfl) ?_
        refine t_yes rfl rfl rfl ?_
        refine t_q (q_mv (.slice _ _ _) rfl) ?_
        refine t_yes rfl rfl rfl ?_
        refine t_q (q_mv (.slice _ _ _) rfl) ?_
        refine t_yes rfl rfl rfl ?_
        refine t_call Try.call101 (same_self_calls (rowRdE (A := A33) (c := c33) (l := lookL T (i : Int) (lastT T (i : Int))) hS (by repeat first | exact .here _ _ | assumption | apply Pick.there) rfl) (lookL_rd (sl := sl) hS (by repeat first | exact .here _ _ | assumption | apply Pick.there) hA41) hli.1 hli.2) rfl ?_
        rintro e w ⟨rfl, hT⟩
        refine ⟨_, rfl, ?_⟩
        replace hS := hS.after hT
        refine t_yes rfl rfl rfl ?_
        refine t_q (q_cast (v' := .bool false) (q_not rfl) (by rfl)) ?_
        refine t_q (q_pick_f rfl rfl) ?_
        refine t_nil ?_
        refine c_cond_f rfl rfl ?_
        refine c_skip ?_
        refine c_region ?_
        refine t_q (q_add_u64 rfl rfl (by omega)) ?_
        refine t_q (q_mv (.int _ _) rfl) ?_
        refine t_nil ?_
        replace hS := (hS.pick (A := rowA 130 12 A33 _ c33 _) (by repeat first | exact .here _ _ | assumption | apply Pick.there)).drop
        exact ⟨k - 1, by omega, i + 1, rfl, by omega, by omega, (((hS.pick (A := tabA g T) (by repeat first | exact .here _ _ | assumption | apply Pick.there)).pick (A := rdsA _) (by repeat first | exact .here _ _ | assumption | apply Pick.there)).pick (A := blkA g2 168 _) (by repeat first | exact .here _ _ | assumption | apply Pick.there))⟩
    · intro hg4
      have hg4d := of_decide_eq_false hg4
      refine t_no rfl rfl (by rw [hg4]; decide) ?_
      refine t_no rfl rfl (by rw [hg4]; decide) ?_
      refine t_q (q_pick_f rfl hg4) ?_
      refine t_nil ?_
      refine c_cond_f rfl rfl ?_
      have hl6 : (0 : Int) = (lastT T (i : Int)) := by unfold lastT; rw [if_neg (by omega)]
      refine c_skip ?_
      refine c_seq ?_
      refine c_region ?_
      refine t_q (q_mv (.pointer _) rfl) ?_
      refine t_q (q_mv (.int _ _) rfl) ?_
      refine t_q (q_cast (v' := .int .u64 (lastT T (i : Int))) (q_mv (.int _ _) rfl) (congrArg (Value.int .u64) hl6)) ?_
      refine t_call Try.call53 (look_calls hS (by repeat first | exact .here _ _ | assumption | apply Pick.there) hT hlr.1) rfl ?_
      rintro e w ⟨A33, n33, c33, rfl, hn33, hS⟩
      refine ⟨_, rfl, ?_⟩
      subst hn33
      refine t_q (q_mv (.tuple _) rfl) ?_
      refine t_q (q_extract rfl rfl) ?_
      refine t_q (q_extract rfl rfl) ?_
      refine t_q (q_extract rfl rfl) ?_
      refine t_q (q_as (.bool _) rfl) ?_
      refine t_q (q_as (.bool _) rfl) ?_
      refine t_q (q_as (.slice _ _ _) rfl) ?_
      refine t_nil ?_
      refine c_seq ?_
      refine c_region ?_
      refine t_q (q_mv (.pointer _) rfl) ?_
      refine t_q (q_mv (.int _ _) rfl) ?_
      refine t_q (q_cast (v' := .int .u64 (lastT T (i : Int))) (q_mv (.int _ _) rfl) (congrArg (Value.int .u64) hl6)) ?_
      refine t_call Try.call179 (qlook_calls (sl := sl) hS (by repeat first | exact .here _ _ | assumption | apply Pick.there) hlr.1) rfl ?_
      rintro e w ⟨A41, n41, c41, rfl, hn41, hA41, hS⟩
      refine ⟨_, rfl, ?_⟩
      subst hn41
      refine t_q (q_mv (.tuple _) rfl) ?_
      refine t_q (q_extract rfl rfl) ?_
      refine t_q (q_extract rfl rfl) ?_
      refine t_q (q_extract rfl rfl) ?_
      refine t_q (q_as (.bool _) rfl) ?_
      refine t_q (q_as (.bool _) rfl) ?_
      refine t_q (q_as (.slice _ _ _) rfl) ?_
      refine t_nil ?_
      refine c_seq ?_
      refine c_region ?_
      refine t_q (q_mv (.pointer _) rfl) ?_
      refine t_q (q_mv (.int _ _) rfl) ?_
      refine t_call Try.call55 (last_calls hS (by repeat first | exact .here _ _ | assumption | apply Pick.there) hT) rfl ?_
      rintro e w ⟨rfl, hS⟩
      refine ⟨_, rfl, ?_⟩
      refine t_q (q_cast (v' := .int .u64 (lastT T (i : Int))) (q_mv (.int _ _) rfl) (congrArg (Value.int .u64) hl6)) ?_
      refine t_q (q_cast (v' := .bool false) (q_neq rfl rfl) (by simp)) ?_
      refine t_q (q_mv (.bool _) rfl) ?_
      refine t_yes rfl rfl rfl ?_
      refine t_q (q_mv (.bool _) rfl) ?_
      refine t_yes rfl rfl rfl ?_
      refine t_q (q_mv (.bool _) rfl) ?_
      refine t_yes rfl rfl rfl ?_
      refine t_q (q_cast (v' := .bool false) (q_neq_bool Try.runUnderlying4 rfl rfl) (by simp)) ?_
      refine t_q (q_pick_f rfl rfl) ?_
      refine t_q (q_mv (.bool _) rfl) ?_
      refine t_yes rfl rfl rfl ?_
      refine t_q (q_mv (.bool _) rfl) ?_
      refine t_yes rfl rfl rfl ?_
      refine t_q (q_mv (.bool _) rfl) ?_
      refine t_yes rfl rfl rfl ?_
      refine t_q (q_cast (v' := .bool false) (q_neq_bool Try.runUnderlying4 rfl rfl) (by simp)) ?_
      refine t_q (q_pick_f rfl rfl) ?_
      refine t_q (q_mv (.bool _) rfl) ?_
      refine t_yes rfl rfl rfl ?_
      refine t_q (q_mv (.slice _ _ _) rfl) ?_
      refine t_yes rfl rfl rfl ?_
      refine t_q (q_mv (.slice _ _ _) rfl) ?_
      refine t_yes rfl rfl rfl ?_
      refine t_call Try.call101 (same_self_calls (rowRdE (A := A33) (c := c33) (l := lookL T (i : Int) (lastT T (i : Int))) hS (by repeat first | exact .here _ _ | assumption | apply Pick.there) rfl) (lookL_rd (sl := sl) hS (by repeat first | exact .here _ _ | assumption | apply Pick.there) hA41) hli.1 hli.2) rfl ?_
      rintro e w ⟨rfl, hT⟩
      refine ⟨_, rfl, ?_⟩
      replace hS := hS.after hT
      refine t_yes rfl rfl rfl ?_
      refine t_q (q_cast (v' := .bool false) (q_not rfl) (by rfl)) ?_
      refine t_q (q_pick_f rfl rfl) ?_
      refine t_nil ?_
      refine c_cond_f rfl rfl ?_
      refine c_skip ?_
      refine c_region ?_
      refine t_q (q_add_u64 rfl rfl (by omega)) ?_
      refine t_q (q_mv (.int _ _) rfl) ?_
      refine t_nil ?_
      replace hS := (hS.pick (A := rowA 130 12 A33 _ c33 _) (by repeat first | exact .here _ _ | assumption | apply Pick.there)).drop
      exact ⟨k - 1, by omega, i + 1, rfl, by omega, by omega, (((hS.pick (A := tabA g T) (by repeat first | exact .here _ _ | assumption | apply Pick.there)).pick (A := rdsA _) (by repeat first | exact .here _ _ | assumption | apply Pick.there)).pick (A := blkA g2 168 _) (by repeat first | exact .here _ _ | assumption | apply Pick.there))⟩
  · intro hc2
    have hc2d := of_decide_eq_false hc2
    refine c_exit ?_
    refine ite_t rfl ?_
    refine c_seq ?_
    refine c_region ?_
    refine t_q (q_assign) ?_
    refine t_nil ?_
    refine c_ret ?_
    refine r_one rfl rfl ?_
    exact ⟨rfl, ((((hS.pick (A := tabA g T) (by repeat first | exact .here _ _ | assumption | apply Pick.there)).pick (A := rdsA _) (by repeat first | exact .here _ _ | assumption | apply Pick.there)).pick (A := blkA g2 168 _) (by repeat first | exact .here _ _ | assumption | apply Pick.there))).unref.pick (A := tabA g T) (by repeat first | exact .here _ _ | assumption | apply Pick.there)⟩
set_option maxRecDepth 100000 in
theorem slives_calls : Calls Try.prog 57 #[] W fun e w' => e = .returned (.bool true) ∧ St W w' [] := by
  have hS := St.init W
  obtain ⟨hd1, hd2⟩ := done_T1
  refine calls_of_wpE (args := []) Try.func57 rfl rfl rfl ?_
  refine c_seq ?_
  refine c_region ?_
  refine t_q (q_assign) ?_
  refine t_nil ?_
  refine c_seq ?_
  refine c_region ?_
  refine t_call Try.call120 (snew_calls hS) rfl ?_
  rintro e w ⟨gt, rfl, hS⟩
  refine ⟨_, rfl, ?_⟩
  refine t_q (q_as (.pointer _) rfl) ?_
  refine t_nil ?_
  refine c_seq ?_
  refine c_region ?_
  refine t_q (q_mv (.pointer _) rfl) ?_
  refine t_q (q_build (qs := [(0, 1), (1, 1), (2, 1), (3, 1), (4, 1), (5, 1), (6, 1), (7, 1), (8, 1), (9, 1), (10, 1), (11, 1)]) [(.int _ _), (.int _ _), (.int _ _), (.int _ _), (.int _ _), (.int _ _), (.int _ _), (.int _ _), (.int _ _), (.int _ _), (.int _ _), (.int _ _)] Try.zeroValue130 Try.runUnderlying130 ⟨rfl, Try.sizeOf3, rfl, Try.sizeOf3, rfl, Try.sizeOf24, rfl, Try.sizeOf24, rfl, Try.sizeOf3, rfl, Try.sizeOf2, rfl, Try.sizeOf2, rfl, Try.sizeOf2, rfl, Try.sizeOf2, rfl, Try.sizeOf28, rfl, Try.sizeOf3, rfl, Try.sizeOf24, trivial⟩ rfl rfl) ?_
  refine t_buildSlice Try.runUnderlying70 Try.sizeOf130 Try.zeroValue130 rfl rfl (by intro v hv; simp at hv; try (first | (subst hv; rfl) | (rcases hv with rfl | rfl <;> rfl))) (by decide) (by decide) hS (fun g15 w hS => ?_)
  replace hS := hS.recast (show rowA 130 12 _ 1 1 _ = rowA 130 12 (some ⟨g15, 0, none⟩) ([ev2] : List Ev).length 1 (([ev2] : List Ev).flatMap Ev.cells) from rfl)
  refine t_call Try.call54 (done_calls (l := [ev2]) hS (by repeat first | exact .here _ _ | assumption | apply Pick.there) TGood.zero (by decide) (fun _ h => rowRdE (A := some ⟨g15, 0, none⟩) (c := 1) (l := [ev2]) h (by repeat first | exact .here _ _ | assumption | apply Pick.there) rfl) (by simp)) rfl ?_
  rintro e w ⟨rfl, hS⟩
  refine ⟨_, rfl, ?_⟩
  rw [hd2] at hS
  refine t_q (q_as (.int _ _) rfl) ?_
  refine t_nil ?_
  refine c_seq ?_
  refine c_region ?_
  refine t_q (q_mv (.pointer _) rfl) ?_
  refine t_call Try.call53 (look_calls (T := T1) hS (by repeat first | exact .here _ _ | assumption | apply Pick.there) T1_good (by decide)) rfl ?_
  rintro e w ⟨A19, n19, c19, rfl, hn19, hS⟩
  refine ⟨_, rfl, ?_⟩
  refine t_q (q_mv (.tuple _) rfl) ?_
  refine t_q (q_extract rfl rfl) ?_
  refine t_q (q_extract rfl rfl) ?_
  refine t_q (q_extract rfl rfl) ?_
  refine t_q (q_as (.bool _) rfl) ?_
  refine t_q (q_as (.bool _) rfl) ?_
  refine t_q (q_as (.slice _ _ _) rfl) ?_
  refine t_nil ?_
  refine c_seq ?_
  refine c_region ?_
  refine t_q (q_mv (.pointer _) rfl) ?_
  refine t_call Try.call53 (look_calls (T := T1) hS (by repeat first | exact .here _ _ | assumption | apply Pick.there) T1_good (by decide)) rfl ?_
  rintro e w ⟨A25, n25, c25, rfl, hn25, hS⟩
  refine ⟨_, rfl, ?_⟩
  refine t_q (q_mv (.tuple _) rfl) ?_
  refine t_q (q_extract rfl rfl) ?_
  refine t_q (q_extract rfl rfl) ?_
  refine t_q (q_extract rfl rfl) ?_
  refine t_q (q_as (.bool _) rfl) ?_
  refine t_q (q_as (.bool _) rfl) ?_
  refine t_q (q_as (.slice _ _ _) rfl) ?_
  refine t_nil ?_
  refine c_seq ?_
  refine c_region ?_
  refine t_q (q_mv (.pointer _) rfl) ?_
  refine t_call Try.call53 (look_calls (T := T1) hS (by repeat first | exact .here _ _ | assumption | apply Pick.there) T1_good (by decide)) rfl ?_
  rintro e w ⟨A31, n31, c31, rfl, hn31, hS⟩
  refine ⟨_, rfl, ?_⟩
  refine t_q (q_mv (.tuple _) rfl) ?_
  refine t_q (q_extract rfl rfl) ?_
  refine t_q (q_extract rfl rfl) ?_
  refine t_q (q_extract rfl rfl) ?_
  refine t_q (q_as (.bool _) rfl) ?_
  refine t_q (q_as (.bool _) rfl) ?_
  refine t_q (q_as (.slice _ _ _) rfl) ?_
  refine t_nil ?_
  refine c_seq ?_
  refine c_region ?_
  refine t_q (q_mv (.int _ _) rfl) ?_
  refine t_q (q_cast (v' := .bool true) (q_eql rfl rfl) (by rw [hd1]; rfl)) ?_
  refine t_q (q_mv (.bool _) rfl) ?_
  refine t_yes rfl rfl rfl ?_
  refine t_q (q_cast (v' := .bool true) (q_mv (.bool _) rfl) (by rfl)) ?_
  refine t_q (q_pick_t rfl rfl) ?_
  refine t_q (q_mv (.bool _) rfl) ?_
  refine t_yes rfl rfl rfl ?_
  refine t_q (q_mv (.bool _) rfl) ?_
  refine t_yes rfl rfl rfl ?_
  refine t_q (q_cast (v' := .bool true) (q_not rfl) (by rfl)) ?_
  refine t_q (q_pick_t rfl rfl) ?_
  refine t_q (q_mv (.bool _) rfl) ?_
  refine t_yes rfl rfl rfl ?_
  refine t_q (q_mv (.slice _ _ _) rfl) ?_
  refine t_yes rfl rfl rfl ?_
  refine t_q (q_len_slice Try.runUnderlying70 rfl) ?_
  refine t_yes rfl rfl rfl ?_
  refine t_q (q_cast (v' := .bool true) (q_eql rfl rfl) (by rw [hn19]; rfl)) ?_
  refine t_q (q_pick_t rfl rfl) ?_
  refine t_q (q_mv (.bool _) rfl) ?_
  refine t_yes rfl rfl rfl ?_
  refine t_q (q_mv (.bool _) rfl) ?_
  refine t_yes rfl rfl rfl ?_
  refine t_q (q_cast (v' := .bool true) (q_not rfl) (by rfl)) ?_
  refine t_q (q_pick_t rfl rfl) ?_
  refine t_q (q_mv (.bool _) rfl) ?_
  refine t_yes rfl rfl rfl ?_
  refine t_q (q_cast (v' := .bool true) (q_mv (.bool _) rfl) (by rfl)) ?_
  refine t_q (q_pick_t rfl rfl) ?_
  refine t_q (q_mv (.bool _) rfl) ?_
  refine t_yes rfl rfl rfl ?_
  refine t_q (q_mv (.bool _) rfl) ?_
  refine t_yes rfl rfl rfl ?_
  refine t_q (q_cast (v' := .bool true) (q_not rfl) (by rfl)) ?_
  refine t_q (q_pick_t rfl rfl) ?_
  refine t_q (q_mv (.bool _) rfl) ?_
  refine t_yes rfl rfl rfl ?_
  refine t_q (q_mv (.bool _) rfl) ?_
  refine t_yes rfl rfl rfl ?_
  refine t_q (q_cast (v' := .bool true) (q_not rfl) (by rfl)) ?_
  refine t_q (q_pick_t rfl rfl) ?_
  refine t_q (q_as (.bool _) rfl) ?_
  refine t_nil ?_
  refine c_ret ?_
  refine r_one rfl rfl ?_
  exact ⟨rfl, hS.nil⟩
end Go.Proofs.Ytcikoealneldkaa
