/- The chapter's example of events; what was written is read as it was. -/
import Derived.Test.YtcikoealneldkaaEx
import Derived.Test.YtcikoealneldkaaEy
import Derived.Test.YtcikoealneldkaaCl
namespace Go.Proofs.Ytcikoealneldkaa
open Go Go.RowKit Go.Lib
variable {W : World}
theorem eback_calls {w : World} {L R : List Asn} {g : Nat} {l : List Ev} {rest : List UInt8} (hS : St W w L) (pk : Pick L (rdrA W 106 g ⟨evsB l ++ rest, false⟩) R) (hl : l.length ≤ 256) (hi : ∀ e ∈ l, e.In) (hk : ∀ e ∈ l, 1 ≤ e.kind ∧ e.kind ≤ 15) :
  Calls Try.prog 100 #[.pointer (some ⟨g, 0, none⟩)] w fun e w' => ∃ A' c', e = .returned (.tuple #[.slice A' l.length c', .bool true]) ∧ St W w' (rdrA W 106 g ⟨rest, false⟩ :: rowA 130 12 A' l.length c' ((l).flatMap Ev.cells) :: R) := by
  have h := eread_calls hS pk (fun hb => by cases hb)
  obtain ⟨e1, e2, e3⟩ := ev_back hl hi hk rest
  rw [e1, e2, e3] at h
  refine h.mono fun e w' hh => ?_
  obtain ⟨A', m, c', rfl, rfl, hT⟩ := hh
  exact ⟨A', c', rfl, hT⟩
theorem same_self_calls {A B : Option Addr} {c d : Nat} {a : List Ev} (ha : RdEv W A a) (hb : RdEv W B a) (hai : ∀ e ∈ a, e.In) (hal : a.length ≤ 1000000) : Calls Try.prog 101 #[.slice A a.length c, .slice B a.length d] W fun e w' => e = .returned (.bool true) ∧ St W w' [] := by
  have h := same_calls (c := c) (d := d) ha hb hai hai hal hal
  rw [same_self] at h
  exact h
theorem esame_self_calls {A B : Option Addr} {c d : Nat} {a : List Ev} (ha : RdEv W A a) (hb : RdEv W B a) (hai : ∀ e ∈ a, e.In) (hal : a.length ≤ 1000000) : Calls Try.prog 104 #[.slice A a.length c, .slice B a.length d] W fun e w' => e = .returned (.bool true) ∧ St W w' [] := by
  have h := esame_calls (c := c) (d := d) ha hb hai hai hal hal
  rw [same_self] at h
  exact h
def ev1 : Ev := ⟨1, 0, 0, 0, 0, 0, 0, 0, 0, 5, 0, 0⟩
theorem ev1_in : ev1.In := by unfold Ev.In ev1; decide
theorem ev1_all : ∀ e ∈ [ev1], e.In := fun e he => by rw [List.mem_singleton.1 he]; exact ev1_in
theorem evE_1 : evE [ev1] = 0 := rfl
theorem evBL_1 : evBL [ev1] = evsB [ev1] := rfl
theorem evBL_1len : (evBL [ev1]).length ≤ 130000000 := by
  rw [evBL_1, ← evP_all]
  exact evP_len ev1_all (by simp) _
theorem evBL_0 : evBL [] = [0] := by
  show evsB [] = [0]
  unfold evsB
  rw [List.length_nil, enc_small (by decide)]
  rfl
theorem evE_of {l : List Ev} (h : l.length ≤ 256) (hk : ∀ e ∈ l, 1 ≤ e.kind ∧ e.kind ≤ 15) : evE l = 0 := by
  refine (evE_ok (by omega) ?_).1
  unfold badL
  rw [List.any_eq_false]
  intro e he
  have := hk e he
  simp [kindB, this.1, this.2]
theorem evBL_of {l : List Ev} (h : evE l = 0) : evBL l = evsB l := by unfold evBL; rw [if_pos h]

set_option maxRecDepth 100000 in
theorem elives_calls : Calls Try.prog 95 #[] W fun e w' => e = .returned (.bool true) ∧ St W w' [] := by
  have hS := St.init W
  refine calls_of_wpE (args := []) Try.func95 rfl rfl rfl ?_
  refine c_seq ?_
  refine c_region ?_
  refine t_q (q_assign) ?_
  refine t_nil ?_
  refine c_seq ?_
  refine c_region ?_
  refine t_call Try.call96 (ebytes_calls (A := none) (c := 0) (l := []) (Rd.none_ _ _ _ _) (fun _ h => by cases h) (by simp)) rfl ?_
  rintro e w ⟨A8, m8, c8, rfl, hm8, hT⟩
  refine ⟨_, rfl, ?_⟩
  have hS : St W w (_ :: _) := hS.lift hT
  subst hm8
  refine t_q (q_mv (.tuple _) rfl) ?_
  refine t_q (q_extract rfl rfl) ?_
  refine t_q (q_extract rfl rfl) ?_
  refine t_q (q_as (.slice _ _ _) rfl) ?_
  refine t_q (q_as (.int _ _) rfl) ?_
  refine t_nil ?_
  refine c_seq ?_
  refine c_region ?_
  refine t_q (q_build (qs := [(0, 1), (1, 1), (2, 1), (3, 1), (4, 1), (5, 1), (6, 1), (7, 1), (8, 1), (9, 1), (10, 1), (11, 1)]) [(.int _ _), (.int _ _), (.int _ _), (.int _ _), (.int _ _), (.int _ _), (.int _ _), (.int _ _), (.int _ _), (.int _ _), (.int _ _), (.int _ _)] Try.zeroValue130 Try.runUnderlying130 ⟨rfl, Try.sizeOf3, rfl, Try.sizeOf3, rfl, Try.sizeOf24, rfl, Try.sizeOf24, rfl, Try.sizeOf3, rfl, Try.sizeOf2, rfl, Try.sizeOf2, rfl, Try.sizeOf2, rfl, Try.sizeOf2, rfl, Try.sizeOf28, rfl, Try.sizeOf3, rfl, Try.sizeOf24, trivial⟩ rfl rfl) ?_
  refine t_buildSlice Try.runUnderlying70 Try.sizeOf130 Try.zeroValue130 rfl rfl (by intro v hv; simp at hv; try (first | (subst hv; rfl) | (rcases hv with rfl | rfl <;> rfl))) (by decide) (by decide) hS (fun g13 w hS => ?_)
  replace hS := hS.recast (show _ = rowA 130 12 (some ⟨g13, 0, none⟩) 1 1 (([ev1] : List Ev).flatMap Ev.cells) from rfl)
  refine t_call Try.call96 (ebytes_calls (l := [ev1]) (rowRdE hS (.here _ _) rfl) ev1_all (by simp)) rfl ?_
  rintro e w ⟨A14, m14, c14, rfl, hm14, hT⟩
  refine ⟨_, rfl, ?_⟩
  have hS : St W w (_ :: _) := hS.lift hT
  subst hm14
  refine t_q (q_mv (.tuple _) rfl) ?_
  refine t_q (q_extract rfl rfl) ?_
  refine t_q (q_extract rfl rfl) ?_
  refine t_q (q_as (.slice _ _ _) rfl) ?_
  refine t_q (q_as (.int _ _) rfl) ?_
  refine t_nil ?_
  refine c_seq ?_
  refine c_region ?_
  refine t_q (q_mv (.slice _ _ _) rfl) ?_
  have hcap := hS.row_le (.here _ _)
  have hS0 := hS
  obtain ⟨w1, hw1⟩ : ∃ x, x = w := ⟨_, rfl⟩
  subst hw1
  have hb1 := hS.rowRd (bs := evBL [ev1]) (.here _ _) rfl
  replace hS := St.init w1
  refine t_call Try.call58 (Open_calls (bs := evBL [ev1]) hS hb1 ⟨hcap, Nat.le_trans evBL_1len (by decide)⟩) rfl ?_
  rintro e w ⟨gR, rfl, hS⟩
  refine ⟨_, rfl, ?_⟩
  replace hS := hS.recast (congrArg (fun b => rdrA w1 106 gR ⟨b, false⟩) (show evBL [ev1] = evsB [ev1] ++ [] from by rw [List.append_nil, evBL_1]))
  refine t_call Try.call100 (eback_calls hS (.here _ _) (by decide) ev1_all (fun e he => by rw [List.mem_singleton.1 he]; decide)) rfl ?_
  rintro e w ⟨A20, c20, rfl, hS⟩
  refine ⟨_, rfl, ?_⟩
  replace hS := hS0.lift hS
  refine t_q (q_mv (.tuple _) rfl) ?_
  refine t_q (q_extract rfl rfl) ?_
  refine t_q (q_extract rfl rfl) ?_
  refine t_q (q_as (.slice _ _ _) rfl) ?_
  refine t_q (q_as (.bool _) rfl) ?_
  refine t_nil ?_
  refine c_seq ?_
  refine c_region ?_
  refine t_q (q_mv (.int _ _) rfl) ?_
  refine t_q (q_cast (v' := .bool true) (q_eql rfl rfl) (by rfl)) ?_
  refine t_q (q_mv (.bool _) rfl) ?_
  refine t_yes rfl rfl rfl ?_
  refine t_q (q_mv (.slice _ _ _) rfl) ?_
  refine t_yes rfl rfl rfl ?_
  refine t_q (q_string Try.runUnderlying48 Try.runUnderlying5 Try.runUnderlying9 rfl rfl (hS.rowRd (A := A8) (c := c8) (bs := evBL []) (by repeat first | exact .here _ _ | assumption | apply Pick.there) rfl)) ?_
  refine t_yes rfl rfl rfl ?_
  refine t_q (q_cast (v' := .bool true) (q_eql_string rfl rfl) (by rw [evBL_0]; rfl)) ?_
  refine t_q (q_pick_t rfl rfl) ?_
  refine t_q (q_mv (.bool _) rfl) ?_
  refine t_yes rfl rfl rfl ?_
  refine t_q (q_mv (.int _ _) rfl) ?_
  refine t_yes rfl rfl rfl ?_
  refine t_q (q_cast (v' := .bool true) (q_eql rfl rfl) (by rfl)) ?_
  refine t_q (q_pick_t rfl rfl) ?_
  refine t_q (q_mv (.bool _) rfl) ?_
  refine t_yes rfl rfl rfl ?_
  refine t_q (q_mv (.bool _) rfl) ?_
  refine t_q (q_pick_t rfl rfl) ?_
  refine t_q (q_mv (.bool _) rfl) ?_
  refine t_yes rfl rfl rfl ?_
  refine t_q (q_mv (.slice _ _ _) rfl) ?_
  refine t_yes rfl rfl rfl ?_
  refine t_q (q_len_slice Try.runUnderlying70 rfl) ?_
  refine t_yes rfl rfl rfl ?_
  refine t_q (q_cast (v' := .bool true) (q_eql rfl rfl) (by rfl)) ?_
  refine t_q (q_pick_t rfl rfl) ?_
  refine t_q (q_mv (.bool _) rfl) ?_
  refine t_yes rfl rfl rfl ?_
  refine t_q (q_mv (.slice _ _ _) rfl) ?_
  refine t_yes rfl rfl rfl ?_
  first | refine t_index_nat Try.runUnderlying70 Try.sizeOf130 (rowRdE (A := A20) (c := c20) (l := [ev1]) hS (by repeat first | exact .here _ _ | assumption | apply Pick.there) rfl) rfl rfl (by simp) (fun ad15 hl15 hx15 => ?_) | refine t_index Try.runUnderlying70 Try.sizeOf130 (rowRdE (A := A20) (c := c20) (l := [ev1]) hS (by repeat first | exact .here _ _ | assumption | apply Pick.there) rfl) rfl rfl (by simp) (fun ad15 hl15 hx15 => ?_)
  refine t_yes rfl rfl rfl ?_
  refine t_q (q_loadN Try.isAgg130 Try.sizeOf130 rfl hl15 hx15) ?_
  refine t_yes rfl rfl rfl ?_
  refine t_q (q_build (qs := [(0, 1), (1, 1), (2, 1), (3, 1), (4, 1), (5, 1), (6, 1), (7, 1), (8, 1), (9, 1), (10, 1), (11, 1)]) [(.int _ _), (.int _ _), (.int _ _), (.int _ _), (.int _ _), (.int _ _), (.int _ _), (.int _ _), (.int _ _), (.int _ _), (.int _ _), (.int _ _)] Try.zeroValue130 Try.runUnderlying130 ⟨rfl, Try.sizeOf3, rfl, Try.sizeOf3, rfl, Try.sizeOf24, rfl, Try.sizeOf24, rfl, Try.sizeOf3, rfl, Try.sizeOf2, rfl, Try.sizeOf2, rfl, Try.sizeOf2, rfl, Try.sizeOf2, rfl, Try.sizeOf28, rfl, Try.sizeOf3, rfl, Try.sizeOf24, trivial⟩ rfl rfl) ?_
  refine t_yes rfl rfl rfl ?_
  refine t_q (q_cast (v' := .bool true) (q_eql_ev (e := ev1) (q := ev1) rfl rfl ev1_in ev1_in) (by simp)) ?_
  refine t_q (q_pick_t rfl rfl) ?_
  refine t_q (q_mv (.bool _) rfl) ?_
  refine t_yes rfl rfl rfl ?_
  refine t_q (q_mv (.slice _ _ _) rfl) ?_
  refine t_yes rfl rfl rfl ?_
  first | refine t_index_nat Try.runUnderlying70 Try.sizeOf130 (rowRdE (A := A20) (c := c20) (l := [ev1]) hS (by repeat first | exact .here _ _ | assumption | apply Pick.there) rfl) rfl rfl (by simp) (fun ad16 hl16 hx16 => ?_) | refine t_index Try.runUnderlying70 Try.sizeOf130 (rowRdE (A := A20) (c := c20) (l := [ev1]) hS (by repeat first | exact .here _ _ | assumption | apply Pick.there) rfl) rfl rfl (by simp) (fun ad16 hl16 hx16 => ?_)
  refine t_yes rfl rfl rfl ?_
  refine t_q (q_loadN Try.isAgg130 Try.sizeOf130 rfl hl16 hx16) ?_
  refine t_yes rfl rfl rfl ?_
  refine t_call Try.call103 (trades_calls (x := ev1)) rfl ?_
  rintro e w ⟨rfl, hT⟩
  refine ⟨_, rfl, ?_⟩
  replace hS := hS.after hT
  refine t_q (q_pick_t rfl rfl) ?_
  refine t_q (q_mv (.bool _) rfl) ?_
  refine t_yes rfl rfl rfl ?_
  refine t_q (q_mv (.slice _ _ _) rfl) ?_
  refine t_yes rfl rfl rfl ?_
  refine t_call Try.call105 (count_calls (rowRdE (A := A20) (c := c20) (l := [ev1]) hS (by repeat first | exact .here _ _ | assumption | apply Pick.there) rfl) (by simp)) rfl ?_
  rintro e w ⟨rfl, hT⟩
  refine ⟨_, rfl, ?_⟩
  replace hS := hS.after hT
  refine t_yes rfl rfl rfl ?_
  refine t_q (q_cast (v' := .bool true) (q_eql rfl rfl) (by rfl)) ?_
  refine t_q (q_pick_t rfl rfl) ?_
  refine t_q (q_as (.bool _) rfl) ?_
  refine t_nil ?_
  refine c_ret ?_
  refine r_one rfl rfl ?_
  exact ⟨rfl, hS.nil⟩
end Go.Proofs.Ytcikoealneldkaa
