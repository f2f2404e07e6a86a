/- Any table has the document's bytes, and is read as it was: the walk. -/
import Derived.Test.YtcikoealneldkaaSg
import Derived.Test.YtcikoealneldkaaOp
import Derived.Test.YtcikoealneldkaaSr
namespace Go.Proofs.Ytcikoealneldkaa
open Go Go.RowKit Go.Lib
variable {W : World}
structure SesOp where
  kind : Int
  client : Int
  req : Int
  l : Sl Ev
instance : Inhabited SesOp := ⟨⟨0, 0, 0, default⟩⟩
def SesOp.cells (x : SesOp) : List Value := [.int .i64 x.kind, .int .u64 x.client, .int .u64 x.req, .slice x.l.A x.l.l.length x.l.c]
structure SesOp.Ok (w : World) (x : SesOp) : Prop where
  kind : -9223372036854775808 ≤ x.kind ∧ x.kind ≤ 9223372036854775807
  client : 0 ≤ x.client ∧ x.client < 18446744073709551616
  req : 0 ≤ x.req ∧ x.req < 18446744073709551616
  l : (Sl.Ok 12 Ev.cells (Ev.Ok w) w) x.l
set_option maxRecDepth 100000 in
theorem opn_SesOp {H : Type} {enc : TypeId × Value → H} {w : World} : Opn enc Try.prog w 170 SesOp.cells (SesOp.Ok w) := fun _ _ _ h => by
  obtain ⟨parts, rfl, hl, hf⟩ := opn_parts Try.underlying170 (by kernel_rfl) (by kernel_rfl) h
  match parts, hl with
  | [p0, p1, p2, p3], _ =>
    obtain ⟨f0, x0, h0⟩ := hf 0 _ rfl
    obtain ⟨a0, e0, k0⟩ := (opn_i64 Try.underlying3) _ _ _ h0
    replace e0 : p0 = _ := e0
    obtain ⟨f1, x1, h1⟩ := hf 1 _ rfl
    obtain ⟨a1, e1, k1⟩ := (opn_u64 Try.underlying24) _ _ _ h1
    replace e1 : p1 = _ := e1
    obtain ⟨f2, x2, h2⟩ := hf 2 _ rfl
    obtain ⟨a2, e2, k2⟩ := (opn_u64 Try.underlying24) _ _ _ h2
    replace e2 : p2 = _ := e2
    obtain ⟨f3, x3, h3⟩ := hf 3 _ rfl
    obtain ⟨a3, e3, k3⟩ := (opn_slice (β := Ev) (size := 12) Try.underlying70 (by kernel_rfl) (by decide) opn_Ev) _ _ _ h3
    replace e3 : p3 = _ := e3
    subst e0 e1 e2 e3
    exact ⟨⟨a0, a1, a2, a3⟩, by simp [SesOp.cells, Sl.cells], ⟨k0, k1, k2, k3⟩⟩
def k15 (e : Ev) : Ev := { e with kind := 15 }
def K15 (E : List Ev) (q : Nat) : List Ev := (E.take q).map k15 ++ E.drop q
theorem K15_len (E : List Ev) (q : Nat) : (K15 E q).length = E.length := by unfold K15; rw [List.length_append, List.length_map, List.length_take, List.length_drop]; omega
theorem K15_all (E : List Ev) : K15 E E.length = E.map k15 := by unfold K15; rw [List.take_length, List.drop_length, List.append_nil]
theorem ev_flat_len : ∀ l : List Ev, (l.flatMap Ev.cells).length = l.length * 12
  | [] => rfl
  | x :: l => by rw [List.flatMap_cons, List.length_append, ev_flat_len l, List.length_cons]; show 12 + _ = _; omega
theorem k15_step {E : List Ev} {q : Nat} (h : q < E.length) : setN ((K15 E q).flatMap Ev.cells) (0 + q * 12 + 0) [.int .i64 15] = (K15 E (q + 1)).flatMap Ev.cells := by
  have e1 : K15 E (q + 1) = (E.take q).map k15 ++ (k15 E[q] :: E.drop (q + 1)) := by
    unfold K15
    rw [List.take_succ_eq_append_getElem h, List.map_append, List.append_assoc]
    rfl
  have e2 : K15 E q = (E.take q).map k15 ++ (E[q] :: E.drop (q + 1)) := by
    unfold K15
    rw [List.drop_eq_getElem_cons h]
  have hl : (((E.take q).map k15).flatMap Ev.cells).length = q * 12 := by rw [ev_flat_len, List.length_map, List.length_take, Nat.min_eq_left (by omega)]
  rw [e1, e2, List.flatMap_append, List.flatMap_append]
  show List.set _ _ _ = _
  rw [List.set_append_right _ _ (by rw [hl]; omega), hl, show 0 + q * 12 + 0 - q * 12 = 0 by omega]
  rfl
theorem k15_in {e : Ev} (h : e.In) : (k15 e).In := by
  obtain ⟨_, h⟩ := h
  exact ⟨by show -9223372036854775808 ≤ (15 : Int) ∧ (15 : Int) ≤ 9223372036854775807; decide, h⟩
theorem k15_all {E : List Ev} (h : ∀ e ∈ E, e.In) : (∀ e ∈ E.map k15, e.In) ∧ ∀ e ∈ E.map k15, 1 ≤ e.kind ∧ e.kind ≤ 15 :=
  ⟨fun e he => by obtain ⟨x, hx, rfl⟩ := List.mem_map.1 he; exact k15_in (h x hx), fun e he => by obtain ⟨x, hx, rfl⟩ := List.mem_map.1 he; exact ⟨by show (1 : Int) ≤ 15; decide, by show (15 : Int) ≤ 15; decide⟩⟩
def Kd (T : Tb) : Prop := ∀ c, ∀ e ∈ (T c).2, 1 ≤ e.kind ∧ e.kind ≤ 15
theorem Kd.zero : Kd T0 := fun _ _ h => by cases h
theorem Kd.done {T : Tb} (h : Kd T) {c r : Int} {l : List Ev} (hl : ∀ e ∈ l, 1 ≤ e.kind ∧ e.kind ≤ 15) : Kd (doneT T c r l) := by
  unfold doneT
  split
  · intro x e he
    unfold updT at he
    split at he
    · exact hl e he
    · exact h x e he
  · exact h
def RdSes (w : World) (A : Option Addr) (l : List SesOp) : Prop := Rd w 4 A l.length (fun i => (l.getD i default).cells)
theorem RdSes.st {w : World} {Q : List Asn} {A : Option Addr} {l : List SesOp} (h : RdSes W A l) (hS : St W w Q) : RdSes w A l := Rd.st h hS
theorem ses_at {l : List SesOp} (h : ∀ e ∈ l, e.Ok W) {j : Nat} (hj : j < l.length) : (l.getD j default).Ok W := by
  rw [List.getD_eq_getElem?_getD, List.getElem?_eq_getElem hj]
  exact h _ (List.getElem_mem hj)
theorem sback_calls {w : World} {L R : List Asn} {g : Nat} {T : Tb} (hS : St W w L) (pk : Pick L (rdrA W 106 g ⟨sesB T ++ [], false⟩) R) (hT : TGood T) (hk : Kd T) :
  Calls Try.prog 116 #[.pointer (some ⟨g, 0, none⟩)] w fun e w' => ∃ gt, e = .returned (.tuple #[.pointer (some ⟨gt, 0, none⟩), .bool true]) ∧ St W w' (rdrA W 106 g ⟨[], false⟩ :: tabA gt T :: R) := by
  obtain ⟨e1, e2, e3⟩ := s_back hT hk []
  refine (sread_calls hS pk (fun hb => by cases hb)).mono fun e w' hh => ?_
  obtain ⟨p, rfl, ⟨h1, gt, rfl, hT⟩ | ⟨h1, _⟩⟩ := hh
  · rw [e2, e3] at hT
    rw [h1]
    exact ⟨gt, rfl, hT⟩
  · rw [e1] at h1; cases h1
attribute [local irreducible] blkA rowA rdrA mapA mapS rdsA tabA refA wrA sOk sT sS
set_option maxHeartbeats 1000000 in
set_option maxRecDepth 100000 in
theorem slight_calls {A : Option Addr} {c : Nat} {l : List SesOp} (hl : RdSes W A l) (hok : ∀ e ∈ l, e.Ok W) (hm : l.length ≤ maxLen) : Calls Try.prog 119 #[.slice A l.length c] W fun e w' => ∃ b, e = .returned (.bool b) ∧ (b = true → l.length ≤ 40 ∧ ∀ i, i < l.length → (l.getD i default).l.l.length ≤ 300) ∧ St W w' [] := by
  have hS := St.init W
  unfold maxLen at hm
  refine calls_of_wpE (args := [_]) Try.func119 rfl rfl rfl ?_
  refine c_seq ?_
  refine c_region ?_
  refine t_q (q_assign) ?_
  refine t_nil ?_
  refine c_seq ?_
  refine c_seq ?_
  refine c_region ?_
  refine t_q (q_mv (.slice _ _ _) rfl) ?_
  refine t_q (q_len_slice Try.runUnderlying162 rfl) ?_
  refine t_q (q_move) ?_
  refine t_nil ?_
  refine c_block ?_
  refine c_loop [2, 4, 7, 8, 9, 10, 11, 12, 13, 14, 15] (fun k σ w => ∃ j : Nat, σ 7 = .int .i64 (j : Int) ∧ j ≤ l.length ∧ l.length - j ≤ k ∧ (∀ i, i < j → (l.getD i default).l.l.length ≤ 300) ∧ St W w []) (l.length) rfl (⟨0, rfl, by omega, by omega, (fun i h => absurd h (by omega)), hS⟩) ?_
  skip
  rintro k σ w ⟨j, h7, hj, hk, hall, hS⟩
  refine c_know 7 h7 ?_
  clear h7
  refine c_seq ?_
  refine c_region ?_
  refine t_q (q_lss rfl rfl) ?_
  refine t_nil ?_
  refine c_seq ?_
  refine c_cond rfl ?_ ?_
  · intro hc2
    have hc2d := of_decide_eq_true hc2
    have hxo := ses_at hok (j := j) (by omega)
    have hxl := hxo.l.le
    refine c_skip ?_
    refine c_seq ?_
    refine c_block ?_
    refine c_seq ?_
    refine c_region ?_
    first | refine t_index_nat Try.runUnderlying162 Try.sizeOf170 (hl.st hS) rfl rfl (by omega) (fun ad3 hl3 hx3 => ?_) | refine t_index Try.runUnderlying162 Try.sizeOf170 (hl.st hS) rfl rfl (by omega) (fun ad3 hl3 hx3 => ?_)
    refine t_q (q_loadN Try.isAgg170 Try.sizeOf170 rfl hl3 hx3) ?_
    refine t_alloc Try.zeroValue170 rfl hS (fun g4 w hS => ?_)
    refine t_store (v := (.agg _)) Try.sizeOf170 hS (by repeat first | exact .here _ _ | assumption | apply Pick.there) rfl rfl rfl rfl rfl rfl (fun w hS => ?_)
    replace hS := hS.recast (show blkA g4 170 _ = blkA g4 170 (l.getD j default).cells from rfl)
    refine t_nil ?_
    refine c_seq ?_
    refine c_region ?_
    refine t_q (q_fieldAddr 3 Try.runUnderlying170 rfl Try.sizeOf70 (by decide) rfl rfl) ?_
    refine t_q (q_load1 Try.isAgg70 rfl (hS.cell (by repeat first | exact .here _ _ | assumption | apply Pick.there) rfl)) ?_
    refine t_q (q_len_slice Try.runUnderlying70 rfl) ?_
    refine t_q (q_gtr rfl rfl) ?_
    refine t_nil ?_
    refine c_cond rfl ?_ ?_
    · intro hc5
      have hc5d := of_decide_eq_true hc5
      refine c_seq ?_
      refine c_region ?_
      refine t_q (q_assign) ?_
      refine t_nil ?_
      refine c_ret ?_
      refine r_one rfl rfl ?_
      first
        | exact ⟨_, rfl, (fun h => by cases h), hS.nil⟩
        | exact ⟨_, rfl, (fun h => ⟨by have := of_decide_eq_true h; omega, hall⟩), hS.nil⟩
    · intro hc5
      have hc5d := of_decide_eq_false hc5
      have hyes : (l.getD j default).l.l.length ≤ 300 := by omega
      refine c_skip ?_
      refine c_region ?_
      refine t_q (q_add_i64 rfl rfl (by omega)) ?_
      refine t_q (q_mv (.int _ _) rfl) ?_
      refine t_nil ?_
      exact ⟨k - 1, by omega, j + 1, rfl, by omega, by omega, (fun i hi => by
        rcases Nat.lt_or_ge i j with h | h
        · exact hall i h
        · obtain rfl : i = j := by omega
          exact hyes), hS.nil⟩
  · intro hc2
    have hc2d := of_decide_eq_false hc2
    obtain rfl : j = l.length := by omega
    refine c_exit ?_
    refine ite_t rfl ?_
    refine c_seq ?_
    refine c_region ?_
    refine t_q (q_mv (.slice _ _ _) rfl) ?_
    refine t_q (q_len_slice Try.runUnderlying162 rfl) ?_
    refine t_q (q_leq rfl rfl) ?_
    refine t_q (q_as (.bool _) rfl) ?_
    refine t_nil ?_
    refine c_ret ?_
    refine r_one rfl rfl ?_
    first
      | exact ⟨_, rfl, (fun h => by cases h), hS.nil⟩
      | exact ⟨_, rfl, (fun h => ⟨by have := of_decide_eq_true h; omega, hall⟩), hS.nil⟩
set_option maxHeartbeats 2000000 in
set_option maxRecDepth 100000 in
theorem SessionWrites_calls {A : Option Addr} {c : Nat} {l : List SesOp} (hl : RdSes W A l) (hok : ∀ e ∈ l, e.Ok W) (hm : l.length ≤ maxLen) :
  Calls Try.prog 25 #[.slice A l.length c] W fun e w' => e = .returned (.bool true) ∧ St W w' [] := by
  have hS := St.init W
  refine calls_of_wpE (args := [_]) Try.func25 rfl rfl rfl ?_
  refine c_seq ?_
  refine c_region ?_
  refine t_q (q_assign) ?_
  refine t_nil ?_
  refine c_seq ?_
  refine c_seq ?_
  refine c_region ?_
  refine t_q (q_mv (.slice _ _ _) rfl) ?_
  refine t_call Try.call119 (slight_calls (hl.st hS) hok hm) rfl ?_
  rintro e w ⟨b14, rfl, hlt, hT⟩
  refine ⟨_, rfl, ?_⟩
  replace hS := hS.after hT
  refine t_q (q_not rfl) ?_
  refine t_nil ?_
  refine c_cond rfl ?_ ?_
  · intro hc2
    refine c_seq ?_
    refine c_region ?_
    refine t_call Try.call57 (slives_calls) rfl ?_
    rintro e w ⟨rfl, hT⟩
    refine ⟨_, rfl, ?_⟩
    replace hS := hS.after hT
    refine t_q (q_as (.bool _) rfl) ?_
    refine t_nil ?_
    refine c_ret ?_
    refine r_one rfl rfl ?_
    exact ⟨rfl, hS.nil⟩
  · intro hc2
    obtain ⟨h40, h300⟩ := hlt (by simpa using hc2)
    refine c_skip ?_
    refine c_seq ?_
    refine c_region ?_
    refine t_call Try.call120 (snew_calls hS) rfl ?_
    rintro e w ⟨gt, rfl, hS⟩
    refine ⟨_, rfl, ?_⟩
    refine t_q (q_build (qs := [(0, 18)]) [(.int _ _), (.slice _ _ _), (.int _ _), (.slice _ _ _), (.int _ _), (.slice _ _ _), (.int _ _), (.slice _ _ _), (.int _ _), (.slice _ _ _), (.int _ _), (.slice _ _ _), (.int _ _), (.slice _ _ _), (.int _ _), (.slice _ _ _), (.int _ _), (.slice _ _ _)] Try.zeroValue168 Try.runUnderlying168 ⟨rfl, Try.sizeOf166, trivial⟩ rfl rfl) ?_
    refine t_box (v := (.agg _)) rfl rfl hS (fun g19 w hS => ?_)
    replace hS := (hS.pick (A := blkA g19 168 _) (by repeat first | exact .here _ _ | assumption | apply Pick.there)).ref_zero
    refine t_q (q_as (.pointer _) rfl) ?_
    refine t_q (q_as (.pointer _) rfl) ?_
    refine t_nil ?_
    refine c_seq ?_
    refine c_seq ?_
    refine c_region ?_
    refine t_q (q_mv (.slice _ _ _) rfl) ?_
    refine t_q (q_len_slice Try.runUnderlying162 rfl) ?_
    refine t_q (q_move) ?_
    refine t_nil ?_
    refine c_block ?_
    refine c_loop [6, 7, 8, 22, 23, 24, 25, 26, 27, 28, 29, 30, 31, 32, 33, 34, 35, 36, 37, 38, 39, 40, 41, 42, 43, 44, 45, 46, 47, 48, 49, 50, 51, 52, 53, 54] (fun k σ w => ∃ (j : Nat) (T : Tb), σ 22 = .int .i64 (j : Int) ∧ j ≤ l.length ∧ l.length - j ≤ k ∧ TGood T ∧ Kd T ∧ St W w [tabA gt T, refA g19 T]) (l.length) rfl (⟨0, T0, rfl, by omega, by omega, TGood.zero, Kd.zero, ((hS.pick (A := refA g19 T0) (by repeat first | exact .here _ _ | assumption | apply Pick.there)).pick (A := tabA gt T0) (by repeat first | exact .here _ _ | assumption | apply Pick.there))⟩) ?_
    skip
    rintro k σ w ⟨j, T, h22, hj, hk, hT, hKd, hS⟩
    refine c_know 22 h22 ?_
    clear h22
    refine c_seq ?_
    refine c_region ?_
    refine t_q (q_lss rfl rfl) ?_
    refine t_nil ?_
    refine c_seq ?_
    refine c_cond rfl ?_ ?_
    · intro hc6
      have hc6d := of_decide_eq_true hc6
      obtain ⟨kO, hkO⟩ : ∃ x, x = k := ⟨_, rfl⟩
      rw [← hkO] at hk
      refine c_skip ?_
      refine c_seq ?_
      refine c_block ?_
      refine c_seq ?_
      refine c_region ?_
      first | refine t_index_nat Try.runUnderlying162 Try.sizeOf170 (hl.st hS) rfl rfl (by omega) (fun ad7 hl7 hx7 => ?_) | refine t_index Try.runUnderlying162 Try.sizeOf170 (hl.st hS) rfl rfl (by omega) (fun ad7 hl7 hx7 => ?_)
      refine t_q (q_loadN Try.isAgg170 Try.sizeOf170 rfl hl7 hx7) ?_
      refine t_alloc Try.zeroValue170 rfl hS (fun g6 w hS => ?_)
      refine t_store (v := (.agg _)) Try.sizeOf170 hS (by repeat first | exact .here _ _ | assumption | apply Pick.there) rfl rfl rfl rfl rfl rfl (fun w hS => ?_)
      obtain ⟨x, hx⟩ : ∃ x, x = (l.getD j default) := ⟨_, rfl⟩
      replace hS := hS.recast (show blkA g6 170 _ = blkA g6 170 x.cells from by rw [hx]; rfl)
      have hxo : x.Ok W := by rw [hx]; exact ses_at hok (by omega)
      have hxl : x.l.l.length ≤ 300 := by rw [hx]; exact h300 j (by omega)
      have hxe : ∀ e ∈ x.l.l, e.In := fun e he => (hxo.l.el e he).in
      have hxc := hxo.client
      have hxr := hxo.req
      obtain ⟨hki, hkk⟩ := k15_all hxe
      refine t_nil ?_
      refine c_seq ?_
      refine c_region ?_
      refine t_buildSlice Try.runUnderlying70 Try.sizeOf130 Try.zeroValue130 rfl rfl (by intro v hv; simp at hv; try (first | (subst hv; rfl) | (rcases hv with rfl | rfl <;> rfl))) (by decide) (by decide) hS (fun g26 w hS => ?_)
      refine t_q (q_fieldAddr 3 Try.runUnderlying170 rfl Try.sizeOf70 (by decide) rfl rfl) ?_
      refine t_q (q_load1 Try.isAgg70 rfl (hS.cell (by repeat first | exact .here _ _ | assumption | apply Pick.there) rfl)) ?_
      refine t_append (size := 12) (bytes := 96) Try.underlying70 (info_of Try.type130) rfl rfl rfl rfl (by decide) hS (by repeat first | exact .here _ _ | assumption | apply Pick.there) (RdEv.st (l := x.l.l) hxo.l.rd hS) rfl rfl (fun _ _ => rfl) (by unfold maxLen; omega) (by omega) (fun A29 c29 w hS => ?_)
      replace hS := hS.recast (congrArg (rowA 130 12 A29 _ c29) (show _ = x.l.l.flatMap Ev.cells from flat_range (cells := Ev.cells) x.l.l))
      rw [Nat.zero_add] at hS
      refine t_q (q_as (.slice _ _ _) rfl) ?_
      refine t_nil ?_
      refine c_seq ?_
      refine c_seq ?_
      refine c_region ?_
      refine t_q (q_cast (v' := .slice A29 x.l.l.length c29) (q_mv (.slice _ _ _) rfl) (by rw [Nat.zero_add])) ?_
      refine t_q (q_len_slice Try.runUnderlying70 rfl) ?_
      refine t_q (q_move) ?_
      refine t_nil ?_
      refine c_block ?_
      refine c_loop [8, 32, 33, 34, 35, 36, 37, 38, 39] (fun k σ w => ∃ q : Nat, σ 32 = .int .i64 (q : Int) ∧ q ≤ x.l.l.length ∧ x.l.l.length - q ≤ k ∧ St W w [rowA 130 12 A29 x.l.l.length c29 ((K15 x.l.l q).flatMap Ev.cells), blkA g6 170 x.cells, tabA gt T, refA g19 T]) (x.l.l.length) rfl (⟨0, rfl, by omega, by omega, ((((hS.pick (A := refA g19 T) (by repeat first | exact .here _ _ | assumption | apply Pick.there)).pick (A := tabA gt T) (by repeat first | exact .here _ _ | assumption | apply Pick.there)).pick (A := blkA g6 170 x.cells) (by repeat first | exact .here _ _ | assumption | apply Pick.there)).pick (A := rowA 130 12 A29 _ c29 ((x.l.l).flatMap Ev.cells)) (by repeat first | exact .here _ _ | assumption | apply Pick.there))⟩) ?_
      skip
      rintro k σ w ⟨q, h32, hq, hk2, hS⟩
      refine c_know 32 h32 ?_
      clear h32
      refine c_seq ?_
      refine c_region ?_
      refine t_q (q_lss rfl rfl) ?_
      refine t_nil ?_
      refine c_seq ?_
      refine c_cond rfl ?_ ?_
      · intro hc9
        have hc9d := of_decide_eq_true hc9
        obtain ⟨gE, hgE⟩ := hS.row_some (by repeat first | exact .here _ _ | assumption | apply Pick.there) (by omega)
        subst hgE
        refine c_skip ?_
        refine c_seq ?_
        refine c_block ?_
        refine c_seq ?_
        refine c_region ?_
        refine t_q (q_mv (.int _ _) rfl) ?_
        refine t_q (q_as (.int _ _) rfl) ?_
        refine t_nil ?_
        refine c_region ?_
        refine t_q (q_cast (v' := .slice (some ⟨gE, 0, none⟩) x.l.l.length c29) (q_mv (.slice _ _ _) rfl) (by rw [Nat.zero_add])) ?_
        refine t_q (q_mv (.int _ _) rfl) ?_
        refine t_q (q_cast (v' := .pointer (some ⟨gE, 0 + q * 12, none⟩)) (q_indexAddr Try.runUnderlying70 Try.sizeOf130 rfl rfl (by omega)) (by rw [addr_add, Int.toNat_natCast])) ?_
        refine t_q (q_fieldAddr 0 Try.runUnderlying130 rfl Try.sizeOf3 (by decide) rfl rfl) ?_
        refine t_store_row Try.sizeOf3 hS (.here _ _) rfl rfl rfl rfl rfl (by show 0 + q * 12 + 0 + 1 ≤ x.l.l.length * 12; omega) (fun w hS => ?_)
        refine t_nil ?_
        refine c_region ?_
        refine t_q (q_add_i64 rfl rfl (by omega)) ?_
        refine t_q (q_mv (.int _ _) rfl) ?_
        refine t_nil ?_
        exact ⟨k - 1, by omega, q + 1, rfl, by omega, by omega, hS.recast (congrArg (rowA 130 12 (some ⟨gE, 0, none⟩) x.l.l.length c29) (k15_step (by omega)))⟩
      · intro hc9
        have hc9d := of_decide_eq_false hc9
        obtain rfl : q = x.l.l.length := by omega
        replace hS := hS.recast (show _ = rowA 130 12 A29 (x.l.l.map k15).length c29 (((x.l.l.map k15)).flatMap Ev.cells) from by rw [K15_all, List.length_map])
        have hklen : (x.l.l.map k15).length ≤ 1000000 := by rw [List.length_map]; omega
        refine c_exit ?_
        refine ite_t rfl ?_
        refine c_seq ?_
        refine c_region ?_
        refine t_q (q_mv (.pointer _) rfl) ?_
        refine t_q (q_fieldAddr 1 Try.runUnderlying170 rfl Try.sizeOf24 (by decide) rfl rfl) ?_
        refine t_q (q_load1 Try.isAgg24 rfl (hS.cell (by repeat first | exact .here _ _ | assumption | apply Pick.there) rfl)) ?_
        refine t_q (q_fieldAddr 2 Try.runUnderlying170 rfl Try.sizeOf24 (by decide) rfl rfl) ?_
        refine t_q (q_load1 Try.isAgg24 rfl (hS.cell (by repeat first | exact .here _ _ | assumption | apply Pick.there) rfl)) ?_
        refine t_q (q_cast (v' := .slice A29 (x.l.l.map k15).length c29) (q_mv (.slice _ _ _) rfl) (by rw [List.length_map, Nat.zero_add])) ?_
        refine t_call Try.call54 (done_calls (T := T) (l := (x.l.l.map k15)) hS (by repeat first | exact .here _ _ | assumption | apply Pick.there) hT hxr.1 (fun _ h => rowRdE (A := A29) (c := c29) (l := (x.l.l.map k15)) h (by repeat first | exact .here _ _ | assumption | apply Pick.there) rfl) hklen) rfl ?_
        rintro e w ⟨rfl, hS⟩
        refine ⟨_, rfl, ?_⟩
        refine t_nil ?_
        refine c_region ?_
        refine t_q (q_mv (.pointer _) rfl) ?_
        refine t_q (q_fieldAddr 1 Try.runUnderlying170 rfl Try.sizeOf24 (by decide) rfl rfl) ?_
        refine t_q (q_load1 Try.isAgg24 rfl (hS.cell (by repeat first | exact .here _ _ | assumption | apply Pick.there) rfl)) ?_
        refine t_q (q_fieldAddr 2 Try.runUnderlying170 rfl Try.sizeOf24 (by decide) rfl rfl) ?_
        refine t_q (q_load1 Try.isAgg24 rfl (hS.cell (by repeat first | exact .here _ _ | assumption | apply Pick.there) rfl)) ?_
        refine t_q (q_cast (v' := .slice A29 (x.l.l.map k15).length c29) (q_mv (.slice _ _ _) rfl) (by rw [List.length_map, Nat.zero_add])) ?_
        refine t_call Try.call121 (qdone_calls (T := T) (l := (x.l.l.map k15)) hS (by repeat first | exact .here _ _ | assumption | apply Pick.there) hxr.1 (fun _ h => rowRdE (A := A29) (c := c29) (l := (x.l.l.map k15)) h (by repeat first | exact .here _ _ | assumption | apply Pick.there) rfl) hklen) rfl ?_
        rintro e w ⟨rfl, hS⟩
        refine ⟨_, rfl, ?_⟩
        refine t_nil ?_
        refine c_region ?_
        refine t_q (q_add_i64 rfl rfl (by omega)) ?_
        refine t_q (q_mv (.int _ _) rfl) ?_
        refine t_nil ?_
        exact ⟨kO - 1, by omega, j + 1, doneT T x.client x.req (x.l.l.map k15), rfl, by omega, by omega, hT.done ⟨hxr.1, by omega⟩ hki, hKd.done hkk, (((hS.pick (A := refA g19 _) (by repeat first | exact .here _ _ | assumption | apply Pick.there)).pick (A := tabA gt _) (by repeat first | exact .here _ _ | assumption | apply Pick.there))).front2⟩
    · intro hc6
      have hc6d := of_decide_eq_false hc6
      have hsl := sesP_len hT 8 (by omega)
      have hsn := enc_ten (n := cntK T 8) (by have := cntK_le T 8; omega)
      have hsb : (sesB T).length ≤ 500000 := by unfold sesB; rw [List.length_append]; omega
      refine c_exit ?_
      refine ite_t rfl ?_
      refine c_seq ?_
      refine c_region ?_
      refine t_alloc Try.zeroValue50 rfl hS (fun g9 w hS => ?_)
      replace hS := hS.wr0
      refine t_nil ?_
      refine c_seq ?_
      refine c_region ?_
      refine t_q (q_mv (.pointer _) rfl) ?_
      refine t_call Try.call52 (sput_calls (((hS.pick (A := tabA gt T) (by repeat first | exact .here _ _ | assumption | apply Pick.there)).pick (A := wrA g9 _) (by repeat first | exact .here _ _ | assumption | apply Pick.there))) hT (by simp)) rfl ?_
      rintro e w ⟨rfl, hS⟩
      refine ⟨_, rfl, ?_⟩
      replace hS := hS.recast (congrArg (wrA g9) (List.nil_append (sesB T)))
      refine t_nil ?_
      refine c_seq ?_
      refine c_region ?_
      refine t_call Try.call50 (Bytes_calls hS (by repeat first | exact .here _ _ | assumption | apply Pick.there) (by omega)) rfl ?_
      rintro e w ⟨A57, c57, rfl, hc57, hS⟩
      refine ⟨_, rfl, ?_⟩
      have hS0 := hS
      obtain ⟨w1, hw1⟩ : ∃ x, x = w := ⟨_, rfl⟩
      subst hw1
      have hb1 := hS.rowRd (bs := sesB T) (.here _ _) rfl
      replace hS := St.init w1
      refine t_call Try.call58 (Open_calls (bs := sesB T) hS hb1 ⟨hc57, by omega⟩) rfl ?_
      rintro e w ⟨gR, rfl, hS⟩
      refine ⟨_, rfl, ?_⟩
      replace hS := hS.recast (congrArg (fun b => rdrA w1 106 gR ⟨b, false⟩) (List.append_nil (sesB T)).symm)
      refine t_q (q_as (.pointer _) rfl) ?_
      refine t_nil ?_
      refine c_seq ?_
      refine c_region ?_
      refine t_q (q_mv (.pointer _) rfl) ?_
      refine t_call Try.call116 (sback_calls hS (.here _ _) hT hKd) rfl ?_
      rintro e w ⟨gP, rfl, hS⟩
      refine ⟨_, rfl, ?_⟩
      replace hS := hS0.lift hS
      refine t_q (q_mv (.tuple _) rfl) ?_
      refine t_q (q_extract rfl rfl) ?_
      refine t_q (q_extract rfl rfl) ?_
      refine t_q (q_as (.pointer _) rfl) ?_
      refine t_q (q_as (.bool _) rfl) ?_
      refine t_nil ?_
      refine c_seq ?_
      refine c_draw ?_
      refine d_free 23 [0, 1, 2, 3, 4, 5, 6, 7, 8, 9, 10, 11, 12, 13, 14, 15, 16, 17, 18, 19, 20, 21, 22] [0, 1, 2, 3, 4, 5, 6, 7, 8, 9, 10, 11, 12, 13, 14, 15, 16, 17, 18, 19, 20, 21, 22] hS rfl (by kernel_rfl) (by kernel_rfl) (by kernel_rfl) (by kernel_rfl) (fun hap hsel w hS => ?_)
      refine p_q hap hsel 2 rfl rfl ⟨_, hS⟩ (fun w hI => q_mv (.pointer _) rfl) ?_
      refine p_one 0 rfl (by kernel_rfl) ?_
      refine t_call Try.call50 (Bytes_calls hS (by repeat first | exact .here _ _ | assumption | apply Pick.there) (by omega)) rfl ?_
      rintro e w ⟨A64, c64, rfl, hc64, hS⟩
      refine ⟨_, rfl, ?_⟩
      refine t_nil ?_
      refine ⟨.inr ⟨_, hS⟩, ?_⟩
      refine p_two 1 3 rfl rfl (by kernel_rfl) ?_ ?_
      ·
        refine t_q (q_string Try.runUnderlying48 Try.runUnderlying5 Try.runUnderlying9 rfl rfl (hS.rowRd (A := A64) (c := c64) (bs := sesB T) (by repeat first | exact .here _ _ | assumption | apply Pick.there) rfl)) ?_
        refine t_nil ?_
        refine ⟨.inr ⟨_, hS⟩, ?_⟩
        refine p_one 3 rfl (by kernel_rfl) ?_
        refine t_call Try.call122 (qsput_calls (T := T) hS (by repeat first | exact .here _ _ | assumption | apply Pick.there) hT) rfl ?_
        rintro e w ⟨A67, m67, c67, rfl, hm67, hS⟩
        refine ⟨_, rfl, ?_⟩
        refine t_nil ?_
        refine ⟨.inr ⟨_, hS⟩, ?_⟩
        refine p_one 4 rfl (by kernel_rfl) ?_
        refine t_q (q_string Try.runUnderlying48 Try.runUnderlying5 Try.runUnderlying9 rfl hm67 (hS.rowRd (A := A67) (n := m67) (c := c67) (bs := sesB T) (by repeat first | exact .here _ _ | assumption | apply Pick.there) hm67)) ?_
        refine t_nil ?_
        refine ⟨.inr ⟨_, hS⟩, ?_⟩
        refine p_q hap hsel 5 rfl rfl ⟨_, hS⟩ (fun w hI => (q_cast (v' := .bool true) (q_eql_string rfl rfl) (by simp))) ?_
        refine p_q hap hsel 6 rfl rfl ⟨_, hS⟩ (fun w hI => q_mv (.bool _) rfl) ?_
        refine p_yes hap hsel 7 rfl rfl ⟨_, hS⟩ rfl rfl rfl (fun w hI => q_mv (.bool _) rfl) ?_
        refine p_q hap hsel 8 rfl rfl ⟨_, hS⟩ (fun w hI => q_pick_t rfl rfl) ?_
        refine p_q hap hsel 9 rfl rfl ⟨_, hS⟩ (fun w hI => q_mv (.bool _) rfl) ?_
        refine p_yes hap hsel 10 rfl rfl ⟨_, hS⟩ rfl rfl rfl (fun w hI => q_mv (.pointer _) rfl) ?_
        refine p_one 11 rfl (by kernel_rfl) ?_
        refine t_yes rfl rfl rfl ?_
        refine t_call Try.call71 (rEnd hS (by repeat first | exact .here _ _ | assumption | apply Pick.there)) rfl ?_
        rintro e w ⟨rfl, hS⟩
        refine ⟨_, rfl, ?_⟩
        refine t_nil ?_
        refine ⟨.inr ⟨_, hS⟩, ?_⟩
        refine p_yes hap hsel 12 rfl rfl ⟨_, hS⟩ rfl rfl rfl (fun w hI => (q_cast (v' := .bool true) (q_eql rfl rfl) (by rfl))) ?_
        refine p_q hap hsel 13 rfl rfl ⟨_, hS⟩ (fun w hI => q_pick_t rfl rfl) ?_
        refine p_q hap hsel 14 rfl rfl ⟨_, hS⟩ (fun w hI => q_mv (.bool _) rfl) ?_
        refine p_yes hap hsel 15 rfl rfl ⟨_, hS⟩ rfl rfl rfl (fun w hI => q_mv (.pointer _) rfl) ?_
        refine p_yes hap hsel 16 rfl rfl ⟨_, hS⟩ rfl rfl rfl (fun w hI => q_mv (.pointer _) rfl) ?_
        refine p_one 17 rfl (by kernel_rfl) ?_
        refine t_yes rfl rfl rfl ?_
        refine t_call Try.call118 (slike_calls (g := gP) (g2 := g19) (T := T) hS (by repeat first | exact .here _ _ | assumption | apply Pick.there) (by repeat first | exact .here _ _ | assumption | apply Pick.there) hT) rfl ?_
        rintro e w ⟨rfl, hS⟩
        refine ⟨_, rfl, ?_⟩
        refine t_nil ?_
        refine ⟨.inr ⟨_, hS⟩, ?_⟩
        refine p_q hap hsel 18 rfl rfl ⟨_, hS⟩ (fun w hI => q_pick_t rfl rfl) ?_
        refine p_q hap hsel 19 rfl rfl ⟨_, hS⟩ (fun w hI => q_mv (.bool _) rfl) ?_
        refine p_one 20 rfl (by kernel_rfl) ?_
        refine t_yes rfl rfl rfl ?_
        refine t_call Try.call57 (slives_calls) rfl ?_
        rintro e w ⟨rfl, hT⟩
        refine ⟨_, rfl, ?_⟩
        replace hS := hS.after hT
        refine t_nil ?_
        refine ⟨.inr ⟨_, hS⟩, ?_⟩
        refine p_q hap hsel 21 rfl rfl ⟨_, hS⟩ (fun w hI => q_pick_t rfl rfl) ?_
        refine p_q hap hsel 22 rfl rfl ⟨_, hS⟩ (fun w hI => q_as (.bool _) rfl) ?_
        refine p_end (by kernel_rfl) ?_
        refine c_ret ?_
        refine r_one rfl rfl ?_
        exact ⟨rfl, hS.nil⟩
      ·
        refine t_call Try.call122 (qsput_calls (T := T) hS (by repeat first | exact .here _ _ | assumption | apply Pick.there) hT) rfl ?_
        rintro e w ⟨A67, m67, c67, rfl, hm67, hS⟩
        refine ⟨_, rfl, ?_⟩
        refine t_nil ?_
        refine ⟨.inr ⟨_, hS⟩, ?_⟩
        refine p_two 1 4 rfl rfl (by kernel_rfl) ?_ ?_
        ·
          refine t_q (q_string Try.runUnderlying48 Try.runUnderlying5 Try.runUnderlying9 rfl rfl (hS.rowRd (A := A64) (c := c64) (bs := sesB T) (by repeat first | exact .here _ _ | assumption | apply Pick.there) rfl)) ?_
          refine t_nil ?_
          refine ⟨.inr ⟨_, hS⟩, ?_⟩
          refine p_one 4 rfl (by kernel_rfl) ?_
          refine t_q (q_string Try.runUnderlying48 Try.runUnderlying5 Try.runUnderlying9 rfl hm67 (hS.rowRd (A := A67) (n := m67) (c := c67) (bs := sesB T) (by repeat first | exact .here _ _ | assumption | apply Pick.there) hm67)) ?_
          refine t_nil ?_
          refine ⟨.inr ⟨_, hS⟩, ?_⟩
          refine p_q hap hsel 5 rfl rfl ⟨_, hS⟩ (fun w hI => (q_cast (v' := .bool true) (q_eql_string rfl rfl) (by simp))) ?_
          refine p_q hap hsel 6 rfl rfl ⟨_, hS⟩ (fun w hI => q_mv (.bool _) rfl) ?_
          refine p_yes hap hsel 7 rfl rfl ⟨_, hS⟩ rfl rfl rfl (fun w hI => q_mv (.bool _) rfl) ?_
          refine p_q hap hsel 8 rfl rfl ⟨_, hS⟩ (fun w hI => q_pick_t rfl rfl) ?_
          refine p_q hap hsel 9 rfl rfl ⟨_, hS⟩ (fun w hI => q_mv (.bool _) rfl) ?_
          refine p_yes hap hsel 10 rfl rfl ⟨_, hS⟩ rfl rfl rfl (fun w hI => q_mv (.pointer _) rfl) ?_
          refine p_one 11 rfl (by kernel_rfl) ?_
          refine t_yes rfl rfl rfl ?_
          refine t_call Try.call71 (rEnd hS (by repeat first | exact .here _ _ | assumption | apply Pick.there)) rfl ?_
          rintro e w ⟨rfl, hS⟩
          refine ⟨_, rfl, ?_⟩
          refine t_nil ?_
          refine ⟨.inr ⟨_, hS⟩, ?_⟩
          refine p_yes hap hsel 12 rfl rfl ⟨_, hS⟩ rfl rfl rfl (fun w hI => (q_cast (v' := .bool true) (q_eql rfl rfl) (by rfl))) ?_
          refine p_q hap hsel 13 rfl rfl ⟨_, hS⟩ (fun w hI => q_pick_t rfl rfl) ?_
          refine p_q hap hsel 14 rfl rfl ⟨_, hS⟩ (fun w hI => q_mv (.bool _) rfl) ?_
          refine p_yes hap hsel 15 rfl rfl ⟨_, hS⟩ rfl rfl rfl (fun w hI => q_mv (.pointer _) rfl) ?_
          refine p_yes hap hsel 16 rfl rfl ⟨_, hS⟩ rfl rfl rfl (fun w hI => q_mv (.pointer _) rfl) ?_
          refine p_one 17 rfl (by kernel_rfl) ?_
          refine t_yes rfl rfl rfl ?_
          refine t_call Try.call118 (slike_calls (g := gP) (g2 := g19) (T := T) hS (by repeat first | exact .here _ _ | assumption | apply Pick.there) (by repeat first | exact .here _ _ | assumption | apply Pick.there) hT) rfl ?_
          rintro e w ⟨rfl, hS⟩
          refine ⟨_, rfl, ?_⟩
          refine t_nil ?_
          refine ⟨.inr ⟨_, hS⟩, ?_⟩
          refine p_q hap hsel 18 rfl rfl ⟨_, hS⟩ (fun w hI => q_pick_t rfl rfl) ?_
          refine p_q hap hsel 19 rfl rfl ⟨_, hS⟩ (fun w hI => q_mv (.bool _) rfl) ?_
          refine p_one 20 rfl (by kernel_rfl) ?_
          refine t_yes rfl rfl rfl ?_
          refine t_call Try.call57 (slives_calls) rfl ?_
          rintro e w ⟨rfl, hT⟩
          refine ⟨_, rfl, ?_⟩
          replace hS := hS.after hT
          refine t_nil ?_
          refine ⟨.inr ⟨_, hS⟩, ?_⟩
          refine p_q hap hsel 21 rfl rfl ⟨_, hS⟩ (fun w hI => q_pick_t rfl rfl) ?_
          refine p_q hap hsel 22 rfl rfl ⟨_, hS⟩ (fun w hI => q_as (.bool _) rfl) ?_
          refine p_end (by kernel_rfl) ?_
          refine c_ret ?_
          refine r_one rfl rfl ?_
          exact ⟨rfl, hS.nil⟩
        ·
          refine t_q (q_string Try.runUnderlying48 Try.runUnderlying5 Try.runUnderlying9 rfl hm67 (hS.rowRd (A := A67) (n := m67) (c := c67) (bs := sesB T) (by repeat first | exact .here _ _ | assumption | apply Pick.there) hm67)) ?_
          refine t_nil ?_
          refine ⟨.inr ⟨_, hS⟩, ?_⟩
          refine p_one 1 rfl (by kernel_rfl) ?_
          refine t_q (q_string Try.runUnderlying48 Try.runUnderlying5 Try.runUnderlying9 rfl rfl (hS.rowRd (A := A64) (c := c64) (bs := sesB T) (by repeat first | exact .here _ _ | assumption | apply Pick.there) rfl)) ?_
          refine t_nil ?_
          refine ⟨.inr ⟨_, hS⟩, ?_⟩
          refine p_q hap hsel 5 rfl rfl ⟨_, hS⟩ (fun w hI => (q_cast (v' := .bool true) (q_eql_string rfl rfl) (by simp))) ?_
          refine p_q hap hsel 6 rfl rfl ⟨_, hS⟩ (fun w hI => q_mv (.bool _) rfl) ?_
          refine p_yes hap hsel 7 rfl rfl ⟨_, hS⟩ rfl rfl rfl (fun w hI => q_mv (.bool _) rfl) ?_
          refine p_q hap hsel 8 rfl rfl ⟨_, hS⟩ (fun w hI => q_pick_t rfl rfl) ?_
          refine p_q hap hsel 9 rfl rfl ⟨_, hS⟩ (fun w hI => q_mv (.bool _) rfl) ?_
          refine p_yes hap hsel 10 rfl rfl ⟨_, hS⟩ rfl rfl rfl (fun w hI => q_mv (.pointer _) rfl) ?_
          refine p_one 11 rfl (by kernel_rfl) ?_
          refine t_yes rfl rfl rfl ?_
          refine t_call Try.call71 (rEnd hS (by repeat first | exact .here _ _ | assumption | apply Pick.there)) rfl ?_
          rintro e w ⟨rfl, hS⟩
          refine ⟨_, rfl, ?_⟩
          refine t_nil ?_
          refine ⟨.inr ⟨_, hS⟩, ?_⟩
          refine p_yes hap hsel 12 rfl rfl ⟨_, hS⟩ rfl rfl rfl (fun w hI => (q_cast (v' := .bool true) (q_eql rfl rfl) (by rfl))) ?_
          refine p_q hap hsel 13 rfl rfl ⟨_, hS⟩ (fun w hI => q_pick_t rfl rfl) ?_
          refine p_q hap hsel 14 rfl rfl ⟨_, hS⟩ (fun w hI => q_mv (.bool _) rfl) ?_
          refine p_yes hap hsel 15 rfl rfl ⟨_, hS⟩ rfl rfl rfl (fun w hI => q_mv (.pointer _) rfl) ?_
          refine p_yes hap hsel 16 rfl rfl ⟨_, hS⟩ rfl rfl rfl (fun w hI => q_mv (.pointer _) rfl) ?_
          refine p_one 17 rfl (by kernel_rfl) ?_
          refine t_yes rfl rfl rfl ?_
          refine t_call Try.call118 (slike_calls (g := gP) (g2 := g19) (T := T) hS (by repeat first | exact .here _ _ | assumption | apply Pick.there) (by repeat first | exact .here _ _ | assumption | apply Pick.there) hT) rfl ?_
          rintro e w ⟨rfl, hS⟩
          refine ⟨_, rfl, ?_⟩
          refine t_nil ?_
          refine ⟨.inr ⟨_, hS⟩, ?_⟩
          refine p_q hap hsel 18 rfl rfl ⟨_, hS⟩ (fun w hI => q_pick_t rfl rfl) ?_
          refine p_q hap hsel 19 rfl rfl ⟨_, hS⟩ (fun w hI => q_mv (.bool _) rfl) ?_
          refine p_one 20 rfl (by kernel_rfl) ?_
          refine t_yes rfl rfl rfl ?_
          refine t_call Try.call57 (slives_calls) rfl ?_
          rintro e w ⟨rfl, hT⟩
          refine ⟨_, rfl, ?_⟩
          replace hS := hS.after hT
          refine t_nil ?_
          refine ⟨.inr ⟨_, hS⟩, ?_⟩
          refine p_q hap hsel 21 rfl rfl ⟨_, hS⟩ (fun w hI => q_pick_t rfl rfl) ?_
          refine p_q hap hsel 22 rfl rfl ⟨_, hS⟩ (fun w hI => q_as (.bool _) rfl) ?_
          refine p_end (by kernel_rfl) ?_
          refine c_ret ?_
          refine r_one rfl rfl ?_
          exact ⟨rfl, hS.nil⟩
end Go.Proofs.Ytcikoealneldkaa
