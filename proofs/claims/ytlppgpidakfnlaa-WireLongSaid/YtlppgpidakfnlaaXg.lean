/- Messages as bytes: without parcels. -/
import Derived.Test.YtlppgpidakfnlaaXe
import Derived.Test.YtlppgpidakfnlaaCe
namespace Go.Proofs.Ytlppgpidakfnlaa
open Go Go.RowKit Go.Lib
variable {W : World}
def entB (e : EntV) : List UInt8 := enc e.index.toNat ++ (enc e.term.toNat ++ (enc e.body.l.length ++ e.body.l))
def wb0 (x : MsgV) : List UInt8 := enc x.kind.toNat ++ (enc x.frm.toNat ++ (enc x.to.toNat ++ enc x.term.toNat))
def wb1 (v : Int) (x : MsgV) : List UInt8 := if hasF v 1 then wb0 x ++ [if x.ok then 1 else 0] else wb0 x
def wb2 (v : Int) (x : MsgV) : List UInt8 := if hasF v 2 then wb1 v x ++ enc x.index.toNat else wb1 v x
def wb3 (v : Int) (x : MsgV) : List UInt8 := if hasF v 4 then wb2 v x ++ enc x.logTerm.toNat else wb2 v x
def wb4 (v : Int) (x : MsgV) : List UInt8 := if hasF v 8 then wb3 v x ++ enc x.commit.toNat else wb3 v x
def wb5 (v : Int) (x : MsgV) : List UInt8 := if hasF v 16 then wb4 v x ++ enc x.entries.l.length else wb4 v x
def wb6 (v : Int) (x : MsgV) : List UInt8 := wb5 v x ++ x.entries.l.flatMap entB
def wb7 (v : Int) (x : MsgV) : List UInt8 := if hasF v 32 then wb6 v x ++ (enc x.body.l.length ++ x.body.l) else wb6 v x
def wb8 (v : Int) (x : MsgV) : List UInt8 := if hasF v 64 then wb7 v x ++ (enc x.client.toNat ++ enc x.req.toNat) ++ evsB x.events.l else wb7 v x
structure Snd (x : MsgV) : Prop where
  frm : 0 ≤ x.frm ∧ x.frm < 16
  to : 0 ≤ x.to ∧ x.to < 16
  ents : x.entries.l.length ≤ 32
  ebody : ∀ e ∈ x.entries.l, e.body.l.length ≤ 512
  body : x.body.l.length ≤ 524288
  kind : 1 ≤ x.kind ∧ x.kind ≤ 8
  kept : (keepV (fl x.kind) x).vw = x.vw
  evs : evE x.events.l = 0
theorem snd_of {x : MsgV} (h : soundB x = true) : Snd x := by
  unfold soundB nodeB fitB at h
  simp only [Bool.and_eq_true, decide_eq_true_eq] at h
  obtain ⟨h1, h2, h3, h4, q1, q2, q3, q4, q5, q6, q7, q8, q9, q10⟩ := h
  refine ⟨h2, h3, q6, fun e he => ?_, q7, ?_, h4, q9⟩
  · have := (List.all_eq_true.1 q10) e he
    unfold entFine at this
    exact (of_decide_eq_true this).2.2
  · rcases fl_some x.kind with ⟨h, _⟩ | ⟨h, _⟩ | ⟨h, _⟩ | ⟨h, _⟩ | ⟨h, _⟩ | ⟨h, _⟩ | ⟨h, _⟩ | ⟨h, _⟩ | ⟨h, h'⟩
    all_goals first | omega | exact absurd h' h1
theorem wb_lens {x : MsgV} {W : World} (hx : x.Gd W) (hs : Snd x) (v : Int) : (wb0 x).length ≤ 40 ∧ (wb1 v x).length ≤ 41 ∧ (wb2 v x).length ≤ 51 ∧ (wb3 v x).length ≤ 61 ∧ (wb4 v x).length ≤ 71 ∧ (wb5 v x).length ≤ 81 := by
  have a1 := enc_ten (n := x.kind.toNat) (by have := hs.kind; omega)
  have a2 := enc_ten (n := x.frm.toNat) (by have := hs.frm; omega)
  have a3 := enc_ten (n := x.to.toNat) (by have := hs.to; omega)
  have a4 := enc_ten (n := x.term.toNat) (by have := hx.term; omega)
  have a5 := enc_ten (n := x.index.toNat) (by have := hx.index; omega)
  have a6 := enc_ten (n := x.logTerm.toNat) (by have := hx.logTerm; omega)
  have a7 := enc_ten (n := x.commit.toNat) (by have := hx.commit; omega)
  have a8 := enc_ten (n := x.entries.l.length) (by have := hs.ents; omega)
  have l0 : (wb0 x).length ≤ 40 := by unfold wb0; simp only [List.length_append]; omega
  have l1 : (wb1 v x).length ≤ 41 := by unfold wb1; split <;> (try rw [List.length_append, List.length_singleton]) <;> omega
  have l2 : (wb2 v x).length ≤ 51 := by unfold wb2; split <;> (try rw [List.length_append]) <;> omega
  have l3 : (wb3 v x).length ≤ 61 := by unfold wb3; split <;> (try rw [List.length_append]) <;> omega
  have l4 : (wb4 v x).length ≤ 71 := by unfold wb4; split <;> (try rw [List.length_append]) <;> omega
  have l5 : (wb5 v x).length ≤ 81 := by unfold wb5; split <;> (try rw [List.length_append]) <;> omega
  exact ⟨l0, l1, l2, l3, l4, l5⟩
theorem ent_len {e : EntV} {W : World} (he : e.Gd W) (h : e.body.l.length ≤ 512) : (entB e).length ≤ 542 := by
  have a1 := enc_ten (n := e.index.toNat) (by have := he.index; omega)
  have a2 := enc_ten (n := e.term.toNat) (by have := he.term; omega)
  have a3 := enc_ten (n := e.body.l.length) (by omega)
  unfold entB
  simp only [List.length_append]
  omega
theorem ents_len {W : World} : ∀ (l : List EntV), (∀ e ∈ l, e.Gd W) → (∀ e ∈ l, e.body.l.length ≤ 512) → (l.flatMap entB).length ≤ 542 * l.length
  | [], _, _ => Nat.le_refl 0
  | e :: l, h, h2 => by
    have h1 := ent_len (h e (List.mem_cons_self ..)) (h2 e (List.mem_cons_self ..))
    have h3 := ents_len l (fun y hy => h y (List.mem_cons_of_mem _ hy)) (fun y hy => h2 y (List.mem_cons_of_mem _ hy))
    rw [List.flatMap_cons, List.length_append, List.length_cons]
    omega
theorem entB_take {l : List EntV} {j : Nat} (hj : j < l.length) : (l.take (j + 1)).flatMap entB = (l.take j).flatMap entB ++ entB (l.getD j default) := by
  rw [List.take_add_one, List.flatMap_append, List.getElem?_eq_getElem hj, List.getD_eq_getElem?_getD, List.getElem?_eq_getElem hj]
  simp
attribute [local irreducible] blkA rowA wrA
set_option maxRecDepth 100000 in
theorem num_yes {w : World} {R : List Asn} {g3 g4 : Nat} {v m n : Int} {bs : List UInt8} (h : decide (IntKind.i64.wrap (BitVec.ofInt IntKind.i64.bits v &&& BitVec.ofInt IntKind.i64.bits m).toNat ≠ 0) = true) (hS : St W w (wrA g4 bs :: blkA g3 3 [.int .i64 v] :: R)) (hn : 0 ≤ n ∧ n < 18446744073709551616) (hb : bs.length ≤ 1000000000) : Calls Try.prog 143 #[.int .i64 m, .int .u64 n, .pointer (some ⟨g3, 0, none⟩), .pointer (some ⟨g4, 0, none⟩)] w fun e w' => e = .returned (.tuple #[]) ∧ St W w' (wrA g4 (bs ++ enc n.toNat) :: blkA g3 3 [.int .i64 v] :: R) := by
 refine calls_of_wpE (args := [_, _, _, _]) Try.func143 rfl rfl rfl ?_
 refine c_seq (c_region ?_)
 refine t_q (q_load1 Try.isAgg3 rfl (hS.cell (by repeat constructor) rfl)) ?_
 refine t_q (q_mv (.int _ _) rfl) ?_
 refine t_q (q_and rfl rfl) ?_
 refine t_q (q_neq rfl rfl) ?_
 refine t_nil ?_
 refine c_cond_t rfl h ?_
 refine c_region ?_
 refine t_q (q_mv (.int _ _) rfl) ?_
 refine t_build_ints [_] Try.runUnderlying194 Try.sizeOf43 Try.zeroValue43 rfl rfl (by decide) hS (fun g11 w hS => ?_)
 refine t_call Try.call78 (Nat_calls (ns := [n]) hS (by repeat constructor) (fun _ h => h.rowInts (.here _ _) rfl) (by intro m hm; simp only [List.mem_cons, List.not_mem_nil, or_false] at hm; omega) (by simp) (by omega)) rfl ?_
 rintro e w ⟨rfl, hS⟩
 refine ⟨_, rfl, ?_⟩
 replace hS := hS.swap.recast (congrArg (wrA g4) (show _ = bs ++ enc n.toNat from by unfold encs; simp))
 refine t_nil ?_
 refine r_none rfl  ?_
 exact ⟨rfl, hS⟩
set_option maxRecDepth 100000 in
theorem num_no {w : World} {R : List Asn} {g3 g4 : Nat} {v m n : Int} {bs : List UInt8} (h : decide (IntKind.i64.wrap (BitVec.ofInt IntKind.i64.bits v &&& BitVec.ofInt IntKind.i64.bits m).toNat ≠ 0) = false) (hS : St W w (wrA g4 bs :: blkA g3 3 [.int .i64 v] :: R)) (hn : 0 ≤ n ∧ n < 18446744073709551616) (hb : bs.length ≤ 1000000000) : Calls Try.prog 143 #[.int .i64 m, .int .u64 n, .pointer (some ⟨g3, 0, none⟩), .pointer (some ⟨g4, 0, none⟩)] w fun e w' => e = .returned (.tuple #[]) ∧ St W w' (wrA g4 (bs) :: blkA g3 3 [.int .i64 v] :: R) := by
 refine calls_of_wpE (args := [_, _, _, _]) Try.func143 rfl rfl rfl ?_
 refine c_seq (c_region ?_)
 refine t_q (q_load1 Try.isAgg3 rfl (hS.cell (by repeat constructor) rfl)) ?_
 refine t_q (q_mv (.int _ _) rfl) ?_
 refine t_q (q_and rfl rfl) ?_
 refine t_q (q_neq rfl rfl) ?_
 refine t_nil ?_
 refine c_cond_f rfl h ?_
 refine c_skip ?_
 refine r_none rfl  ?_
 exact ⟨rfl, ((hS.pick (A := blkA g3 3 [.int .i64 v]) (by repeat constructor)).pick (A := wrA g4 _) (by repeat constructor))⟩
set_option maxHeartbeats 1000000 in
set_option maxRecDepth 100000 in
theorem wbody_1 {x : MsgV} (hx : x.Gd W) (hs : Snd x) (hk : x.kind = 1) (h8 : (wb8 6 x).length ≤ 1000000000) : Calls Try.prog 114 #[.agg x.cells.toArray] W fun e w' => ∃ A' c', e = .returned (.slice A' (wb8 6 x).length c') ∧ (wb8 6 x).length ≤ c' ∧ St W w' [rowA 5 1 A' (wb8 6 x).length c' ((wb8 6 x).map bv)] := by
 have hS := St.init W
 obtain ⟨l0, l1, l2, l3, l4, l5⟩ := wb_lens hx hs 6
 have q1 := hs.frm
 have q2 := hs.to
 have q3 := hs.ents
 have q4 := hx.term
 have q5 := hs.body
 have q6 := hx.client
 have q7 := hx.req
 have q8 := enc_ten (n := x.client.toNat) (by omega)
 have q9 := enc_ten (n := x.req.toNat) (by omega)
 have l6 : (wb6 6 x).length ≤ 81 + 542 * x.entries.l.length := by have := ents_len x.entries.l hx.eok hs.ebody; unfold wb6; rw [List.length_append]; omega
 have q10 := enc_ten (n := x.body.l.length) (by omega)
 have l7 : (wb7 6 x).length ≤ 600000 := by unfold wb7; split <;> (try simp only [List.length_append]) <;> omega
 refine calls_of_wpE (args := [_]) Try.func114 rfl rfl rfl ?_
 refine c_seq (c_region ?_)
 refine t_box (v := (.agg _)) rfl rfl hS (fun g1 w hS => ?_)
 replace hS := hS.recast (show _ = bmA g1 114 x from rfl)
 refine t_q (q_assign) ?_
 refine t_nil (c_seq (c_region ?_))
 refine t_q (q_fieldAddr 0 Try.runUnderlying114 rfl Try.sizeOf3 (by decide) rfl rfl) ?_
 refine t_q (q_cast (v' := .int .i64 1) (q_load1 Try.isAgg3 rfl (hS.cell (by repeat constructor) rfl)) (by rw [hk])) ?_
 refine t_call Try.call102 (fields_1) rfl ?_
 rintro e w ⟨rfl, hT⟩
 refine ⟨_, rfl, ?_⟩
 replace hS := hS.after hT
 refine t_alloc Try.zeroValue3 rfl hS (fun g3 w hS => ?_)
 refine t_store (v := (.int _ _)) Try.sizeOf3 hS (by repeat constructor) rfl rfl rfl rfl rfl rfl (fun w hS => ?_)
 replace hS := hS.recast (show _ = blkA g3 3 [.int .i64 6] from rfl)
 refine t_nil (c_seq (c_region ?_))
 refine t_alloc Try.zeroValue135 rfl hS (fun g4 w hS => ?_)
 replace hS := hS.wr0
 refine t_nil (c_seq (c_region ?_))
 refine t_q (q_fieldAddr 0 Try.runUnderlying114 rfl Try.sizeOf3 (by decide) rfl rfl) ?_
 refine t_q (q_load1 Try.isAgg3 rfl (hS.cell (by repeat constructor) rfl)) ?_
 first | refine t_q (q_conv_u64 Try.runUnderlying3 Try.runUnderlying43 rfl (by omega)) ?_ | refine t_q (q_convm_u64 Try.runUnderlying3 Try.runUnderlying43 rfl) ?_
 refine t_q (q_fieldAddr 1 Try.runUnderlying114 rfl Try.sizeOf3 (by decide) rfl rfl) ?_
 refine t_q (q_load1 Try.isAgg3 rfl (hS.cell (by repeat constructor) rfl)) ?_
 first | refine t_q (q_conv_u64 Try.runUnderlying3 Try.runUnderlying43 rfl (by omega)) ?_ | refine t_q (q_convm_u64 Try.runUnderlying3 Try.runUnderlying43 rfl) ?_
 refine t_q (q_fieldAddr 2 Try.runUnderlying114 rfl Try.sizeOf3 (by decide) rfl rfl) ?_
 refine t_q (q_load1 Try.isAgg3 rfl (hS.cell (by repeat constructor) rfl)) ?_
 first | refine t_q (q_conv_u64 Try.runUnderlying3 Try.runUnderlying43 rfl (by omega)) ?_ | refine t_q (q_convm_u64 Try.runUnderlying3 Try.runUnderlying43 rfl) ?_
 refine t_q (q_fieldAddr 3 Try.runUnderlying114 rfl Try.sizeOf43 (by decide) rfl rfl) ?_
 refine t_q (q_load1 Try.isAgg43 rfl (hS.cell (by repeat constructor) rfl)) ?_
 refine t_build_ints [_, _, _, _] Try.runUnderlying194 Try.sizeOf43 Try.zeroValue43 rfl rfl (by decide) hS (fun g22 w hS => ?_)
 refine t_call Try.call78 (Nat_calls (ns := [x.kind, x.frm, x.to, x.term]) hS (by repeat constructor) (fun _ h => h.rowInts (.here _ _) rfl) (by intro m hm; simp only [List.mem_cons, List.not_mem_nil, or_false] at hm; omega) (by simp) (by first | (simp; done) | omega | (rw [List.length_append]; omega))) rfl ?_
 rintro e w ⟨rfl, hS⟩
 refine ⟨_, rfl, ?_⟩
 replace hS := hS.swap.recast (congrArg (wrA g4) (show _ = wb0 x from by unfold encs; simp [wb0]))
 refine t_nil (c_seq (c_seq (c_region ?_)))
 refine t_q (q_load1 Try.isAgg3 rfl (hS.cell (by repeat constructor) rfl)) ?_
 refine t_q (q_cast (v' := .int .i64 0) (q_and rfl rfl) (by rfl)) ?_
 refine t_q (q_neq rfl rfl) ?_
 refine t_nil ?_
 refine c_cond_f rfl rfl ?_
 refine c_skip (c_seq ?_)
 replace hS := (hS.pick (A := wrA g4 _) (by repeat constructor)).recast (show _ = wrA g4 (wb1 6 x) from rfl)
 refine c_region ?_
 refine t_q (q_makeFunc rfl) ?_
 refine t_q (q_as (.func _ _ _) rfl) ?_
 refine t_nil (c_seq (c_region ?_))
 refine t_q (q_mv (.func _ _ _) rfl) ?_
 refine t_q (q_fieldAddr 4 Try.runUnderlying114 rfl Try.sizeOf43 (by decide) rfl rfl) ?_
 refine t_q (q_load1 Try.isAgg43 rfl (hS.cell (by repeat constructor) rfl)) ?_
 refine t_callv Try.call143 rfl (num_yes (v := 6) (m := 2) (n := x.index) (by decide) (((hS.pick (A := blkA g3 3 [.int .i64 6]) (by repeat constructor)).pick (A := wrA g4 _) (by repeat constructor))) hx.index (by omega)) rfl ?_
 rintro e w ⟨rfl, hS⟩
 refine ⟨_, rfl, ?_⟩
 replace hS := (hS.pick (A := wrA g4 _) (by repeat constructor)).recast (show _ = wrA g4 (wb2 6 x) from rfl)
 refine t_nil (c_seq (c_region ?_))
 refine t_q (q_mv (.func _ _ _) rfl) ?_
 refine t_q (q_fieldAddr 5 Try.runUnderlying114 rfl Try.sizeOf43 (by decide) rfl rfl) ?_
 refine t_q (q_load1 Try.isAgg43 rfl (hS.cell (by repeat constructor) rfl)) ?_
 refine t_callv Try.call143 rfl (num_yes (v := 6) (m := 4) (n := x.logTerm) (by decide) (((hS.pick (A := blkA g3 3 [.int .i64 6]) (by repeat constructor)).pick (A := wrA g4 _) (by repeat constructor))) hx.logTerm (by omega)) rfl ?_
 rintro e w ⟨rfl, hS⟩
 refine ⟨_, rfl, ?_⟩
 replace hS := (hS.pick (A := wrA g4 _) (by repeat constructor)).recast (show _ = wrA g4 (wb3 6 x) from rfl)
 refine t_nil (c_seq (c_region ?_))
 refine t_q (q_mv (.func _ _ _) rfl) ?_
 refine t_q (q_fieldAddr 6 Try.runUnderlying114 rfl Try.sizeOf43 (by decide) rfl rfl) ?_
 refine t_q (q_load1 Try.isAgg43 rfl (hS.cell (by repeat constructor) rfl)) ?_
 refine t_callv Try.call143 rfl (num_no (v := 6) (m := 8) (n := x.commit) (by decide) (((hS.pick (A := blkA g3 3 [.int .i64 6]) (by repeat constructor)).pick (A := wrA g4 _) (by repeat constructor))) hx.commit (by omega)) rfl ?_
 rintro e w ⟨rfl, hS⟩
 refine ⟨_, rfl, ?_⟩
 replace hS := (hS.pick (A := wrA g4 _) (by repeat constructor)).recast (show _ = wrA g4 (wb4 6 x) from rfl)
 refine t_nil (c_seq (c_region ?_))
 refine t_q (q_mv (.func _ _ _) rfl) ?_
 refine t_q (q_fieldAddr 8 Try.runUnderlying114 rfl Try.sizeOf111 (by decide) rfl rfl) ?_
 refine t_q (q_load1 Try.isAgg111 rfl (hS.cell (by repeat constructor) rfl)) ?_
 refine t_q (q_len_slice Try.runUnderlying111 rfl) ?_
 first | refine t_q (q_conv_u64 Try.runUnderlying3 Try.runUnderlying43 rfl (by omega)) ?_ | refine t_q (q_convm_u64 Try.runUnderlying3 Try.runUnderlying43 rfl) ?_
 refine t_callv Try.call143 rfl (num_no (v := 6) (m := 16) (n := (x.entries.l.length : Int)) (by decide) (((hS.pick (A := blkA g3 3 [.int .i64 6]) (by repeat constructor)).pick (A := wrA g4 _) (by repeat constructor))) (by omega) (by omega)) rfl ?_
 rintro e w ⟨rfl, hS⟩
 refine ⟨_, rfl, ?_⟩
 replace hS := (hS.pick (A := wrA g4 _) (by repeat constructor)).recast (show _ = wrA g4 (wb5 6 x) from rfl)
 refine t_nil (c_seq (c_seq (c_region ?_)))
 refine t_q (q_fieldAddr 8 Try.runUnderlying114 rfl Try.sizeOf111 (by decide) rfl rfl) ?_
 refine t_q (q_load1 Try.isAgg111 rfl (hS.cell (by repeat constructor) rfl)) ?_
 refine t_q (q_len_slice Try.runUnderlying111 rfl) ?_
 refine t_q (q_move) ?_
 refine t_nil (c_block ?_)
 refine c_loop [7, 52, 53, 54, 55, 56, 57, 58, 59, 60, 61, 62, 63, 64, 65, 66] (fun k σ w => ∃ j : Nat, σ 52 = .int .i64 (j : Int) ∧ j ≤ x.entries.l.length ∧ x.entries.l.length - j ≤ k ∧ St W w [wrA g4 (wb5 6 x ++ (x.entries.l.take j).flatMap entB), blkA g3 3 [.int .i64 6], bmA g1 114 x]) (x.entries.l.length) rfl (⟨0, rfl, by omega, by omega, by have h := ((((hS.pick (A := bmA g1 114 x) (by repeat constructor)).pick (A := blkA g3 3 [.int .i64 6]) (by repeat constructor)).pick (A := wrA g4 _) (by repeat constructor))).front3; exact h.recast (congrArg (wrA g4) (show _ = wb5 6 x ++ [] from (List.append_nil _).symm))⟩) ?_
 skip
 rintro k σ w ⟨j, h52, hj, hk2, hS⟩
 refine c_know 52 h52 ?_
 clear h52
 have lp : ((x.entries.l.take j).flatMap entB).length ≤ 542 * 32 := by
   have h := ents_len (x.entries.l.take j) (fun e he => hx.eok e (List.mem_of_mem_take he)) (fun e he => hs.ebody e (List.mem_of_mem_take he))
   rw [List.length_take] at h
   omega
 have lq : (wb5 6 x ++ (x.entries.l.take j).flatMap entB).length ≤ 81 + 542 * 32 := by rw [List.length_append]; omega
 refine c_seq (c_region ?_)
 refine t_q (q_lss rfl rfl) ?_
 refine t_nil (c_seq ?_)
 refine c_cond rfl ?_ ?_
 ·
  intro hc9
  have hc9d := of_decide_eq_true hc9
  refine c_skip (c_seq (c_block (c_seq (c_region ?_))))
  first | refine t_index_nat Try.runUnderlying111 Try.sizeOf169 (Rd.st hx.erd hS) rfl rfl (by omega) (fun ad10 hl10 hx10 => ?_) | refine t_index Try.runUnderlying111 Try.sizeOf169 (Rd.st hx.erd hS) rfl rfl (by omega) (fun ad10 hl10 hx10 => ?_)
  refine t_q (q_loadN Try.isAgg169 Try.sizeOf169 rfl hl10 hx10) ?_
  refine t_alloc Try.zeroValue169 rfl hS (fun g7 w hS => ?_)
  refine t_store (v := (.agg _)) Try.sizeOf169 hS (by repeat constructor) rfl rfl rfl rfl rfl rfl (fun w hS => ?_)
  obtain ⟨z, hz⟩ : ∃ z, z = (x.entries.l.getD j default) := ⟨_, rfl⟩
  replace hS := hS.recast (show blkA g7 169 _ = blkA g7 169 [.int .u64 z.index, .int .u64 z.term, .slice z.body.A z.body.l.length z.body.c] from by rw [hz]; rfl)
  have hzm : z ∈ x.entries.l := by rw [hz]; exact getD_mem (by omega)
  have hzg := hx.eok z hzm
  have hz5 := hs.ebody z hzm
  have hzi := hzg.index
  have hzt := hzg.term
  have qz1 := enc_ten (n := z.index.toNat) (by omega)
  have qz2 := enc_ten (n := z.term.toNat) (by omega)
  refine t_nil (c_seq (c_region ?_))
  refine t_q (q_fieldAddr 0 Try.runUnderlying169 rfl Try.sizeOf43 (by decide) rfl rfl) ?_
  refine t_q (q_load1 Try.isAgg43 rfl (hS.cell (by repeat constructor) rfl)) ?_
  refine t_q (q_fieldAddr 1 Try.runUnderlying169 rfl Try.sizeOf43 (by decide) rfl rfl) ?_
  refine t_q (q_load1 Try.isAgg43 rfl (hS.cell (by repeat constructor) rfl)) ?_
  refine t_build_ints [_, _] Try.runUnderlying194 Try.sizeOf43 Try.zeroValue43 rfl rfl (by decide) hS (fun g60 w hS => ?_)
  refine t_call Try.call78 (Nat_calls (ns := [z.index, z.term]) hS (by repeat constructor) (fun _ h => h.rowInts (.here _ _) rfl) (by intro m hm; simp only [List.mem_cons, List.not_mem_nil, or_false] at hm; omega) (by simp) (by first | (simp; done) | omega | (rw [List.length_append]; omega))) rfl ?_
  rintro e w ⟨rfl, hS⟩
  refine ⟨_, rfl, ?_⟩
  replace hS := hS.swap.recast (congrArg (wrA g4) (show _ = (wb5 6 x ++ (x.entries.l.take j).flatMap entB) ++ (enc z.index.toNat ++ enc z.term.toNat) from by unfold encs; simp [wb0]))
  refine t_nil (c_region ?_)
  refine t_q (q_fieldAddr 2 Try.runUnderlying169 rfl Try.sizeOf25 (by decide) rfl rfl) ?_
  refine t_q (q_load1 Try.isAgg25 rfl (hS.cell (by repeat constructor) rfl)) ?_
  refine t_q (q_string Try.runUnderlying25 Try.runUnderlying5 Try.runUnderlying9 rfl rfl (Rd.st hzg.rd hS)) ?_
  refine t_call Try.call70 (Text_calls (s := ⟨z.body.l.toArray⟩) hS (by repeat constructor) (by show z.body.l.toArray.size ≤ _; rw [List.size_toArray]; omega) (by simp only [List.length_append]; omega)) rfl ?_
  rintro e w ⟨rfl, hS⟩
  refine ⟨_, rfl, ?_⟩
  refine t_nil (c_region ?_)
  refine t_q (q_add_i64 rfl rfl (by omega)) ?_
  refine t_q (q_mv (.int _ _) rfl) ?_
  refine t_nil ?_
  exact ⟨k - 1, by omega, j + 1, rfl, by omega, by omega, by have h := ((((hS.pick (A := bmA g1 114 x) (by repeat constructor)).pick (A := blkA g3 3 [.int .i64 6]) (by repeat constructor)).pick (A := wrA g4 _) (by repeat constructor))).front3; exact h.recast (congrArg (wrA g4) (by rw [entB_take (by omega), ← hz]; show _ ++ enc z.body.l.toArray.size ++ z.body.l.toArray.toList = _; simp [entB]))⟩
 ·
  intro hc9
  have hc9d := of_decide_eq_false hc9
  obtain rfl : j = x.entries.l.length := by omega
  replace hS := (hS.pick (A := wrA g4 _) (by repeat constructor)).recast (show _ = wrA g4 (wb6 6 x) from congrArg (wrA g4) (by rw [List.take_length]; rfl))
  refine c_exit ?_
  refine ite_t rfl ?_
  refine c_seq (c_seq (c_region ?_))
  refine t_q (q_load1 Try.isAgg3 rfl (hS.cell (by repeat constructor) rfl)) ?_
  refine t_q (q_cast (v' := .int .i64 0) (q_and rfl rfl) (by rfl)) ?_
  refine t_q (q_neq rfl rfl) ?_
  refine t_nil ?_
  refine c_cond_f rfl rfl ?_
  refine c_skip (c_seq (c_seq ?_))
  replace hS := (hS.pick (A := wrA g4 _) (by repeat constructor)).recast (show _ = wrA g4 (wb7 6 x) from rfl)
  refine c_region ?_
  refine t_q (q_load1 Try.isAgg3 rfl (hS.cell (by repeat constructor) rfl)) ?_
  refine t_q (q_cast (v' := .int .i64 0) (q_and rfl rfl) (by rfl)) ?_
  refine t_q (q_neq rfl rfl) ?_
  refine t_nil ?_
  refine c_cond_f rfl rfl ?_
  refine c_skip (c_seq ?_)
  replace hS := (hS.pick (A := wrA g4 _) (by repeat constructor)).recast (show _ = wrA g4 (wb8 6 x) from rfl)
  refine c_region ?_
  refine t_call Try.call72 (Bytes_calls hS (by repeat constructor) (by omega)) rfl ?_
  rintro e w ⟨A86, c86, rfl, hc86, hS⟩
  refine ⟨_, rfl, ?_⟩
  refine t_q (q_as (.slice _ _ _) rfl) ?_
  refine t_nil (c_ret ?_)
  refine r_one rfl rfl ?_
  exact ⟨A86, c86, rfl, hc86, (hS.pick (A := rowA 5 1 A86 _ c86 _) (by repeat constructor)).front1⟩
set_option maxHeartbeats 1000000 in
set_option maxRecDepth 100000 in
theorem wbody_2 {x : MsgV} (hx : x.Gd W) (hs : Snd x) (hk : x.kind = 2) (h8 : (wb8 1 x).length ≤ 1000000000) : Calls Try.prog 114 #[.agg x.cells.toArray] W fun e w' => ∃ A' c', e = .returned (.slice A' (wb8 1 x).length c') ∧ (wb8 1 x).length ≤ c' ∧ St W w' [rowA 5 1 A' (wb8 1 x).length c' ((wb8 1 x).map bv)] := by
 have hS := St.init W
 obtain ⟨l0, l1, l2, l3, l4, l5⟩ := wb_lens hx hs 1
 have q1 := hs.frm
 have q2 := hs.to
 have q3 := hs.ents
 have q4 := hx.term
 have q5 := hs.body
 have q6 := hx.client
 have q7 := hx.req
 have q8 := enc_ten (n := x.client.toNat) (by omega)
 have q9 := enc_ten (n := x.req.toNat) (by omega)
 have l6 : (wb6 1 x).length ≤ 81 + 542 * x.entries.l.length := by have := ents_len x.entries.l hx.eok hs.ebody; unfold wb6; rw [List.length_append]; omega
 have q10 := enc_ten (n := x.body.l.length) (by omega)
 have l7 : (wb7 1 x).length ≤ 600000 := by unfold wb7; split <;> (try simp only [List.length_append]) <;> omega
 refine calls_of_wpE (args := [_]) Try.func114 rfl rfl rfl ?_
 refine c_seq (c_region ?_)
 refine t_box (v := (.agg _)) rfl rfl hS (fun g1 w hS => ?_)
 replace hS := hS.recast (show _ = bmA g1 114 x from rfl)
 refine t_q (q_assign) ?_
 refine t_nil (c_seq (c_region ?_))
 refine t_q (q_fieldAddr 0 Try.runUnderlying114 rfl Try.sizeOf3 (by decide) rfl rfl) ?_
 refine t_q (q_cast (v' := .int .i64 2) (q_load1 Try.isAgg3 rfl (hS.cell (by repeat constructor) rfl)) (by rw [hk])) ?_
 refine t_call Try.call102 (fields_2) rfl ?_
 rintro e w ⟨rfl, hT⟩
 refine ⟨_, rfl, ?_⟩
 replace hS := hS.after hT
 refine t_alloc Try.zeroValue3 rfl hS (fun g3 w hS => ?_)
 refine t_store (v := (.int _ _)) Try.sizeOf3 hS (by repeat constructor) rfl rfl rfl rfl rfl rfl (fun w hS => ?_)
 replace hS := hS.recast (show _ = blkA g3 3 [.int .i64 1] from rfl)
 refine t_nil (c_seq (c_region ?_))
 refine t_alloc Try.zeroValue135 rfl hS (fun g4 w hS => ?_)
 replace hS := hS.wr0
 refine t_nil (c_seq (c_region ?_))
 refine t_q (q_fieldAddr 0 Try.runUnderlying114 rfl Try.sizeOf3 (by decide) rfl rfl) ?_
 refine t_q (q_load1 Try.isAgg3 rfl (hS.cell (by repeat constructor) rfl)) ?_
 first | refine t_q (q_conv_u64 Try.runUnderlying3 Try.runUnderlying43 rfl (by omega)) ?_ | refine t_q (q_convm_u64 Try.runUnderlying3 Try.runUnderlying43 rfl) ?_
 refine t_q (q_fieldAddr 1 Try.runUnderlying114 rfl Try.sizeOf3 (by decide) rfl rfl) ?_
 refine t_q (q_load1 Try.isAgg3 rfl (hS.cell (by repeat constructor) rfl)) ?_
 first | refine t_q (q_conv_u64 Try.runUnderlying3 Try.runUnderlying43 rfl (by omega)) ?_ | refine t_q (q_convm_u64 Try.runUnderlying3 Try.runUnderlying43 rfl) ?_
 refine t_q (q_fieldAddr 2 Try.runUnderlying114 rfl Try.sizeOf3 (by decide) rfl rfl) ?_
 refine t_q (q_load1 Try.isAgg3 rfl (hS.cell (by repeat constructor) rfl)) ?_
 first | refine t_q (q_conv_u64 Try.runUnderlying3 Try.runUnderlying43 rfl (by omega)) ?_ | refine t_q (q_convm_u64 Try.runUnderlying3 Try.runUnderlying43 rfl) ?_
 refine t_q (q_fieldAddr 3 Try.runUnderlying114 rfl Try.sizeOf43 (by decide) rfl rfl) ?_
 refine t_q (q_load1 Try.isAgg43 rfl (hS.cell (by repeat constructor) rfl)) ?_
 refine t_build_ints [_, _, _, _] Try.runUnderlying194 Try.sizeOf43 Try.zeroValue43 rfl rfl (by decide) hS (fun g22 w hS => ?_)
 refine t_call Try.call78 (Nat_calls (ns := [x.kind, x.frm, x.to, x.term]) hS (by repeat constructor) (fun _ h => h.rowInts (.here _ _) rfl) (by intro m hm; simp only [List.mem_cons, List.not_mem_nil, or_false] at hm; omega) (by simp) (by first | (simp; done) | omega | (rw [List.length_append]; omega))) rfl ?_
 rintro e w ⟨rfl, hS⟩
 refine ⟨_, rfl, ?_⟩
 replace hS := hS.swap.recast (congrArg (wrA g4) (show _ = wb0 x from by unfold encs; simp [wb0]))
 refine t_nil (c_seq (c_seq (c_region ?_)))
 refine t_q (q_load1 Try.isAgg3 rfl (hS.cell (by repeat constructor) rfl)) ?_
 refine t_q (q_cast (v' := .int .i64 1) (q_and rfl rfl) (by rfl)) ?_
 refine t_q (q_neq rfl rfl) ?_
 refine t_nil ?_
 refine c_cond_t rfl rfl ?_
 refine c_region ?_
 refine t_q (q_fieldAddr 7 Try.runUnderlying114 rfl Try.sizeOf4 (by decide) rfl rfl) ?_
 refine t_q (q_load1 Try.isAgg4 rfl (hS.cell (by repeat constructor) rfl)) ?_
 refine t_call Try.call142 (Flag_calls hS (by repeat constructor) (by omega)) rfl ?_
 rintro e w ⟨rfl, hS⟩
 refine ⟨_, rfl, ?_⟩
 refine t_nil (c_seq ?_)
 replace hS := (hS.pick (A := wrA g4 _) (by repeat constructor)).recast (show _ = wrA g4 (wb1 1 x) from rfl)
 refine c_region ?_
 refine t_q (q_makeFunc rfl) ?_
 refine t_q (q_as (.func _ _ _) rfl) ?_
 refine t_nil (c_seq (c_region ?_))
 refine t_q (q_mv (.func _ _ _) rfl) ?_
 refine t_q (q_fieldAddr 4 Try.runUnderlying114 rfl Try.sizeOf43 (by decide) rfl rfl) ?_
 refine t_q (q_load1 Try.isAgg43 rfl (hS.cell (by repeat constructor) rfl)) ?_
 refine t_callv Try.call143 rfl (num_no (v := 1) (m := 2) (n := x.index) (by decide) (((hS.pick (A := blkA g3 3 [.int .i64 1]) (by repeat constructor)).pick (A := wrA g4 _) (by repeat constructor))) hx.index (by omega)) rfl ?_
 rintro e w ⟨rfl, hS⟩
 refine ⟨_, rfl, ?_⟩
 replace hS := (hS.pick (A := wrA g4 _) (by repeat constructor)).recast (show _ = wrA g4 (wb2 1 x) from rfl)
 refine t_nil (c_seq (c_region ?_))
 refine t_q (q_mv (.func _ _ _) rfl) ?_
 refine t_q (q_fieldAddr 5 Try.runUnderlying114 rfl Try.sizeOf43 (by decide) rfl rfl) ?_
 refine t_q (q_load1 Try.isAgg43 rfl (hS.cell (by repeat constructor) rfl)) ?_
 refine t_callv Try.call143 rfl (num_no (v := 1) (m := 4) (n := x.logTerm) (by decide) (((hS.pick (A := blkA g3 3 [.int .i64 1]) (by repeat constructor)).pick (A := wrA g4 _) (by repeat constructor))) hx.logTerm (by omega)) rfl ?_
 rintro e w ⟨rfl, hS⟩
 refine ⟨_, rfl, ?_⟩
 replace hS := (hS.pick (A := wrA g4 _) (by repeat constructor)).recast (show _ = wrA g4 (wb3 1 x) from rfl)
 refine t_nil (c_seq (c_region ?_))
 refine t_q (q_mv (.func _ _ _) rfl) ?_
 refine t_q (q_fieldAddr 6 Try.runUnderlying114 rfl Try.sizeOf43 (by decide) rfl rfl) ?_
 refine t_q (q_load1 Try.isAgg43 rfl (hS.cell (by repeat constructor) rfl)) ?_
 refine t_callv Try.call143 rfl (num_no (v := 1) (m := 8) (n := x.commit) (by decide) (((hS.pick (A := blkA g3 3 [.int .i64 1]) (by repeat constructor)).pick (A := wrA g4 _) (by repeat constructor))) hx.commit (by omega)) rfl ?_
 rintro e w ⟨rfl, hS⟩
 refine ⟨_, rfl, ?_⟩
 replace hS := (hS.pick (A := wrA g4 _) (by repeat constructor)).recast (show _ = wrA g4 (wb4 1 x) from rfl)
 refine t_nil (c_seq (c_region ?_))
 refine t_q (q_mv (.func _ _ _) rfl) ?_
 refine t_q (q_fieldAddr 8 Try.runUnderlying114 rfl Try.sizeOf111 (by decide) rfl rfl) ?_
 refine t_q (q_load1 Try.isAgg111 rfl (hS.cell (by repeat constructor) rfl)) ?_
 refine t_q (q_len_slice Try.runUnderlying111 rfl) ?_
 first | refine t_q (q_conv_u64 Try.runUnderlying3 Try.runUnderlying43 rfl (by omega)) ?_ | refine t_q (q_convm_u64 Try.runUnderlying3 Try.runUnderlying43 rfl) ?_
 refine t_callv Try.call143 rfl (num_no (v := 1) (m := 16) (n := (x.entries.l.length : Int)) (by decide) (((hS.pick (A := blkA g3 3 [.int .i64 1]) (by repeat constructor)).pick (A := wrA g4 _) (by repeat constructor))) (by omega) (by omega)) rfl ?_
 rintro e w ⟨rfl, hS⟩
 refine ⟨_, rfl, ?_⟩
 replace hS := (hS.pick (A := wrA g4 _) (by repeat constructor)).recast (show _ = wrA g4 (wb5 1 x) from rfl)
 refine t_nil (c_seq (c_seq (c_region ?_)))
 refine t_q (q_fieldAddr 8 Try.runUnderlying114 rfl Try.sizeOf111 (by decide) rfl rfl) ?_
 refine t_q (q_load1 Try.isAgg111 rfl (hS.cell (by repeat constructor) rfl)) ?_
 refine t_q (q_len_slice Try.runUnderlying111 rfl) ?_
 refine t_q (q_move) ?_
 refine t_nil (c_block ?_)
 refine c_loop [7, 52, 53, 54, 55, 56, 57, 58, 59, 60, 61, 62, 63, 64, 65, 66] (fun k σ w => ∃ j : Nat, σ 52 = .int .i64 (j : Int) ∧ j ≤ x.entries.l.length ∧ x.entries.l.length - j ≤ k ∧ St W w [wrA g4 (wb5 1 x ++ (x.entries.l.take j).flatMap entB), blkA g3 3 [.int .i64 1], bmA g1 114 x]) (x.entries.l.length) rfl (⟨0, rfl, by omega, by omega, by have h := ((((hS.pick (A := bmA g1 114 x) (by repeat constructor)).pick (A := blkA g3 3 [.int .i64 1]) (by repeat constructor)).pick (A := wrA g4 _) (by repeat constructor))).front3; exact h.recast (congrArg (wrA g4) (show _ = wb5 1 x ++ [] from (List.append_nil _).symm))⟩) ?_
 skip
 rintro k σ w ⟨j, h52, hj, hk2, hS⟩
 refine c_know 52 h52 ?_
 clear h52
 have lp : ((x.entries.l.take j).flatMap entB).length ≤ 542 * 32 := by
   have h := ents_len (x.entries.l.take j) (fun e he => hx.eok e (List.mem_of_mem_take he)) (fun e he => hs.ebody e (List.mem_of_mem_take he))
   rw [List.length_take] at h
   omega
 have lq : (wb5 1 x ++ (x.entries.l.take j).flatMap entB).length ≤ 81 + 542 * 32 := by rw [List.length_append]; omega
 refine c_seq (c_region ?_)
 refine t_q (q_lss rfl rfl) ?_
 refine t_nil (c_seq ?_)
 refine c_cond rfl ?_ ?_
 ·
  intro hc11
  have hc11d := of_decide_eq_true hc11
  refine c_skip (c_seq (c_block (c_seq (c_region ?_))))
  first | refine t_index_nat Try.runUnderlying111 Try.sizeOf169 (Rd.st hx.erd hS) rfl rfl (by omega) (fun ad12 hl12 hx12 => ?_) | refine t_index Try.runUnderlying111 Try.sizeOf169 (Rd.st hx.erd hS) rfl rfl (by omega) (fun ad12 hl12 hx12 => ?_)
  refine t_q (q_loadN Try.isAgg169 Try.sizeOf169 rfl hl12 hx12) ?_
  refine t_alloc Try.zeroValue169 rfl hS (fun g7 w hS => ?_)
  refine t_store (v := (.agg _)) Try.sizeOf169 hS (by repeat constructor) rfl rfl rfl rfl rfl rfl (fun w hS => ?_)
  obtain ⟨z, hz⟩ : ∃ z, z = (x.entries.l.getD j default) := ⟨_, rfl⟩
  replace hS := hS.recast (show blkA g7 169 _ = blkA g7 169 [.int .u64 z.index, .int .u64 z.term, .slice z.body.A z.body.l.length z.body.c] from by rw [hz]; rfl)
  have hzm : z ∈ x.entries.l := by rw [hz]; exact getD_mem (by omega)
  have hzg := hx.eok z hzm
  have hz5 := hs.ebody z hzm
  have hzi := hzg.index
  have hzt := hzg.term
  have qz1 := enc_ten (n := z.index.toNat) (by omega)
  have qz2 := enc_ten (n := z.term.toNat) (by omega)
  refine t_nil (c_seq (c_region ?_))
  refine t_q (q_fieldAddr 0 Try.runUnderlying169 rfl Try.sizeOf43 (by decide) rfl rfl) ?_
  refine t_q (q_load1 Try.isAgg43 rfl (hS.cell (by repeat constructor) rfl)) ?_
  refine t_q (q_fieldAddr 1 Try.runUnderlying169 rfl Try.sizeOf43 (by decide) rfl rfl) ?_
  refine t_q (q_load1 Try.isAgg43 rfl (hS.cell (by repeat constructor) rfl)) ?_
  refine t_build_ints [_, _] Try.runUnderlying194 Try.sizeOf43 Try.zeroValue43 rfl rfl (by decide) hS (fun g60 w hS => ?_)
  refine t_call Try.call78 (Nat_calls (ns := [z.index, z.term]) hS (by repeat constructor) (fun _ h => h.rowInts (.here _ _) rfl) (by intro m hm; simp only [List.mem_cons, List.not_mem_nil, or_false] at hm; omega) (by simp) (by first | (simp; done) | omega | (rw [List.length_append]; omega))) rfl ?_
  rintro e w ⟨rfl, hS⟩
  refine ⟨_, rfl, ?_⟩
  replace hS := hS.swap.recast (congrArg (wrA g4) (show _ = (wb5 1 x ++ (x.entries.l.take j).flatMap entB) ++ (enc z.index.toNat ++ enc z.term.toNat) from by unfold encs; simp [wb0]))
  refine t_nil (c_region ?_)
  refine t_q (q_fieldAddr 2 Try.runUnderlying169 rfl Try.sizeOf25 (by decide) rfl rfl) ?_
  refine t_q (q_load1 Try.isAgg25 rfl (hS.cell (by repeat constructor) rfl)) ?_
  refine t_q (q_string Try.runUnderlying25 Try.runUnderlying5 Try.runUnderlying9 rfl rfl (Rd.st hzg.rd hS)) ?_
  refine t_call Try.call70 (Text_calls (s := ⟨z.body.l.toArray⟩) hS (by repeat constructor) (by show z.body.l.toArray.size ≤ _; rw [List.size_toArray]; omega) (by simp only [List.length_append]; omega)) rfl ?_
  rintro e w ⟨rfl, hS⟩
  refine ⟨_, rfl, ?_⟩
  refine t_nil (c_region ?_)
  refine t_q (q_add_i64 rfl rfl (by omega)) ?_
  refine t_q (q_mv (.int _ _) rfl) ?_
  refine t_nil ?_
  exact ⟨k - 1, by omega, j + 1, rfl, by omega, by omega, by have h := ((((hS.pick (A := bmA g1 114 x) (by repeat constructor)).pick (A := blkA g3 3 [.int .i64 1]) (by repeat constructor)).pick (A := wrA g4 _) (by repeat constructor))).front3; exact h.recast (congrArg (wrA g4) (by rw [entB_take (by omega), ← hz]; show _ ++ enc z.body.l.toArray.size ++ z.body.l.toArray.toList = _; simp [entB]))⟩
 ·
  intro hc11
  have hc11d := of_decide_eq_false hc11
  obtain rfl : j = x.entries.l.length := by omega
  replace hS := (hS.pick (A := wrA g4 _) (by repeat constructor)).recast (show _ = wrA g4 (wb6 1 x) from congrArg (wrA g4) (by rw [List.take_length]; rfl))
  refine c_exit ?_
  refine ite_t rfl ?_
  refine c_seq (c_seq (c_region ?_))
  refine t_q (q_load1 Try.isAgg3 rfl (hS.cell (by repeat constructor) rfl)) ?_
  refine t_q (q_cast (v' := .int .i64 0) (q_and rfl rfl) (by rfl)) ?_
  refine t_q (q_neq rfl rfl) ?_
  refine t_nil ?_
  refine c_cond_f rfl rfl ?_
  refine c_skip (c_seq (c_seq ?_))
  replace hS := (hS.pick (A := wrA g4 _) (by repeat constructor)).recast (show _ = wrA g4 (wb7 1 x) from rfl)
  refine c_region ?_
  refine t_q (q_load1 Try.isAgg3 rfl (hS.cell (by repeat constructor) rfl)) ?_
  refine t_q (q_cast (v' := .int .i64 0) (q_and rfl rfl) (by rfl)) ?_
  refine t_q (q_neq rfl rfl) ?_
  refine t_nil ?_
  refine c_cond_f rfl rfl ?_
  refine c_skip (c_seq ?_)
  replace hS := (hS.pick (A := wrA g4 _) (by repeat constructor)).recast (show _ = wrA g4 (wb8 1 x) from rfl)
  refine c_region ?_
  refine t_call Try.call72 (Bytes_calls hS (by repeat constructor) (by omega)) rfl ?_
  rintro e w ⟨A86, c86, rfl, hc86, hS⟩
  refine ⟨_, rfl, ?_⟩
  refine t_q (q_as (.slice _ _ _) rfl) ?_
  refine t_nil (c_ret ?_)
  refine r_one rfl rfl ?_
  exact ⟨A86, c86, rfl, hc86, (hS.pick (A := rowA 5 1 A86 _ c86 _) (by repeat constructor)).front1⟩
set_option maxHeartbeats 1000000 in
set_option maxRecDepth 100000 in
theorem wbody_3 {x : MsgV} (hx : x.Gd W) (hs : Snd x) (hk : x.kind = 3) (h8 : (wb8 30 x).length ≤ 1000000000) : Calls Try.prog 114 #[.agg x.cells.toArray] W fun e w' => ∃ A' c', e = .returned (.slice A' (wb8 30 x).length c') ∧ (wb8 30 x).length ≤ c' ∧ St W w' [rowA 5 1 A' (wb8 30 x).length c' ((wb8 30 x).map bv)] := by
 have hS := St.init W
 obtain ⟨l0, l1, l2, l3, l4, l5⟩ := wb_lens hx hs 30
 have q1 := hs.frm
 have q2 := hs.to
 have q3 := hs.ents
 have q4 := hx.term
 have q5 := hs.body
 have q6 := hx.client
 have q7 := hx.req
 have q8 := enc_ten (n := x.client.toNat) (by omega)
 have q9 := enc_ten (n := x.req.toNat) (by omega)
 have l6 : (wb6 30 x).length ≤ 81 + 542 * x.entries.l.length := by have := ents_len x.entries.l hx.eok hs.ebody; unfold wb6; rw [List.length_append]; omega
 have q10 := enc_ten (n := x.body.l.length) (by omega)
 have l7 : (wb7 30 x).length ≤ 600000 := by unfold wb7; split <;> (try simp only [List.length_append]) <;> omega
 refine calls_of_wpE (args := [_]) Try.func114 rfl rfl rfl ?_
 refine c_seq (c_region ?_)
 refine t_box (v := (.agg _)) rfl rfl hS (fun g1 w hS => ?_)
 replace hS := hS.recast (show _ = bmA g1 114 x from rfl)
 refine t_q (q_assign) ?_
 refine t_nil (c_seq (c_region ?_))
 refine t_q (q_fieldAddr 0 Try.runUnderlying114 rfl Try.sizeOf3 (by decide) rfl rfl) ?_
 refine t_q (q_cast (v' := .int .i64 3) (q_load1 Try.isAgg3 rfl (hS.cell (by repeat constructor) rfl)) (by rw [hk])) ?_
 refine t_call Try.call102 (fields_3) rfl ?_
 rintro e w ⟨rfl, hT⟩
 refine ⟨_, rfl, ?_⟩
 replace hS := hS.after hT
 refine t_alloc Try.zeroValue3 rfl hS (fun g3 w hS => ?_)
 refine t_store (v := (.int _ _)) Try.sizeOf3 hS (by repeat constructor) rfl rfl rfl rfl rfl rfl (fun w hS => ?_)
 replace hS := hS.recast (show _ = blkA g3 3 [.int .i64 30] from rfl)
 refine t_nil (c_seq (c_region ?_))
 refine t_alloc Try.zeroValue135 rfl hS (fun g4 w hS => ?_)
 replace hS := hS.wr0
 refine t_nil (c_seq (c_region ?_))
 refine t_q (q_fieldAddr 0 Try.runUnderlying114 rfl Try.sizeOf3 (by decide) rfl rfl) ?_
 refine t_q (q_load1 Try.isAgg3 rfl (hS.cell (by repeat constructor) rfl)) ?_
 first | refine t_q (q_conv_u64 Try.runUnderlying3 Try.runUnderlying43 rfl (by omega)) ?_ | refine t_q (q_convm_u64 Try.runUnderlying3 Try.runUnderlying43 rfl) ?_
 refine t_q (q_fieldAddr 1 Try.runUnderlying114 rfl Try.sizeOf3 (by decide) rfl rfl) ?_
 refine t_q (q_load1 Try.isAgg3 rfl (hS.cell (by repeat constructor) rfl)) ?_
 first | refine t_q (q_conv_u64 Try.runUnderlying3 Try.runUnderlying43 rfl (by omega)) ?_ | refine t_q (q_convm_u64 Try.runUnderlying3 Try.runUnderlying43 rfl) ?_
 refine t_q (q_fieldAddr 2 Try.runUnderlying114 rfl Try.sizeOf3 (by decide) rfl rfl) ?_
 refine t_q (q_load1 Try.isAgg3 rfl (hS.cell (by repeat constructor) rfl)) ?_
 first | refine t_q (q_conv_u64 Try.runUnderlying3 Try.runUnderlying43 rfl (by omega)) ?_ | refine t_q (q_convm_u64 Try.runUnderlying3 Try.runUnderlying43 rfl) ?_
 refine t_q (q_fieldAddr 3 Try.runUnderlying114 rfl Try.sizeOf43 (by decide) rfl rfl) ?_
 refine t_q (q_load1 Try.isAgg43 rfl (hS.cell (by repeat constructor) rfl)) ?_
 refine t_build_ints [_, _, _, _] Try.runUnderlying194 Try.sizeOf43 Try.zeroValue43 rfl rfl (by decide) hS (fun g22 w hS => ?_)
 refine t_call Try.call78 (Nat_calls (ns := [x.kind, x.frm, x.to, x.term]) hS (by repeat constructor) (fun _ h => h.rowInts (.here _ _) rfl) (by intro m hm; simp only [List.mem_cons, List.not_mem_nil, or_false] at hm; omega) (by simp) (by first | (simp; done) | omega | (rw [List.length_append]; omega))) rfl ?_
 rintro e w ⟨rfl, hS⟩
 refine ⟨_, rfl, ?_⟩
 replace hS := hS.swap.recast (congrArg (wrA g4) (show _ = wb0 x from by unfold encs; simp [wb0]))
 refine t_nil (c_seq (c_seq (c_region ?_)))
 refine t_q (q_load1 Try.isAgg3 rfl (hS.cell (by repeat constructor) rfl)) ?_
 refine t_q (q_cast (v' := .int .i64 0) (q_and rfl rfl) (by rfl)) ?_
 refine t_q (q_neq rfl rfl) ?_
 refine t_nil ?_
 refine c_cond_f rfl rfl ?_
 refine c_skip (c_seq ?_)
 replace hS := (hS.pick (A := wrA g4 _) (by repeat constructor)).recast (show _ = wrA g4 (wb1 30 x) from rfl)
 refine c_region ?_
 refine t_q (q_makeFunc rfl) ?_
 refine t_q (q_as (.func _ _ _) rfl) ?_
 refine t_nil (c_seq (c_region ?_))
 refine t_q (q_mv (.func _ _ _) rfl) ?_
 refine t_q (q_fieldAddr 4 Try.runUnderlying114 rfl Try.sizeOf43 (by decide) rfl rfl) ?_
 refine t_q (q_load1 Try.isAgg43 rfl (hS.cell (by repeat constructor) rfl)) ?_
 refine t_callv Try.call143 rfl (num_yes (v := 30) (m := 2) (n := x.index) (by decide) (((hS.pick (A := blkA g3 3 [.int .i64 30]) (by repeat constructor)).pick (A := wrA g4 _) (by repeat constructor))) hx.index (by omega)) rfl ?_
 rintro e w ⟨rfl, hS⟩
 refine ⟨_, rfl, ?_⟩
 replace hS := (hS.pick (A := wrA g4 _) (by repeat constructor)).recast (show _ = wrA g4 (wb2 30 x) from rfl)
 refine t_nil (c_seq (c_region ?_))
 refine t_q (q_mv (.func _ _ _) rfl) ?_
 refine t_q (q_fieldAddr 5 Try.runUnderlying114 rfl Try.sizeOf43 (by decide) rfl rfl) ?_
 refine t_q (q_load1 Try.isAgg43 rfl (hS.cell (by repeat constructor) rfl)) ?_
 refine t_callv Try.call143 rfl (num_yes (v := 30) (m := 4) (n := x.logTerm) (by decide) (((hS.pick (A := blkA g3 3 [.int .i64 30]) (by repeat constructor)).pick (A := wrA g4 _) (by repeat constructor))) hx.logTerm (by omega)) rfl ?_
 rintro e w ⟨rfl, hS⟩
 refine ⟨_, rfl, ?_⟩
 replace hS := (hS.pick (A := wrA g4 _) (by repeat constructor)).recast (show _ = wrA g4 (wb3 30 x) from rfl)
 refine t_nil (c_seq (c_region ?_))
 refine t_q (q_mv (.func _ _ _) rfl) ?_
 refine t_q (q_fieldAddr 6 Try.runUnderlying114 rfl Try.sizeOf43 (by decide) rfl rfl) ?_
 refine t_q (q_load1 Try.isAgg43 rfl (hS.cell (by repeat constructor) rfl)) ?_
 refine t_callv Try.call143 rfl (num_yes (v := 30) (m := 8) (n := x.commit) (by decide) (((hS.pick (A := blkA g3 3 [.int .i64 30]) (by repeat constructor)).pick (A := wrA g4 _) (by repeat constructor))) hx.commit (by omega)) rfl ?_
 rintro e w ⟨rfl, hS⟩
 refine ⟨_, rfl, ?_⟩
 replace hS := (hS.pick (A := wrA g4 _) (by repeat constructor)).recast (show _ = wrA g4 (wb4 30 x) from rfl)
 refine t_nil (c_seq (c_region ?_))
 refine t_q (q_mv (.func _ _ _) rfl) ?_
 refine t_q (q_fieldAddr 8 Try.runUnderlying114 rfl Try.sizeOf111 (by decide) rfl rfl) ?_
 refine t_q (q_load1 Try.isAgg111 rfl (hS.cell (by repeat constructor) rfl)) ?_
 refine t_q (q_len_slice Try.runUnderlying111 rfl) ?_
 first | refine t_q (q_conv_u64 Try.runUnderlying3 Try.runUnderlying43 rfl (by omega)) ?_ | refine t_q (q_convm_u64 Try.runUnderlying3 Try.runUnderlying43 rfl) ?_
 refine t_callv Try.call143 rfl (num_yes (v := 30) (m := 16) (n := (x.entries.l.length : Int)) (by decide) (((hS.pick (A := blkA g3 3 [.int .i64 30]) (by repeat constructor)).pick (A := wrA g4 _) (by repeat constructor))) (by omega) (by omega)) rfl ?_
 rintro e w ⟨rfl, hS⟩
 refine ⟨_, rfl, ?_⟩
 replace hS := (hS.pick (A := wrA g4 _) (by repeat constructor)).recast (show _ = wrA g4 (wb5 30 x) from rfl)
 refine t_nil (c_seq (c_seq (c_region ?_)))
 refine t_q (q_fieldAddr 8 Try.runUnderlying114 rfl Try.sizeOf111 (by decide) rfl rfl) ?_
 refine t_q (q_load1 Try.isAgg111 rfl (hS.cell (by repeat constructor) rfl)) ?_
 refine t_q (q_len_slice Try.runUnderlying111 rfl) ?_
 refine t_q (q_move) ?_
 refine t_nil (c_block ?_)
 refine c_loop [7, 52, 53, 54, 55, 56, 57, 58, 59, 60, 61, 62, 63, 64, 65, 66] (fun k σ w => ∃ j : Nat, σ 52 = .int .i64 (j : Int) ∧ j ≤ x.entries.l.length ∧ x.entries.l.length - j ≤ k ∧ St W w [wrA g4 (wb5 30 x ++ (x.entries.l.take j).flatMap entB), blkA g3 3 [.int .i64 30], bmA g1 114 x]) (x.entries.l.length) rfl (⟨0, rfl, by omega, by omega, by have h := ((((hS.pick (A := bmA g1 114 x) (by repeat constructor)).pick (A := blkA g3 3 [.int .i64 30]) (by repeat constructor)).pick (A := wrA g4 _) (by repeat constructor))).front3; exact h.recast (congrArg (wrA g4) (show _ = wb5 30 x ++ [] from (List.append_nil _).symm))⟩) ?_
 skip
 rintro k σ w ⟨j, h52, hj, hk2, hS⟩
 refine c_know 52 h52 ?_
 clear h52
 have lp : ((x.entries.l.take j).flatMap entB).length ≤ 542 * 32 := by
   have h := ents_len (x.entries.l.take j) (fun e he => hx.eok e (List.mem_of_mem_take he)) (fun e he => hs.ebody e (List.mem_of_mem_take he))
   rw [List.length_take] at h
   omega
 have lq : (wb5 30 x ++ (x.entries.l.take j).flatMap entB).length ≤ 81 + 542 * 32 := by rw [List.length_append]; omega
 refine c_seq (c_region ?_)
 refine t_q (q_lss rfl rfl) ?_
 refine t_nil (c_seq ?_)
 refine c_cond rfl ?_ ?_
 ·
  intro hc9
  have hc9d := of_decide_eq_true hc9
  refine c_skip (c_seq (c_block (c_seq (c_region ?_))))
  first | refine t_index_nat Try.runUnderlying111 Try.sizeOf169 (Rd.st hx.erd hS) rfl rfl (by omega) (fun ad10 hl10 hx10 => ?_) | refine t_index Try.runUnderlying111 Try.sizeOf169 (Rd.st hx.erd hS) rfl rfl (by omega) (fun ad10 hl10 hx10 => ?_)
  refine t_q (q_loadN Try.isAgg169 Try.sizeOf169 rfl hl10 hx10) ?_
  refine t_alloc Try.zeroValue169 rfl hS (fun g7 w hS => ?_)
  refine t_store (v := (.agg _)) Try.sizeOf169 hS (by repeat constructor) rfl rfl rfl rfl rfl rfl (fun w hS => ?_)
  obtain ⟨z, hz⟩ : ∃ z, z = (x.entries.l.getD j default) := ⟨_, rfl⟩
  replace hS := hS.recast (show blkA g7 169 _ = blkA g7 169 [.int .u64 z.index, .int .u64 z.term, .slice z.body.A z.body.l.length z.body.c] from by rw [hz]; rfl)
  have hzm : z ∈ x.entries.l := by rw [hz]; exact getD_mem (by omega)
  have hzg := hx.eok z hzm
  have hz5 := hs.ebody z hzm
  have hzi := hzg.index
  have hzt := hzg.term
  have qz1 := enc_ten (n := z.index.toNat) (by omega)
  have qz2 := enc_ten (n := z.term.toNat) (by omega)
  refine t_nil (c_seq (c_region ?_))
  refine t_q (q_fieldAddr 0 Try.runUnderlying169 rfl Try.sizeOf43 (by decide) rfl rfl) ?_
  refine t_q (q_load1 Try.isAgg43 rfl (hS.cell (by repeat constructor) rfl)) ?_
  refine t_q (q_fieldAddr 1 Try.runUnderlying169 rfl Try.sizeOf43 (by decide) rfl rfl) ?_
  refine t_q (q_load1 Try.isAgg43 rfl (hS.cell (by repeat constructor) rfl)) ?_
  refine t_build_ints [_, _] Try.runUnderlying194 Try.sizeOf43 Try.zeroValue43 rfl rfl (by decide) hS (fun g60 w hS => ?_)
  refine t_call Try.call78 (Nat_calls (ns := [z.index, z.term]) hS (by repeat constructor) (fun _ h => h.rowInts (.here _ _) rfl) (by intro m hm; simp only [List.mem_cons, List.not_mem_nil, or_false] at hm; omega) (by simp) (by first | (simp; done) | omega | (rw [List.length_append]; omega))) rfl ?_
  rintro e w ⟨rfl, hS⟩
  refine ⟨_, rfl, ?_⟩
  replace hS := hS.swap.recast (congrArg (wrA g4) (show _ = (wb5 30 x ++ (x.entries.l.take j).flatMap entB) ++ (enc z.index.toNat ++ enc z.term.toNat) from by unfold encs; simp [wb0]))
  refine t_nil (c_region ?_)
  refine t_q (q_fieldAddr 2 Try.runUnderlying169 rfl Try.sizeOf25 (by decide) rfl rfl) ?_
  refine t_q (q_load1 Try.isAgg25 rfl (hS.cell (by repeat constructor) rfl)) ?_
  refine t_q (q_string Try.runUnderlying25 Try.runUnderlying5 Try.runUnderlying9 rfl rfl (Rd.st hzg.rd hS)) ?_
  refine t_call Try.call70 (Text_calls (s := ⟨z.body.l.toArray⟩) hS (by repeat constructor) (by show z.body.l.toArray.size ≤ _; rw [List.size_toArray]; omega) (by simp only [List.length_append]; omega)) rfl ?_
  rintro e w ⟨rfl, hS⟩
  refine ⟨_, rfl, ?_⟩
  refine t_nil (c_region ?_)
  refine t_q (q_add_i64 rfl rfl (by omega)) ?_
  refine t_q (q_mv (.int _ _) rfl) ?_
  refine t_nil ?_
  exact ⟨k - 1, by omega, j + 1, rfl, by omega, by omega, by have h := ((((hS.pick (A := bmA g1 114 x) (by repeat constructor)).pick (A := blkA g3 3 [.int .i64 30]) (by repeat constructor)).pick (A := wrA g4 _) (by repeat constructor))).front3; exact h.recast (congrArg (wrA g4) (by rw [entB_take (by omega), ← hz]; show _ ++ enc z.body.l.toArray.size ++ z.body.l.toArray.toList = _; simp [entB]))⟩
 ·
  intro hc9
  have hc9d := of_decide_eq_false hc9
  obtain rfl : j = x.entries.l.length := by omega
  replace hS := (hS.pick (A := wrA g4 _) (by repeat constructor)).recast (show _ = wrA g4 (wb6 30 x) from congrArg (wrA g4) (by rw [List.take_length]; rfl))
  refine c_exit ?_
  refine ite_t rfl ?_
  refine c_seq (c_seq (c_region ?_))
  refine t_q (q_load1 Try.isAgg3 rfl (hS.cell (by repeat constructor) rfl)) ?_
  refine t_q (q_cast (v' := .int .i64 0) (q_and rfl rfl) (by rfl)) ?_
  refine t_q (q_neq rfl rfl) ?_
  refine t_nil ?_
  refine c_cond_f rfl rfl ?_
  refine c_skip (c_seq (c_seq ?_))
  replace hS := (hS.pick (A := wrA g4 _) (by repeat constructor)).recast (show _ = wrA g4 (wb7 30 x) from rfl)
  refine c_region ?_
  refine t_q (q_load1 Try.isAgg3 rfl (hS.cell (by repeat constructor) rfl)) ?_
  refine t_q (q_cast (v' := .int .i64 0) (q_and rfl rfl) (by rfl)) ?_
  refine t_q (q_neq rfl rfl) ?_
  refine t_nil ?_
  refine c_cond_f rfl rfl ?_
  refine c_skip (c_seq ?_)
  replace hS := (hS.pick (A := wrA g4 _) (by repeat constructor)).recast (show _ = wrA g4 (wb8 30 x) from rfl)
  refine c_region ?_
  refine t_call Try.call72 (Bytes_calls hS (by repeat constructor) (by omega)) rfl ?_
  rintro e w ⟨A86, c86, rfl, hc86, hS⟩
  refine ⟨_, rfl, ?_⟩
  refine t_q (q_as (.slice _ _ _) rfl) ?_
  refine t_nil (c_ret ?_)
  refine r_one rfl rfl ?_
  exact ⟨A86, c86, rfl, hc86, (hS.pick (A := rowA 5 1 A86 _ c86 _) (by repeat constructor)).front1⟩
set_option maxHeartbeats 1000000 in
set_option maxRecDepth 100000 in
theorem wbody_4 {x : MsgV} (hx : x.Gd W) (hs : Snd x) (hk : x.kind = 4) (h8 : (wb8 3 x).length ≤ 1000000000) : Calls Try.prog 114 #[.agg x.cells.toArray] W fun e w' => ∃ A' c', e = .returned (.slice A' (wb8 3 x).length c') ∧ (wb8 3 x).length ≤ c' ∧ St W w' [rowA 5 1 A' (wb8 3 x).length c' ((wb8 3 x).map bv)] := by
 have hS := St.init W
 obtain ⟨l0, l1, l2, l3, l4, l5⟩ := wb_lens hx hs 3
 have q1 := hs.frm
 have q2 := hs.to
 have q3 := hs.ents
 have q4 := hx.term
 have q5 := hs.body
 have q6 := hx.client
 have q7 := hx.req
 have q8 := enc_ten (n := x.client.toNat) (by omega)
 have q9 := enc_ten (n := x.req.toNat) (by omega)
 have l6 : (wb6 3 x).length ≤ 81 + 542 * x.entries.l.length := by have := ents_len x.entries.l hx.eok hs.ebody; unfold wb6; rw [List.length_append]; omega
 have q10 := enc_ten (n := x.body.l.length) (by omega)
 have l7 : (wb7 3 x).length ≤ 600000 := by unfold wb7; split <;> (try simp only [List.length_append]) <;> omega
 refine calls_of_wpE (args := [_]) Try.func114 rfl rfl rfl ?_
 refine c_seq (c_region ?_)
 refine t_box (v := (.agg _)) rfl rfl hS (fun g1 w hS => ?_)
 replace hS := hS.recast (show _ = bmA g1 114 x from rfl)
 refine t_q (q_assign) ?_
 refine t_nil (c_seq (c_region ?_))
 refine t_q (q_fieldAddr 0 Try.runUnderlying114 rfl Try.sizeOf3 (by decide) rfl rfl) ?_
 refine t_q (q_cast (v' := .int .i64 4) (q_load1 Try.isAgg3 rfl (hS.cell (by repeat constructor) rfl)) (by rw [hk])) ?_
 refine t_call Try.call102 (fields_4) rfl ?_
 rintro e w ⟨rfl, hT⟩
 refine ⟨_, rfl, ?_⟩
 replace hS := hS.after hT
 refine t_alloc Try.zeroValue3 rfl hS (fun g3 w hS => ?_)
 refine t_store (v := (.int _ _)) Try.sizeOf3 hS (by repeat constructor) rfl rfl rfl rfl rfl rfl (fun w hS => ?_)
 replace hS := hS.recast (show _ = blkA g3 3 [.int .i64 3] from rfl)
 refine t_nil (c_seq (c_region ?_))
 refine t_alloc Try.zeroValue135 rfl hS (fun g4 w hS => ?_)
 replace hS := hS.wr0
 refine t_nil (c_seq (c_region ?_))
 refine t_q (q_fieldAddr 0 Try.runUnderlying114 rfl Try.sizeOf3 (by decide) rfl rfl) ?_
 refine t_q (q_load1 Try.isAgg3 rfl (hS.cell (by repeat constructor) rfl)) ?_
 first | refine t_q (q_conv_u64 Try.runUnderlying3 Try.runUnderlying43 rfl (by omega)) ?_ | refine t_q (q_convm_u64 Try.runUnderlying3 Try.runUnderlying43 rfl) ?_
 refine t_q (q_fieldAddr 1 Try.runUnderlying114 rfl Try.sizeOf3 (by decide) rfl rfl) ?_
 refine t_q (q_load1 Try.isAgg3 rfl (hS.cell (by repeat constructor) rfl)) ?_
 first | refine t_q (q_conv_u64 Try.runUnderlying3 Try.runUnderlying43 rfl (by omega)) ?_ | refine t_q (q_convm_u64 Try.runUnderlying3 Try.runUnderlying43 rfl) ?_
 refine t_q (q_fieldAddr 2 Try.runUnderlying114 rfl Try.sizeOf3 (by decide) rfl rfl) ?_
 refine t_q (q_load1 Try.isAgg3 rfl (hS.cell (by repeat constructor) rfl)) ?_
 first | refine t_q (q_conv_u64 Try.runUnderlying3 Try.runUnderlying43 rfl (by omega)) ?_ | refine t_q (q_convm_u64 Try.runUnderlying3 Try.runUnderlying43 rfl) ?_
 refine t_q (q_fieldAddr 3 Try.runUnderlying114 rfl Try.sizeOf43 (by decide) rfl rfl) ?_
 refine t_q (q_load1 Try.isAgg43 rfl (hS.cell (by repeat constructor) rfl)) ?_
 refine t_build_ints [_, _, _, _] Try.runUnderlying194 Try.sizeOf43 Try.zeroValue43 rfl rfl (by decide) hS (fun g22 w hS => ?_)
 refine t_call Try.call78 (Nat_calls (ns := [x.kind, x.frm, x.to, x.term]) hS (by repeat constructor) (fun _ h => h.rowInts (.here _ _) rfl) (by intro m hm; simp only [List.mem_cons, List.not_mem_nil, or_false] at hm; omega) (by simp) (by first | (simp; done) | omega | (rw [List.length_append]; omega))) rfl ?_
 rintro e w ⟨rfl, hS⟩
 refine ⟨_, rfl, ?_⟩
 replace hS := hS.swap.recast (congrArg (wrA g4) (show _ = wb0 x from by unfold encs; simp [wb0]))
 refine t_nil (c_seq (c_seq (c_region ?_)))
 refine t_q (q_load1 Try.isAgg3 rfl (hS.cell (by repeat constructor) rfl)) ?_
 refine t_q (q_cast (v' := .int .i64 1) (q_and rfl rfl) (by rfl)) ?_
 refine t_q (q_neq rfl rfl) ?_
 refine t_nil ?_
 refine c_cond_t rfl rfl ?_
 refine c_region ?_
 refine t_q (q_fieldAddr 7 Try.runUnderlying114 rfl Try.sizeOf4 (by decide) rfl rfl) ?_
 refine t_q (q_load1 Try.isAgg4 rfl (hS.cell (by repeat constructor) rfl)) ?_
 refine t_call Try.call142 (Flag_calls hS (by repeat constructor) (by omega)) rfl ?_
 rintro e w ⟨rfl, hS⟩
 refine ⟨_, rfl, ?_⟩
 refine t_nil (c_seq ?_)
 replace hS := (hS.pick (A := wrA g4 _) (by repeat constructor)).recast (show _ = wrA g4 (wb1 3 x) from rfl)
 refine c_region ?_
 refine t_q (q_makeFunc rfl) ?_
 refine t_q (q_as (.func _ _ _) rfl) ?_
 refine t_nil (c_seq (c_region ?_))
 refine t_q (q_mv (.func _ _ _) rfl) ?_
 refine t_q (q_fieldAddr 4 Try.runUnderlying114 rfl Try.sizeOf43 (by decide) rfl rfl) ?_
 refine t_q (q_load1 Try.isAgg43 rfl (hS.cell (by repeat constructor) rfl)) ?_
 refine t_callv Try.call143 rfl (num_yes (v := 3) (m := 2) (n := x.index) (by decide) (((hS.pick (A := blkA g3 3 [.int .i64 3]) (by repeat constructor)).pick (A := wrA g4 _) (by repeat constructor))) hx.index (by omega)) rfl ?_
 rintro e w ⟨rfl, hS⟩
 refine ⟨_, rfl, ?_⟩
 replace hS := (hS.pick (A := wrA g4 _) (by repeat constructor)).recast (show _ = wrA g4 (wb2 3 x) from rfl)
 refine t_nil (c_seq (c_region ?_))
 refine t_q (q_mv (.func _ _ _) rfl) ?_
 refine t_q (q_fieldAddr 5 Try.runUnderlying114 rfl Try.sizeOf43 (by decide) rfl rfl) ?_
 refine t_q (q_load1 Try.isAgg43 rfl (hS.cell (by repeat constructor) rfl)) ?_
 refine t_callv Try.call143 rfl (num_no (v := 3) (m := 4) (n := x.logTerm) (by decide) (((hS.pick (A := blkA g3 3 [.int .i64 3]) (by repeat constructor)).pick (A := wrA g4 _) (by repeat constructor))) hx.logTerm (by omega)) rfl ?_
 rintro e w ⟨rfl, hS⟩
 refine ⟨_, rfl, ?_⟩
 replace hS := (hS.pick (A := wrA g4 _) (by repeat constructor)).recast (show _ = wrA g4 (wb3 3 x) from rfl)
 refine t_nil (c_seq (c_region ?_))
 refine t_q (q_mv (.func _ _ _) rfl) ?_
 refine t_q (q_fieldAddr 6 Try.runUnderlying114 rfl Try.sizeOf43 (by decide) rfl rfl) ?_
 refine t_q (q_load1 Try.isAgg43 rfl (hS.cell (by repeat constructor) rfl)) ?_
 refine t_callv Try.call143 rfl (num_no (v := 3) (m := 8) (n := x.commit) (by decide) (((hS.pick (A := blkA g3 3 [.int .i64 3]) (by repeat constructor)).pick (A := wrA g4 _) (by repeat constructor))) hx.commit (by omega)) rfl ?_
 rintro e w ⟨rfl, hS⟩
 refine ⟨_, rfl, ?_⟩
 replace hS := (hS.pick (A := wrA g4 _) (by repeat constructor)).recast (show _ = wrA g4 (wb4 3 x) from rfl)
 refine t_nil (c_seq (c_region ?_))
 refine t_q (q_mv (.func _ _ _) rfl) ?_
 refine t_q (q_fieldAddr 8 Try.runUnderlying114 rfl Try.sizeOf111 (by decide) rfl rfl) ?_
 refine t_q (q_load1 Try.isAgg111 rfl (hS.cell (by repeat constructor) rfl)) ?_
 refine t_q (q_len_slice Try.runUnderlying111 rfl) ?_
 first | refine t_q (q_conv_u64 Try.runUnderlying3 Try.runUnderlying43 rfl (by omega)) ?_ | refine t_q (q_convm_u64 Try.runUnderlying3 Try.runUnderlying43 rfl) ?_
 refine t_callv Try.call143 rfl (num_no (v := 3) (m := 16) (n := (x.entries.l.length : Int)) (by decide) (((hS.pick (A := blkA g3 3 [.int .i64 3]) (by repeat constructor)).pick (A := wrA g4 _) (by repeat constructor))) (by omega) (by omega)) rfl ?_
 rintro e w ⟨rfl, hS⟩
 refine ⟨_, rfl, ?_⟩
 replace hS := (hS.pick (A := wrA g4 _) (by repeat constructor)).recast (show _ = wrA g4 (wb5 3 x) from rfl)
 refine t_nil (c_seq (c_seq (c_region ?_)))
 refine t_q (q_fieldAddr 8 Try.runUnderlying114 rfl Try.sizeOf111 (by decide) rfl rfl) ?_
 refine t_q (q_load1 Try.isAgg111 rfl (hS.cell (by repeat constructor) rfl)) ?_
 refine t_q (q_len_slice Try.runUnderlying111 rfl) ?_
 refine t_q (q_move) ?_
 refine t_nil (c_block ?_)
 refine c_loop [7, 52, 53, 54, 55, 56, 57, 58, 59, 60, 61, 62, 63, 64, 65, 66] (fun k σ w => ∃ j : Nat, σ 52 = .int .i64 (j : Int) ∧ j ≤ x.entries.l.length ∧ x.entries.l.length - j ≤ k ∧ St W w [wrA g4 (wb5 3 x ++ (x.entries.l.take j).flatMap entB), blkA g3 3 [.int .i64 3], bmA g1 114 x]) (x.entries.l.length) rfl (⟨0, rfl, by omega, by omega, by have h := ((((hS.pick (A := bmA g1 114 x) (by repeat constructor)).pick (A := blkA g3 3 [.int .i64 3]) (by repeat constructor)).pick (A := wrA g4 _) (by repeat constructor))).front3; exact h.recast (congrArg (wrA g4) (show _ = wb5 3 x ++ [] from (List.append_nil _).symm))⟩) ?_
 skip
 rintro k σ w ⟨j, h52, hj, hk2, hS⟩
 refine c_know 52 h52 ?_
 clear h52
 have lp : ((x.entries.l.take j).flatMap entB).length ≤ 542 * 32 := by
   have h := ents_len (x.entries.l.take j) (fun e he => hx.eok e (List.mem_of_mem_take he)) (fun e he => hs.ebody e (List.mem_of_mem_take he))
   rw [List.length_take] at h
   omega
 have lq : (wb5 3 x ++ (x.entries.l.take j).flatMap entB).length ≤ 81 + 542 * 32 := by rw [List.length_append]; omega
 refine c_seq (c_region ?_)
 refine t_q (q_lss rfl rfl) ?_
 refine t_nil (c_seq ?_)
 refine c_cond rfl ?_ ?_
 ·
  intro hc11
  have hc11d := of_decide_eq_true hc11
  refine c_skip (c_seq (c_block (c_seq (c_region ?_))))
  first | refine t_index_nat Try.runUnderlying111 Try.sizeOf169 (Rd.st hx.erd hS) rfl rfl (by omega) (fun ad12 hl12 hx12 => ?_) | refine t_index Try.runUnderlying111 Try.sizeOf169 (Rd.st hx.erd hS) rfl rfl (by omega) (fun ad12 hl12 hx12 => ?_)
  refine t_q (q_loadN Try.isAgg169 Try.sizeOf169 rfl hl12 hx12) ?_
  refine t_alloc Try.zeroValue169 rfl hS (fun g7 w hS => ?_)
  refine t_store (v := (.agg _)) Try.sizeOf169 hS (by repeat constructor) rfl rfl rfl rfl rfl rfl (fun w hS => ?_)
  obtain ⟨z, hz⟩ : ∃ z, z = (x.entries.l.getD j default) := ⟨_, rfl⟩
  replace hS := hS.recast (show blkA g7 169 _ = blkA g7 169 [.int .u64 z.index, .int .u64 z.term, .slice z.body.A z.body.l.length z.body.c] from by rw [hz]; rfl)
  have hzm : z ∈ x.entries.l := by rw [hz]; exact getD_mem (by omega)
  have hzg := hx.eok z hzm
  have hz5 := hs.ebody z hzm
  have hzi := hzg.index
  have hzt := hzg.term
  have qz1 := enc_ten (n := z.index.toNat) (by omega)
  have qz2 := enc_ten (n := z.term.toNat) (by omega)
  refine t_nil (c_seq (c_region ?_))
  refine t_q (q_fieldAddr 0 Try.runUnderlying169 rfl Try.sizeOf43 (by decide) rfl rfl) ?_
  refine t_q (q_load1 Try.isAgg43 rfl (hS.cell (by repeat constructor) rfl)) ?_
  refine t_q (q_fieldAddr 1 Try.runUnderlying169 rfl Try.sizeOf43 (by decide) rfl rfl) ?_
  refine t_q (q_load1 Try.isAgg43 rfl (hS.cell (by repeat constructor) rfl)) ?_
  refine t_build_ints [_, _] Try.runUnderlying194 Try.sizeOf43 Try.zeroValue43 rfl rfl (by decide) hS (fun g60 w hS => ?_)
  refine t_call Try.call78 (Nat_calls (ns := [z.index, z.term]) hS (by repeat constructor) (fun _ h => h.rowInts (.here _ _) rfl) (by intro m hm; simp only [List.mem_cons, List.not_mem_nil, or_false] at hm; omega) (by simp) (by first | (simp; done) | omega | (rw [List.length_append]; omega))) rfl ?_
  rintro e w ⟨rfl, hS⟩
  refine ⟨_, rfl, ?_⟩
  replace hS := hS.swap.recast (congrArg (wrA g4) (show _ = (wb5 3 x ++ (x.entries.l.take j).flatMap entB) ++ (enc z.index.toNat ++ enc z.term.toNat) from by unfold encs; simp [wb0]))
  refine t_nil (c_region ?_)
  refine t_q (q_fieldAddr 2 Try.runUnderlying169 rfl Try.sizeOf25 (by decide) rfl rfl) ?_
  refine t_q (q_load1 Try.isAgg25 rfl (hS.cell (by repeat constructor) rfl)) ?_
  refine t_q (q_string Try.runUnderlying25 Try.runUnderlying5 Try.runUnderlying9 rfl rfl (Rd.st hzg.rd hS)) ?_
  refine t_call Try.call70 (Text_calls (s := ⟨z.body.l.toArray⟩) hS (by repeat constructor) (by show z.body.l.toArray.size ≤ _; rw [List.size_toArray]; omega) (by simp only [List.length_append]; omega)) rfl ?_
  rintro e w ⟨rfl, hS⟩
  refine ⟨_, rfl, ?_⟩
  refine t_nil (c_region ?_)
  refine t_q (q_add_i64 rfl rfl (by omega)) ?_
  refine t_q (q_mv (.int _ _) rfl) ?_
  refine t_nil ?_
  exact ⟨k - 1, by omega, j + 1, rfl, by omega, by omega, by have h := ((((hS.pick (A := bmA g1 114 x) (by repeat constructor)).pick (A := blkA g3 3 [.int .i64 3]) (by repeat constructor)).pick (A := wrA g4 _) (by repeat constructor))).front3; exact h.recast (congrArg (wrA g4) (by rw [entB_take (by omega), ← hz]; show _ ++ enc z.body.l.toArray.size ++ z.body.l.toArray.toList = _; simp [entB]))⟩
 ·
  intro hc11
  have hc11d := of_decide_eq_false hc11
  obtain rfl : j = x.entries.l.length := by omega
  replace hS := (hS.pick (A := wrA g4 _) (by repeat constructor)).recast (show _ = wrA g4 (wb6 3 x) from congrArg (wrA g4) (by rw [List.take_length]; rfl))
  refine c_exit ?_
  refine ite_t rfl ?_
  refine c_seq (c_seq (c_region ?_))
  refine t_q (q_load1 Try.isAgg3 rfl (hS.cell (by repeat constructor) rfl)) ?_
  refine t_q (q_cast (v' := .int .i64 0) (q_and rfl rfl) (by rfl)) ?_
  refine t_q (q_neq rfl rfl) ?_
  refine t_nil ?_
  refine c_cond_f rfl rfl ?_
  refine c_skip (c_seq (c_seq ?_))
  replace hS := (hS.pick (A := wrA g4 _) (by repeat constructor)).recast (show _ = wrA g4 (wb7 3 x) from rfl)
  refine c_region ?_
  refine t_q (q_load1 Try.isAgg3 rfl (hS.cell (by repeat constructor) rfl)) ?_
  refine t_q (q_cast (v' := .int .i64 0) (q_and rfl rfl) (by rfl)) ?_
  refine t_q (q_neq rfl rfl) ?_
  refine t_nil ?_
  refine c_cond_f rfl rfl ?_
  refine c_skip (c_seq ?_)
  replace hS := (hS.pick (A := wrA g4 _) (by repeat constructor)).recast (show _ = wrA g4 (wb8 3 x) from rfl)
  refine c_region ?_
  refine t_call Try.call72 (Bytes_calls hS (by repeat constructor) (by omega)) rfl ?_
  rintro e w ⟨A86, c86, rfl, hc86, hS⟩
  refine ⟨_, rfl, ?_⟩
  refine t_q (q_as (.slice _ _ _) rfl) ?_
  refine t_nil (c_ret ?_)
  refine r_one rfl rfl ?_
  exact ⟨A86, c86, rfl, hc86, (hS.pick (A := rowA 5 1 A86 _ c86 _) (by repeat constructor)).front1⟩
set_option maxHeartbeats 1000000 in
set_option maxRecDepth 100000 in
theorem wbody_5 {x : MsgV} (hx : x.Gd W) (hs : Snd x) (hk : x.kind = 5) (h8 : (wb8 38 x).length ≤ 1000000000) : Calls Try.prog 114 #[.agg x.cells.toArray] W fun e w' => ∃ A' c', e = .returned (.slice A' (wb8 38 x).length c') ∧ (wb8 38 x).length ≤ c' ∧ St W w' [rowA 5 1 A' (wb8 38 x).length c' ((wb8 38 x).map bv)] := by
 have hS := St.init W
 obtain ⟨l0, l1, l2, l3, l4, l5⟩ := wb_lens hx hs 38
 have q1 := hs.frm
 have q2 := hs.to
 have q3 := hs.ents
 have q4 := hx.term
 have q5 := hs.body
 have q6 := hx.client
 have q7 := hx.req
 have q8 := enc_ten (n := x.client.toNat) (by omega)
 have q9 := enc_ten (n := x.req.toNat) (by omega)
 have l6 : (wb6 38 x).length ≤ 81 + 542 * x.entries.l.length := by have := ents_len x.entries.l hx.eok hs.ebody; unfold wb6; rw [List.length_append]; omega
 have q10 := enc_ten (n := x.body.l.length) (by omega)
 have l7 : (wb7 38 x).length ≤ 600000 := by unfold wb7; split <;> (try simp only [List.length_append]) <;> omega
 refine calls_of_wpE (args := [_]) Try.func114 rfl rfl rfl ?_
 refine c_seq (c_region ?_)
 refine t_box (v := (.agg _)) rfl rfl hS (fun g1 w hS => ?_)
 replace hS := hS.recast (show _ = bmA g1 114 x from rfl)
 refine t_q (q_assign) ?_
 refine t_nil (c_seq (c_region ?_))
 refine t_q (q_fieldAddr 0 Try.runUnderlying114 rfl Try.sizeOf3 (by decide) rfl rfl) ?_
 refine t_q (q_cast (v' := .int .i64 5) (q_load1 Try.isAgg3 rfl (hS.cell (by repeat constructor) rfl)) (by rw [hk])) ?_
 refine t_call Try.call102 (fields_5) rfl ?_
 rintro e w ⟨rfl, hT⟩
 refine ⟨_, rfl, ?_⟩
 replace hS := hS.after hT
 refine t_alloc Try.zeroValue3 rfl hS (fun g3 w hS => ?_)
 refine t_store (v := (.int _ _)) Try.sizeOf3 hS (by repeat constructor) rfl rfl rfl rfl rfl rfl (fun w hS => ?_)
 replace hS := hS.recast (show _ = blkA g3 3 [.int .i64 38] from rfl)
 refine t_nil (c_seq (c_region ?_))
 refine t_alloc Try.zeroValue135 rfl hS (fun g4 w hS => ?_)
 replace hS := hS.wr0
 refine t_nil (c_seq (c_region ?_))
 refine t_q (q_fieldAddr 0 Try.runUnderlying114 rfl Try.sizeOf3 (by decide) rfl rfl) ?_
 refine t_q (q_load1 Try.isAgg3 rfl (hS.cell (by repeat constructor) rfl)) ?_
 first | refine t_q (q_conv_u64 Try.runUnderlying3 Try.runUnderlying43 rfl (by omega)) ?_ | refine t_q (q_convm_u64 Try.runUnderlying3 Try.runUnderlying43 rfl) ?_
 refine t_q (q_fieldAddr 1 Try.runUnderlying114 rfl Try.sizeOf3 (by decide) rfl rfl) ?_
 refine t_q (q_load1 Try.isAgg3 rfl (hS.cell (by repeat constructor) rfl)) ?_
 first | refine t_q (q_conv_u64 Try.runUnderlying3 Try.runUnderlying43 rfl (by omega)) ?_ | refine t_q (q_convm_u64 Try.runUnderlying3 Try.runUnderlying43 rfl) ?_
 refine t_q (q_fieldAddr 2 Try.runUnderlying114 rfl Try.sizeOf3 (by decide) rfl rfl) ?_
 refine t_q (q_load1 Try.isAgg3 rfl (hS.cell (by repeat constructor) rfl)) ?_
 first | refine t_q (q_conv_u64 Try.runUnderlying3 Try.runUnderlying43 rfl (by omega)) ?_ | refine t_q (q_convm_u64 Try.runUnderlying3 Try.runUnderlying43 rfl) ?_
 refine t_q (q_fieldAddr 3 Try.runUnderlying114 rfl Try.sizeOf43 (by decide) rfl rfl) ?_
 refine t_q (q_load1 Try.isAgg43 rfl (hS.cell (by repeat constructor) rfl)) ?_
 refine t_build_ints [_, _, _, _] Try.runUnderlying194 Try.sizeOf43 Try.zeroValue43 rfl rfl (by decide) hS (fun g22 w hS => ?_)
 refine t_call Try.call78 (Nat_calls (ns := [x.kind, x.frm, x.to, x.term]) hS (by repeat constructor) (fun _ h => h.rowInts (.here _ _) rfl) (by intro m hm; simp only [List.mem_cons, List.not_mem_nil, or_false] at hm; omega) (by simp) (by first | (simp; done) | omega | (rw [List.length_append]; omega))) rfl ?_
 rintro e w ⟨rfl, hS⟩
 refine ⟨_, rfl, ?_⟩
 replace hS := hS.swap.recast (congrArg (wrA g4) (show _ = wb0 x from by unfold encs; simp [wb0]))
 refine t_nil (c_seq (c_seq (c_region ?_)))
 refine t_q (q_load1 Try.isAgg3 rfl (hS.cell (by repeat constructor) rfl)) ?_
 refine t_q (q_cast (v' := .int .i64 0) (q_and rfl rfl) (by rfl)) ?_
 refine t_q (q_neq rfl rfl) ?_
 refine t_nil ?_
 refine c_cond_f rfl rfl ?_
 refine c_skip (c_seq ?_)
 replace hS := (hS.pick (A := wrA g4 _) (by repeat constructor)).recast (show _ = wrA g4 (wb1 38 x) from rfl)
 refine c_region ?_
 refine t_q (q_makeFunc rfl) ?_
 refine t_q (q_as (.func _ _ _) rfl) ?_
 refine t_nil (c_seq (c_region ?_))
 refine t_q (q_mv (.func _ _ _) rfl) ?_
 refine t_q (q_fieldAddr 4 Try.runUnderlying114 rfl Try.sizeOf43 (by decide) rfl rfl) ?_
 refine t_q (q_load1 Try.isAgg43 rfl (hS.cell (by repeat constructor) rfl)) ?_
 refine t_callv Try.call143 rfl (num_yes (v := 38) (m := 2) (n := x.index) (by decide) (((hS.pick (A := blkA g3 3 [.int .i64 38]) (by repeat constructor)).pick (A := wrA g4 _) (by repeat constructor))) hx.index (by omega)) rfl ?_
 rintro e w ⟨rfl, hS⟩
 refine ⟨_, rfl, ?_⟩
 replace hS := (hS.pick (A := wrA g4 _) (by repeat constructor)).recast (show _ = wrA g4 (wb2 38 x) from rfl)
 refine t_nil (c_seq (c_region ?_))
 refine t_q (q_mv (.func _ _ _) rfl) ?_
 refine t_q (q_fieldAddr 5 Try.runUnderlying114 rfl Try.sizeOf43 (by decide) rfl rfl) ?_
 refine t_q (q_load1 Try.isAgg43 rfl (hS.cell (by repeat constructor) rfl)) ?_
 refine t_callv Try.call143 rfl (num_yes (v := 38) (m := 4) (n := x.logTerm) (by decide) (((hS.pick (A := blkA g3 3 [.int .i64 38]) (by repeat constructor)).pick (A := wrA g4 _) (by repeat constructor))) hx.logTerm (by omega)) rfl ?_
 rintro e w ⟨rfl, hS⟩
 refine ⟨_, rfl, ?_⟩
 replace hS := (hS.pick (A := wrA g4 _) (by repeat constructor)).recast (show _ = wrA g4 (wb3 38 x) from rfl)
 refine t_nil (c_seq (c_region ?_))
 refine t_q (q_mv (.func _ _ _) rfl) ?_
 refine t_q (q_fieldAddr 6 Try.runUnderlying114 rfl Try.sizeOf43 (by decide) rfl rfl) ?_
 refine t_q (q_load1 Try.isAgg43 rfl (hS.cell (by repeat constructor) rfl)) ?_
 refine t_callv Try.call143 rfl (num_no (v := 38) (m := 8) (n := x.commit) (by decide) (((hS.pick (A := blkA g3 3 [.int .i64 38]) (by repeat constructor)).pick (A := wrA g4 _) (by repeat constructor))) hx.commit (by omega)) rfl ?_
 rintro e w ⟨rfl, hS⟩
 refine ⟨_, rfl, ?_⟩
 replace hS := (hS.pick (A := wrA g4 _) (by repeat constructor)).recast (show _ = wrA g4 (wb4 38 x) from rfl)
 refine t_nil (c_seq (c_region ?_))
 refine t_q (q_mv (.func _ _ _) rfl) ?_
 refine t_q (q_fieldAddr 8 Try.runUnderlying114 rfl Try.sizeOf111 (by decide) rfl rfl) ?_
 refine t_q (q_load1 Try.isAgg111 rfl (hS.cell (by repeat constructor) rfl)) ?_
 refine t_q (q_len_slice Try.runUnderlying111 rfl) ?_
 first | refine t_q (q_conv_u64 Try.runUnderlying3 Try.runUnderlying43 rfl (by omega)) ?_ | refine t_q (q_convm_u64 Try.runUnderlying3 Try.runUnderlying43 rfl) ?_
 refine t_callv Try.call143 rfl (num_no (v := 38) (m := 16) (n := (x.entries.l.length : Int)) (by decide) (((hS.pick (A := blkA g3 3 [.int .i64 38]) (by repeat constructor)).pick (A := wrA g4 _) (by repeat constructor))) (by omega) (by omega)) rfl ?_
 rintro e w ⟨rfl, hS⟩
 refine ⟨_, rfl, ?_⟩
 replace hS := (hS.pick (A := wrA g4 _) (by repeat constructor)).recast (show _ = wrA g4 (wb5 38 x) from rfl)
 refine t_nil (c_seq (c_seq (c_region ?_)))
 refine t_q (q_fieldAddr 8 Try.runUnderlying114 rfl Try.sizeOf111 (by decide) rfl rfl) ?_
 refine t_q (q_load1 Try.isAgg111 rfl (hS.cell (by repeat constructor) rfl)) ?_
 refine t_q (q_len_slice Try.runUnderlying111 rfl) ?_
 refine t_q (q_move) ?_
 refine t_nil (c_block ?_)
 refine c_loop [7, 52, 53, 54, 55, 56, 57, 58, 59, 60, 61, 62, 63, 64, 65, 66] (fun k σ w => ∃ j : Nat, σ 52 = .int .i64 (j : Int) ∧ j ≤ x.entries.l.length ∧ x.entries.l.length - j ≤ k ∧ St W w [wrA g4 (wb5 38 x ++ (x.entries.l.take j).flatMap entB), blkA g3 3 [.int .i64 38], bmA g1 114 x]) (x.entries.l.length) rfl (⟨0, rfl, by omega, by omega, by have h := ((((hS.pick (A := bmA g1 114 x) (by repeat constructor)).pick (A := blkA g3 3 [.int .i64 38]) (by repeat constructor)).pick (A := wrA g4 _) (by repeat constructor))).front3; exact h.recast (congrArg (wrA g4) (show _ = wb5 38 x ++ [] from (List.append_nil _).symm))⟩) ?_
 skip
 rintro k σ w ⟨j, h52, hj, hk2, hS⟩
 refine c_know 52 h52 ?_
 clear h52
 have lp : ((x.entries.l.take j).flatMap entB).length ≤ 542 * 32 := by
   have h := ents_len (x.entries.l.take j) (fun e he => hx.eok e (List.mem_of_mem_take he)) (fun e he => hs.ebody e (List.mem_of_mem_take he))
   rw [List.length_take] at h
   omega
 have lq : (wb5 38 x ++ (x.entries.l.take j).flatMap entB).length ≤ 81 + 542 * 32 := by rw [List.length_append]; omega
 refine c_seq (c_region ?_)
 refine t_q (q_lss rfl rfl) ?_
 refine t_nil (c_seq ?_)
 refine c_cond rfl ?_ ?_
 ·
  intro hc9
  have hc9d := of_decide_eq_true hc9
  refine c_skip (c_seq (c_block (c_seq (c_region ?_))))
  first | refine t_index_nat Try.runUnderlying111 Try.sizeOf169 (Rd.st hx.erd hS) rfl rfl (by omega) (fun ad10 hl10 hx10 => ?_) | refine t_index Try.runUnderlying111 Try.sizeOf169 (Rd.st hx.erd hS) rfl rfl (by omega) (fun ad10 hl10 hx10 => ?_)
  refine t_q (q_loadN Try.isAgg169 Try.sizeOf169 rfl hl10 hx10) ?_
  refine t_alloc Try.zeroValue169 rfl hS (fun g7 w hS => ?_)
  refine t_store (v := (.agg _)) Try.sizeOf169 hS (by repeat constructor) rfl rfl rfl rfl rfl rfl (fun w hS => ?_)
  obtain ⟨z, hz⟩ : ∃ z, z = (x.entries.l.getD j default) := ⟨_, rfl⟩
  replace hS := hS.recast (show blkA g7 169 _ = blkA g7 169 [.int .u64 z.index, .int .u64 z.term, .slice z.body.A z.body.l.length z.body.c] from by rw [hz]; rfl)
  have hzm : z ∈ x.entries.l := by rw [hz]; exact getD_mem (by omega)
  have hzg := hx.eok z hzm
  have hz5 := hs.ebody z hzm
  have hzi := hzg.index
  have hzt := hzg.term
  have qz1 := enc_ten (n := z.index.toNat) (by omega)
  have qz2 := enc_ten (n := z.term.toNat) (by omega)
  refine t_nil (c_seq (c_region ?_))
  refine t_q (q_fieldAddr 0 Try.runUnderlying169 rfl Try.sizeOf43 (by decide) rfl rfl) ?_
  refine t_q (q_load1 Try.isAgg43 rfl (hS.cell (by repeat constructor) rfl)) ?_
  refine t_q (q_fieldAddr 1 Try.runUnderlying169 rfl Try.sizeOf43 (by decide) rfl rfl) ?_
  refine t_q (q_load1 Try.isAgg43 rfl (hS.cell (by repeat constructor) rfl)) ?_
  refine t_build_ints [_, _] Try.runUnderlying194 Try.sizeOf43 Try.zeroValue43 rfl rfl (by decide) hS (fun g60 w hS => ?_)
  refine t_call Try.call78 (Nat_calls (ns := [z.index, z.term]) hS (by repeat constructor) (fun _ h => h.rowInts (.here _ _) rfl) (by intro m hm; simp only [List.mem_cons, List.not_mem_nil, or_false] at hm; omega) (by simp) (by first | (simp; done) | omega | (rw [List.length_append]; omega))) rfl ?_
  rintro e w ⟨rfl, hS⟩
  refine ⟨_, rfl, ?_⟩
  replace hS := hS.swap.recast (congrArg (wrA g4) (show _ = (wb5 38 x ++ (x.entries.l.take j).flatMap entB) ++ (enc z.index.toNat ++ enc z.term.toNat) from by unfold encs; simp [wb0]))
  refine t_nil (c_region ?_)
  refine t_q (q_fieldAddr 2 Try.runUnderlying169 rfl Try.sizeOf25 (by decide) rfl rfl) ?_
  refine t_q (q_load1 Try.isAgg25 rfl (hS.cell (by repeat constructor) rfl)) ?_
  refine t_q (q_string Try.runUnderlying25 Try.runUnderlying5 Try.runUnderlying9 rfl rfl (Rd.st hzg.rd hS)) ?_
  refine t_call Try.call70 (Text_calls (s := ⟨z.body.l.toArray⟩) hS (by repeat constructor) (by show z.body.l.toArray.size ≤ _; rw [List.size_toArray]; omega) (by simp only [List.length_append]; omega)) rfl ?_
  rintro e w ⟨rfl, hS⟩
  refine ⟨_, rfl, ?_⟩
  refine t_nil (c_region ?_)
  refine t_q (q_add_i64 rfl rfl (by omega)) ?_
  refine t_q (q_mv (.int _ _) rfl) ?_
  refine t_nil ?_
  exact ⟨k - 1, by omega, j + 1, rfl, by omega, by omega, by have h := ((((hS.pick (A := bmA g1 114 x) (by repeat constructor)).pick (A := blkA g3 3 [.int .i64 38]) (by repeat constructor)).pick (A := wrA g4 _) (by repeat constructor))).front3; exact h.recast (congrArg (wrA g4) (by rw [entB_take (by omega), ← hz]; show _ ++ enc z.body.l.toArray.size ++ z.body.l.toArray.toList = _; simp [entB]))⟩
 ·
  intro hc9
  have hc9d := of_decide_eq_false hc9
  obtain rfl : j = x.entries.l.length := by omega
  replace hS := (hS.pick (A := wrA g4 _) (by repeat constructor)).recast (show _ = wrA g4 (wb6 38 x) from congrArg (wrA g4) (by rw [List.take_length]; rfl))
  refine c_exit ?_
  refine ite_t rfl ?_
  refine c_seq (c_seq (c_region ?_))
  refine t_q (q_load1 Try.isAgg3 rfl (hS.cell (by repeat constructor) rfl)) ?_
  refine t_q (q_cast (v' := .int .i64 32) (q_and rfl rfl) (by rfl)) ?_
  refine t_q (q_neq rfl rfl) ?_
  refine t_nil ?_
  refine c_cond_t rfl rfl ?_
  refine c_region ?_
  refine t_q (q_fieldAddr 9 Try.runUnderlying114 rfl Try.sizeOf25 (by decide) rfl rfl) ?_
  refine t_q (q_load1 Try.isAgg25 rfl (hS.cell (by repeat constructor) rfl)) ?_
  refine t_q (q_string Try.runUnderlying25 Try.runUnderlying5 Try.runUnderlying9 rfl rfl (Rd.st hx.brd hS)) ?_
  refine t_call Try.call70 (Text_calls (s := ⟨x.body.l.toArray⟩) hS (by repeat constructor) (by show x.body.l.toArray.size ≤ _; rw [List.size_toArray]; omega) (by omega)) rfl ?_
  rintro e w ⟨rfl, hS⟩
  refine ⟨_, rfl, ?_⟩
  replace hS := hS.recast (congrArg (wrA g4) (show _ = wb6 38 x ++ (enc x.body.l.length ++ x.body.l) from by show _ ++ enc x.body.l.toArray.size ++ x.body.l.toArray.toList = _; simp))
  refine t_nil (c_seq (c_seq ?_))
  replace hS := (hS.pick (A := wrA g4 _) (by repeat constructor)).recast (show _ = wrA g4 (wb7 38 x) from rfl)
  refine c_region ?_
  refine t_q (q_load1 Try.isAgg3 rfl (hS.cell (by repeat constructor) rfl)) ?_
  refine t_q (q_cast (v' := .int .i64 0) (q_and rfl rfl) (by rfl)) ?_
  refine t_q (q_neq rfl rfl) ?_
  refine t_nil ?_
  refine c_cond_f rfl rfl ?_
  refine c_skip (c_seq ?_)
  replace hS := (hS.pick (A := wrA g4 _) (by repeat constructor)).recast (show _ = wrA g4 (wb8 38 x) from rfl)
  refine c_region ?_
  refine t_call Try.call72 (Bytes_calls hS (by repeat constructor) (by omega)) rfl ?_
  rintro e w ⟨A86, c86, rfl, hc86, hS⟩
  refine ⟨_, rfl, ?_⟩
  refine t_q (q_as (.slice _ _ _) rfl) ?_
  refine t_nil (c_ret ?_)
  refine r_one rfl rfl ?_
  exact ⟨A86, c86, rfl, hc86, (hS.pick (A := rowA 5 1 A86 _ c86 _) (by repeat constructor)).front1⟩
set_option maxHeartbeats 1000000 in
set_option maxRecDepth 100000 in
theorem wbody_6 {x : MsgV} (hx : x.Gd W) (hs : Snd x) (hk : x.kind = 6) (h8 : (wb8 2 x).length ≤ 1000000000) : Calls Try.prog 114 #[.agg x.cells.toArray] W fun e w' => ∃ A' c', e = .returned (.slice A' (wb8 2 x).length c') ∧ (wb8 2 x).length ≤ c' ∧ St W w' [rowA 5 1 A' (wb8 2 x).length c' ((wb8 2 x).map bv)] := by
 have hS := St.init W
 obtain ⟨l0, l1, l2, l3, l4, l5⟩ := wb_lens hx hs 2
 have q1 := hs.frm
 have q2 := hs.to
 have q3 := hs.ents
 have q4 := hx.term
 have q5 := hs.body
 have q6 := hx.client
 have q7 := hx.req
 have q8 := enc_ten (n := x.client.toNat) (by omega)
 have q9 := enc_ten (n := x.req.toNat) (by omega)
 have l6 : (wb6 2 x).length ≤ 81 + 542 * x.entries.l.length := by have := ents_len x.entries.l hx.eok hs.ebody; unfold wb6; rw [List.length_append]; omega
 have q10 := enc_ten (n := x.body.l.length) (by omega)
 have l7 : (wb7 2 x).length ≤ 600000 := by unfold wb7; split <;> (try simp only [List.length_append]) <;> omega
 refine calls_of_wpE (args := [_]) Try.func114 rfl rfl rfl ?_
 refine c_seq (c_region ?_)
 refine t_box (v := (.agg _)) rfl rfl hS (fun g1 w hS => ?_)
 replace hS := hS.recast (show _ = bmA g1 114 x from rfl)
 refine t_q (q_assign) ?_
 refine t_nil (c_seq (c_region ?_))
 refine t_q (q_fieldAddr 0 Try.runUnderlying114 rfl Try.sizeOf3 (by decide) rfl rfl) ?_
 refine t_q (q_cast (v' := .int .i64 6) (q_load1 Try.isAgg3 rfl (hS.cell (by repeat constructor) rfl)) (by rw [hk])) ?_
 refine t_call Try.call102 (fields_6) rfl ?_
 rintro e w ⟨rfl, hT⟩
 refine ⟨_, rfl, ?_⟩
 replace hS := hS.after hT
 refine t_alloc Try.zeroValue3 rfl hS (fun g3 w hS => ?_)
 refine t_store (v := (.int _ _)) Try.sizeOf3 hS (by repeat constructor) rfl rfl rfl rfl rfl rfl (fun w hS => ?_)
 replace hS := hS.recast (show _ = blkA g3 3 [.int .i64 2] from rfl)
 refine t_nil (c_seq (c_region ?_))
 refine t_alloc Try.zeroValue135 rfl hS (fun g4 w hS => ?_)
 replace hS := hS.wr0
 refine t_nil (c_seq (c_region ?_))
 refine t_q (q_fieldAddr 0 Try.runUnderlying114 rfl Try.sizeOf3 (by decide) rfl rfl) ?_
 refine t_q (q_load1 Try.isAgg3 rfl (hS.cell (by repeat constructor) rfl)) ?_
 first | refine t_q (q_conv_u64 Try.runUnderlying3 Try.runUnderlying43 rfl (by omega)) ?_ | refine t_q (q_convm_u64 Try.runUnderlying3 Try.runUnderlying43 rfl) ?_
 refine t_q (q_fieldAddr 1 Try.runUnderlying114 rfl Try.sizeOf3 (by decide) rfl rfl) ?_
 refine t_q (q_load1 Try.isAgg3 rfl (hS.cell (by repeat constructor) rfl)) ?_
 first | refine t_q (q_conv_u64 Try.runUnderlying3 Try.runUnderlying43 rfl (by omega)) ?_ | refine t_q (q_convm_u64 Try.runUnderlying3 Try.runUnderlying43 rfl) ?_
 refine t_q (q_fieldAddr 2 Try.runUnderlying114 rfl Try.sizeOf3 (by decide) rfl rfl) ?_
 refine t_q (q_load1 Try.isAgg3 rfl (hS.cell (by repeat constructor) rfl)) ?_
 first | refine t_q (q_conv_u64 Try.runUnderlying3 Try.runUnderlying43 rfl (by omega)) ?_ | refine t_q (q_convm_u64 Try.runUnderlying3 Try.runUnderlying43 rfl) ?_
 refine t_q (q_fieldAddr 3 Try.runUnderlying114 rfl Try.sizeOf43 (by decide) rfl rfl) ?_
 refine t_q (q_load1 Try.isAgg43 rfl (hS.cell (by repeat constructor) rfl)) ?_
 refine t_build_ints [_, _, _, _] Try.runUnderlying194 Try.sizeOf43 Try.zeroValue43 rfl rfl (by decide) hS (fun g22 w hS => ?_)
 refine t_call Try.call78 (Nat_calls (ns := [x.kind, x.frm, x.to, x.term]) hS (by repeat constructor) (fun _ h => h.rowInts (.here _ _) rfl) (by intro m hm; simp only [List.mem_cons, List.not_mem_nil, or_false] at hm; omega) (by simp) (by first | (simp; done) | omega | (rw [List.length_append]; omega))) rfl ?_
 rintro e w ⟨rfl, hS⟩
 refine ⟨_, rfl, ?_⟩
 replace hS := hS.swap.recast (congrArg (wrA g4) (show _ = wb0 x from by unfold encs; simp [wb0]))
 refine t_nil (c_seq (c_seq (c_region ?_)))
 refine t_q (q_load1 Try.isAgg3 rfl (hS.cell (by repeat constructor) rfl)) ?_
 refine t_q (q_cast (v' := .int .i64 0) (q_and rfl rfl) (by rfl)) ?_
 refine t_q (q_neq rfl rfl) ?_
 refine t_nil ?_
 refine c_cond_f rfl rfl ?_
 refine c_skip (c_seq ?_)
 replace hS := (hS.pick (A := wrA g4 _) (by repeat constructor)).recast (show _ = wrA g4 (wb1 2 x) from rfl)
 refine c_region ?_
 refine t_q (q_makeFunc rfl) ?_
 refine t_q (q_as (.func _ _ _) rfl) ?_
 refine t_nil (c_seq (c_region ?_))
 refine t_q (q_mv (.func _ _ _) rfl) ?_
 refine t_q (q_fieldAddr 4 Try.runUnderlying114 rfl Try.sizeOf43 (by decide) rfl rfl) ?_
 refine t_q (q_load1 Try.isAgg43 rfl (hS.cell (by repeat constructor) rfl)) ?_
 refine t_callv Try.call143 rfl (num_yes (v := 2) (m := 2) (n := x.index) (by decide) (((hS.pick (A := blkA g3 3 [.int .i64 2]) (by repeat constructor)).pick (A := wrA g4 _) (by repeat constructor))) hx.index (by omega)) rfl ?_
 rintro e w ⟨rfl, hS⟩
 refine ⟨_, rfl, ?_⟩
 replace hS := (hS.pick (A := wrA g4 _) (by repeat constructor)).recast (show _ = wrA g4 (wb2 2 x) from rfl)
 refine t_nil (c_seq (c_region ?_))
 refine t_q (q_mv (.func _ _ _) rfl) ?_
 refine t_q (q_fieldAddr 5 Try.runUnderlying114 rfl Try.sizeOf43 (by decide) rfl rfl) ?_
 refine t_q (q_load1 Try.isAgg43 rfl (hS.cell (by repeat constructor) rfl)) ?_
 refine t_callv Try.call143 rfl (num_no (v := 2) (m := 4) (n := x.logTerm) (by decide) (((hS.pick (A := blkA g3 3 [.int .i64 2]) (by repeat constructor)).pick (A := wrA g4 _) (by repeat constructor))) hx.logTerm (by omega)) rfl ?_
 rintro e w ⟨rfl, hS⟩
 refine ⟨_, rfl, ?_⟩
 replace hS := (hS.pick (A := wrA g4 _) (by repeat constructor)).recast (show _ = wrA g4 (wb3 2 x) from rfl)
 refine t_nil (c_seq (c_region ?_))
 refine t_q (q_mv (.func _ _ _) rfl) ?_
 refine t_q (q_fieldAddr 6 Try.runUnderlying114 rfl Try.sizeOf43 (by decide) rfl rfl) ?_
 refine t_q (q_load1 Try.isAgg43 rfl (hS.cell (by repeat constructor) rfl)) ?_
 refine t_callv Try.call143 rfl (num_no (v := 2) (m := 8) (n := x.commit) (by decide) (((hS.pick (A := blkA g3 3 [.int .i64 2]) (by repeat constructor)).pick (A := wrA g4 _) (by repeat constructor))) hx.commit (by omega)) rfl ?_
 rintro e w ⟨rfl, hS⟩
 refine ⟨_, rfl, ?_⟩
 replace hS := (hS.pick (A := wrA g4 _) (by repeat constructor)).recast (show _ = wrA g4 (wb4 2 x) from rfl)
 refine t_nil (c_seq (c_region ?_))
 refine t_q (q_mv (.func _ _ _) rfl) ?_
 refine t_q (q_fieldAddr 8 Try.runUnderlying114 rfl Try.sizeOf111 (by decide) rfl rfl) ?_
 refine t_q (q_load1 Try.isAgg111 rfl (hS.cell (by repeat constructor) rfl)) ?_
 refine t_q (q_len_slice Try.runUnderlying111 rfl) ?_
 first | refine t_q (q_conv_u64 Try.runUnderlying3 Try.runUnderlying43 rfl (by omega)) ?_ | refine t_q (q_convm_u64 Try.runUnderlying3 Try.runUnderlying43 rfl) ?_
 refine t_callv Try.call143 rfl (num_no (v := 2) (m := 16) (n := (x.entries.l.length : Int)) (by decide) (((hS.pick (A := blkA g3 3 [.int .i64 2]) (by repeat constructor)).pick (A := wrA g4 _) (by repeat constructor))) (by omega) (by omega)) rfl ?_
 rintro e w ⟨rfl, hS⟩
 refine ⟨_, rfl, ?_⟩
 replace hS := (hS.pick (A := wrA g4 _) (by repeat constructor)).recast (show _ = wrA g4 (wb5 2 x) from rfl)
 refine t_nil (c_seq (c_seq (c_region ?_)))
 refine t_q (q_fieldAddr 8 Try.runUnderlying114 rfl Try.sizeOf111 (by decide) rfl rfl) ?_
 refine t_q (q_load1 Try.isAgg111 rfl (hS.cell (by repeat constructor) rfl)) ?_
 refine t_q (q_len_slice Try.runUnderlying111 rfl) ?_
 refine t_q (q_move) ?_
 refine t_nil (c_block ?_)
 refine c_loop [7, 52, 53, 54, 55, 56, 57, 58, 59, 60, 61, 62, 63, 64, 65, 66] (fun k σ w => ∃ j : Nat, σ 52 = .int .i64 (j : Int) ∧ j ≤ x.entries.l.length ∧ x.entries.l.length - j ≤ k ∧ St W w [wrA g4 (wb5 2 x ++ (x.entries.l.take j).flatMap entB), blkA g3 3 [.int .i64 2], bmA g1 114 x]) (x.entries.l.length) rfl (⟨0, rfl, by omega, by omega, by have h := ((((hS.pick (A := bmA g1 114 x) (by repeat constructor)).pick (A := blkA g3 3 [.int .i64 2]) (by repeat constructor)).pick (A := wrA g4 _) (by repeat constructor))).front3; exact h.recast (congrArg (wrA g4) (show _ = wb5 2 x ++ [] from (List.append_nil _).symm))⟩) ?_
 skip
 rintro k σ w ⟨j, h52, hj, hk2, hS⟩
 refine c_know 52 h52 ?_
 clear h52
 have lp : ((x.entries.l.take j).flatMap entB).length ≤ 542 * 32 := by
   have h := ents_len (x.entries.l.take j) (fun e he => hx.eok e (List.mem_of_mem_take he)) (fun e he => hs.ebody e (List.mem_of_mem_take he))
   rw [List.length_take] at h
   omega
 have lq : (wb5 2 x ++ (x.entries.l.take j).flatMap entB).length ≤ 81 + 542 * 32 := by rw [List.length_append]; omega
 refine c_seq (c_region ?_)
 refine t_q (q_lss rfl rfl) ?_
 refine t_nil (c_seq ?_)
 refine c_cond rfl ?_ ?_
 ·
  intro hc9
  have hc9d := of_decide_eq_true hc9
  refine c_skip (c_seq (c_block (c_seq (c_region ?_))))
  first | refine t_index_nat Try.runUnderlying111 Try.sizeOf169 (Rd.st hx.erd hS) rfl rfl (by omega) (fun ad10 hl10 hx10 => ?_) | refine t_index Try.runUnderlying111 Try.sizeOf169 (Rd.st hx.erd hS) rfl rfl (by omega) (fun ad10 hl10 hx10 => ?_)
  refine t_q (q_loadN Try.isAgg169 Try.sizeOf169 rfl hl10 hx10) ?_
  refine t_alloc Try.zeroValue169 rfl hS (fun g7 w hS => ?_)
  refine t_store (v := (.agg _)) Try.sizeOf169 hS (by repeat constructor) rfl rfl rfl rfl rfl rfl (fun w hS => ?_)
  obtain ⟨z, hz⟩ : ∃ z, z = (x.entries.l.getD j default) := ⟨_, rfl⟩
  replace hS := hS.recast (show blkA g7 169 _ = blkA g7 169 [.int .u64 z.index, .int .u64 z.term, .slice z.body.A z.body.l.length z.body.c] from by rw [hz]; rfl)
  have hzm : z ∈ x.entries.l := by rw [hz]; exact getD_mem (by omega)
  have hzg := hx.eok z hzm
  have hz5 := hs.ebody z hzm
  have hzi := hzg.index
  have hzt := hzg.term
  have qz1 := enc_ten (n := z.index.toNat) (by omega)
  have qz2 := enc_ten (n := z.term.toNat) (by omega)
  refine t_nil (c_seq (c_region ?_))
  refine t_q (q_fieldAddr 0 Try.runUnderlying169 rfl Try.sizeOf43 (by decide) rfl rfl) ?_
  refine t_q (q_load1 Try.isAgg43 rfl (hS.cell (by repeat constructor) rfl)) ?_
  refine t_q (q_fieldAddr 1 Try.runUnderlying169 rfl Try.sizeOf43 (by decide) rfl rfl) ?_
  refine t_q (q_load1 Try.isAgg43 rfl (hS.cell (by repeat constructor) rfl)) ?_
  refine t_build_ints [_, _] Try.runUnderlying194 Try.sizeOf43 Try.zeroValue43 rfl rfl (by decide) hS (fun g60 w hS => ?_)
  refine t_call Try.call78 (Nat_calls (ns := [z.index, z.term]) hS (by repeat constructor) (fun _ h => h.rowInts (.here _ _) rfl) (by intro m hm; simp only [List.mem_cons, List.not_mem_nil, or_false] at hm; omega) (by simp) (by first | (simp; done) | omega | (rw [List.length_append]; omega))) rfl ?_
  rintro e w ⟨rfl, hS⟩
  refine ⟨_, rfl, ?_⟩
  replace hS := hS.swap.recast (congrArg (wrA g4) (show _ = (wb5 2 x ++ (x.entries.l.take j).flatMap entB) ++ (enc z.index.toNat ++ enc z.term.toNat) from by unfold encs; simp [wb0]))
  refine t_nil (c_region ?_)
  refine t_q (q_fieldAddr 2 Try.runUnderlying169 rfl Try.sizeOf25 (by decide) rfl rfl) ?_
  refine t_q (q_load1 Try.isAgg25 rfl (hS.cell (by repeat constructor) rfl)) ?_
  refine t_q (q_string Try.runUnderlying25 Try.runUnderlying5 Try.runUnderlying9 rfl rfl (Rd.st hzg.rd hS)) ?_
  refine t_call Try.call70 (Text_calls (s := ⟨z.body.l.toArray⟩) hS (by repeat constructor) (by show z.body.l.toArray.size ≤ _; rw [List.size_toArray]; omega) (by simp only [List.length_append]; omega)) rfl ?_
  rintro e w ⟨rfl, hS⟩
  refine ⟨_, rfl, ?_⟩
  refine t_nil (c_region ?_)
  refine t_q (q_add_i64 rfl rfl (by omega)) ?_
  refine t_q (q_mv (.int _ _) rfl) ?_
  refine t_nil ?_
  exact ⟨k - 1, by omega, j + 1, rfl, by omega, by omega, by have h := ((((hS.pick (A := bmA g1 114 x) (by repeat constructor)).pick (A := blkA g3 3 [.int .i64 2]) (by repeat constructor)).pick (A := wrA g4 _) (by repeat constructor))).front3; exact h.recast (congrArg (wrA g4) (by rw [entB_take (by omega), ← hz]; show _ ++ enc z.body.l.toArray.size ++ z.body.l.toArray.toList = _; simp [entB]))⟩
 ·
  intro hc9
  have hc9d := of_decide_eq_false hc9
  obtain rfl : j = x.entries.l.length := by omega
  replace hS := (hS.pick (A := wrA g4 _) (by repeat constructor)).recast (show _ = wrA g4 (wb6 2 x) from congrArg (wrA g4) (by rw [List.take_length]; rfl))
  refine c_exit ?_
  refine ite_t rfl ?_
  refine c_seq (c_seq (c_region ?_))
  refine t_q (q_load1 Try.isAgg3 rfl (hS.cell (by repeat constructor) rfl)) ?_
  refine t_q (q_cast (v' := .int .i64 0) (q_and rfl rfl) (by rfl)) ?_
  refine t_q (q_neq rfl rfl) ?_
  refine t_nil ?_
  refine c_cond_f rfl rfl ?_
  refine c_skip (c_seq (c_seq ?_))
  replace hS := (hS.pick (A := wrA g4 _) (by repeat constructor)).recast (show _ = wrA g4 (wb7 2 x) from rfl)
  refine c_region ?_
  refine t_q (q_load1 Try.isAgg3 rfl (hS.cell (by repeat constructor) rfl)) ?_
  refine t_q (q_cast (v' := .int .i64 0) (q_and rfl rfl) (by rfl)) ?_
  refine t_q (q_neq rfl rfl) ?_
  refine t_nil ?_
  refine c_cond_f rfl rfl ?_
  refine c_skip (c_seq ?_)
  replace hS := (hS.pick (A := wrA g4 _) (by repeat constructor)).recast (show _ = wrA g4 (wb8 2 x) from rfl)
  refine c_region ?_
  refine t_call Try.call72 (Bytes_calls hS (by repeat constructor) (by omega)) rfl ?_
  rintro e w ⟨A86, c86, rfl, hc86, hS⟩
  refine ⟨_, rfl, ?_⟩
  refine t_q (q_as (.slice _ _ _) rfl) ?_
  refine t_nil (c_ret ?_)
  refine r_one rfl rfl ?_
  exact ⟨A86, c86, rfl, hc86, (hS.pick (A := rowA 5 1 A86 _ c86 _) (by repeat constructor)).front1⟩
set_option maxHeartbeats 1000000 in
set_option maxRecDepth 100000 in
theorem wbody_7 {x : MsgV} (hx : x.Gd W) (hs : Snd x) (hk : x.kind = 7) (h8 : (wb8 32 x).length ≤ 1000000000) : Calls Try.prog 114 #[.agg x.cells.toArray] W fun e w' => ∃ A' c', e = .returned (.slice A' (wb8 32 x).length c') ∧ (wb8 32 x).length ≤ c' ∧ St W w' [rowA 5 1 A' (wb8 32 x).length c' ((wb8 32 x).map bv)] := by
 have hS := St.init W
 obtain ⟨l0, l1, l2, l3, l4, l5⟩ := wb_lens hx hs 32
 have q1 := hs.frm
 have q2 := hs.to
 have q3 := hs.ents
 have q4 := hx.term
 have q5 := hs.body
 have q6 := hx.client
 have q7 := hx.req
 have q8 := enc_ten (n := x.client.toNat) (by omega)
 have q9 := enc_ten (n := x.req.toNat) (by omega)
 have l6 : (wb6 32 x).length ≤ 81 + 542 * x.entries.l.length := by have := ents_len x.entries.l hx.eok hs.ebody; unfold wb6; rw [List.length_append]; omega
 have q10 := enc_ten (n := x.body.l.length) (by omega)
 have l7 : (wb7 32 x).length ≤ 600000 := by unfold wb7; split <;> (try simp only [List.length_append]) <;> omega
 refine calls_of_wpE (args := [_]) Try.func114 rfl rfl rfl ?_
 refine c_seq (c_region ?_)
 refine t_box (v := (.agg _)) rfl rfl hS (fun g1 w hS => ?_)
 replace hS := hS.recast (show _ = bmA g1 114 x from rfl)
 refine t_q (q_assign) ?_
 refine t_nil (c_seq (c_region ?_))
 refine t_q (q_fieldAddr 0 Try.runUnderlying114 rfl Try.sizeOf3 (by decide) rfl rfl) ?_
 refine t_q (q_cast (v' := .int .i64 7) (q_load1 Try.isAgg3 rfl (hS.cell (by repeat constructor) rfl)) (by rw [hk])) ?_
 refine t_call Try.call102 (fields_7) rfl ?_
 rintro e w ⟨rfl, hT⟩
 refine ⟨_, rfl, ?_⟩
 replace hS := hS.after hT
 refine t_alloc Try.zeroValue3 rfl hS (fun g3 w hS => ?_)
 refine t_store (v := (.int _ _)) Try.sizeOf3 hS (by repeat constructor) rfl rfl rfl rfl rfl rfl (fun w hS => ?_)
 replace hS := hS.recast (show _ = blkA g3 3 [.int .i64 32] from rfl)
 refine t_nil (c_seq (c_region ?_))
 refine t_alloc Try.zeroValue135 rfl hS (fun g4 w hS => ?_)
 replace hS := hS.wr0
 refine t_nil (c_seq (c_region ?_))
 refine t_q (q_fieldAddr 0 Try.runUnderlying114 rfl Try.sizeOf3 (by decide) rfl rfl) ?_
 refine t_q (q_load1 Try.isAgg3 rfl (hS.cell (by repeat constructor) rfl)) ?_
 first | refine t_q (q_conv_u64 Try.runUnderlying3 Try.runUnderlying43 rfl (by omega)) ?_ | refine t_q (q_convm_u64 Try.runUnderlying3 Try.runUnderlying43 rfl) ?_
 refine t_q (q_fieldAddr 1 Try.runUnderlying114 rfl Try.sizeOf3 (by decide) rfl rfl) ?_
 refine t_q (q_load1 Try.isAgg3 rfl (hS.cell (by repeat constructor) rfl)) ?_
 first | refine t_q (q_conv_u64 Try.runUnderlying3 Try.runUnderlying43 rfl (by omega)) ?_ | refine t_q (q_convm_u64 Try.runUnderlying3 Try.runUnderlying43 rfl) ?_
 refine t_q (q_fieldAddr 2 Try.runUnderlying114 rfl Try.sizeOf3 (by decide) rfl rfl) ?_
 refine t_q (q_load1 Try.isAgg3 rfl (hS.cell (by repeat constructor) rfl)) ?_
 first | refine t_q (q_conv_u64 Try.runUnderlying3 Try.runUnderlying43 rfl (by omega)) ?_ | refine t_q (q_convm_u64 Try.runUnderlying3 Try.runUnderlying43 rfl) ?_
 refine t_q (q_fieldAddr 3 Try.runUnderlying114 rfl Try.sizeOf43 (by decide) rfl rfl) ?_
 refine t_q (q_load1 Try.isAgg43 rfl (hS.cell (by repeat constructor) rfl)) ?_
 refine t_build_ints [_, _, _, _] Try.runUnderlying194 Try.sizeOf43 Try.zeroValue43 rfl rfl (by decide) hS (fun g22 w hS => ?_)
 refine t_call Try.call78 (Nat_calls (ns := [x.kind, x.frm, x.to, x.term]) hS (by repeat constructor) (fun _ h => h.rowInts (.here _ _) rfl) (by intro m hm; simp only [List.mem_cons, List.not_mem_nil, or_false] at hm; omega) (by simp) (by first | (simp; done) | omega | (rw [List.length_append]; omega))) rfl ?_
 rintro e w ⟨rfl, hS⟩
 refine ⟨_, rfl, ?_⟩
 replace hS := hS.swap.recast (congrArg (wrA g4) (show _ = wb0 x from by unfold encs; simp [wb0]))
 refine t_nil (c_seq (c_seq (c_region ?_)))
 refine t_q (q_load1 Try.isAgg3 rfl (hS.cell (by repeat constructor) rfl)) ?_
 refine t_q (q_cast (v' := .int .i64 0) (q_and rfl rfl) (by rfl)) ?_
 refine t_q (q_neq rfl rfl) ?_
 refine t_nil ?_
 refine c_cond_f rfl rfl ?_
 refine c_skip (c_seq ?_)
 replace hS := (hS.pick (A := wrA g4 _) (by repeat constructor)).recast (show _ = wrA g4 (wb1 32 x) from rfl)
 refine c_region ?_
 refine t_q (q_makeFunc rfl) ?_
 refine t_q (q_as (.func _ _ _) rfl) ?_
 refine t_nil (c_seq (c_region ?_))
 refine t_q (q_mv (.func _ _ _) rfl) ?_
 refine t_q (q_fieldAddr 4 Try.runUnderlying114 rfl Try.sizeOf43 (by decide) rfl rfl) ?_
 refine t_q (q_load1 Try.isAgg43 rfl (hS.cell (by repeat constructor) rfl)) ?_
 refine t_callv Try.call143 rfl (num_no (v := 32) (m := 2) (n := x.index) (by decide) (((hS.pick (A := blkA g3 3 [.int .i64 32]) (by repeat constructor)).pick (A := wrA g4 _) (by repeat constructor))) hx.index (by omega)) rfl ?_
 rintro e w ⟨rfl, hS⟩
 refine ⟨_, rfl, ?_⟩
 replace hS := (hS.pick (A := wrA g4 _) (by repeat constructor)).recast (show _ = wrA g4 (wb2 32 x) from rfl)
 refine t_nil (c_seq (c_region ?_))
 refine t_q (q_mv (.func _ _ _) rfl) ?_
 refine t_q (q_fieldAddr 5 Try.runUnderlying114 rfl Try.sizeOf43 (by decide) rfl rfl) ?_
 refine t_q (q_load1 Try.isAgg43 rfl (hS.cell (by repeat constructor) rfl)) ?_
 refine t_callv Try.call143 rfl (num_no (v := 32) (m := 4) (n := x.logTerm) (by decide) (((hS.pick (A := blkA g3 3 [.int .i64 32]) (by repeat constructor)).pick (A := wrA g4 _) (by repeat constructor))) hx.logTerm (by omega)) rfl ?_
 rintro e w ⟨rfl, hS⟩
 refine ⟨_, rfl, ?_⟩
 replace hS := (hS.pick (A := wrA g4 _) (by repeat constructor)).recast (show _ = wrA g4 (wb3 32 x) from rfl)
 refine t_nil (c_seq (c_region ?_))
 refine t_q (q_mv (.func _ _ _) rfl) ?_
 refine t_q (q_fieldAddr 6 Try.runUnderlying114 rfl Try.sizeOf43 (by decide) rfl rfl) ?_
 refine t_q (q_load1 Try.isAgg43 rfl (hS.cell (by repeat constructor) rfl)) ?_
 refine t_callv Try.call143 rfl (num_no (v := 32) (m := 8) (n := x.commit) (by decide) (((hS.pick (A := blkA g3 3 [.int .i64 32]) (by repeat constructor)).pick (A := wrA g4 _) (by repeat constructor))) hx.commit (by omega)) rfl ?_
 rintro e w ⟨rfl, hS⟩
 refine ⟨_, rfl, ?_⟩
 replace hS := (hS.pick (A := wrA g4 _) (by repeat constructor)).recast (show _ = wrA g4 (wb4 32 x) from rfl)
 refine t_nil (c_seq (c_region ?_))
 refine t_q (q_mv (.func _ _ _) rfl) ?_
 refine t_q (q_fieldAddr 8 Try.runUnderlying114 rfl Try.sizeOf111 (by decide) rfl rfl) ?_
 refine t_q (q_load1 Try.isAgg111 rfl (hS.cell (by repeat constructor) rfl)) ?_
 refine t_q (q_len_slice Try.runUnderlying111 rfl) ?_
 first | refine t_q (q_conv_u64 Try.runUnderlying3 Try.runUnderlying43 rfl (by omega)) ?_ | refine t_q (q_convm_u64 Try.runUnderlying3 Try.runUnderlying43 rfl) ?_
 refine t_callv Try.call143 rfl (num_no (v := 32) (m := 16) (n := (x.entries.l.length : Int)) (by decide) (((hS.pick (A := blkA g3 3 [.int .i64 32]) (by repeat constructor)).pick (A := wrA g4 _) (by repeat constructor))) (by omega) (by omega)) rfl ?_
 rintro e w ⟨rfl, hS⟩
 refine ⟨_, rfl, ?_⟩
 replace hS := (hS.pick (A := wrA g4 _) (by repeat constructor)).recast (show _ = wrA g4 (wb5 32 x) from rfl)
 refine t_nil (c_seq (c_seq (c_region ?_)))
 refine t_q (q_fieldAddr 8 Try.runUnderlying114 rfl Try.sizeOf111 (by decide) rfl rfl) ?_
 refine t_q (q_load1 Try.isAgg111 rfl (hS.cell (by repeat constructor) rfl)) ?_
 refine t_q (q_len_slice Try.runUnderlying111 rfl) ?_
 refine t_q (q_move) ?_
 refine t_nil (c_block ?_)
 refine c_loop [7, 52, 53, 54, 55, 56, 57, 58, 59, 60, 61, 62, 63, 64, 65, 66] (fun k σ w => ∃ j : Nat, σ 52 = .int .i64 (j : Int) ∧ j ≤ x.entries.l.length ∧ x.entries.l.length - j ≤ k ∧ St W w [wrA g4 (wb5 32 x ++ (x.entries.l.take j).flatMap entB), blkA g3 3 [.int .i64 32], bmA g1 114 x]) (x.entries.l.length) rfl (⟨0, rfl, by omega, by omega, by have h := ((((hS.pick (A := bmA g1 114 x) (by repeat constructor)).pick (A := blkA g3 3 [.int .i64 32]) (by repeat constructor)).pick (A := wrA g4 _) (by repeat constructor))).front3; exact h.recast (congrArg (wrA g4) (show _ = wb5 32 x ++ [] from (List.append_nil _).symm))⟩) ?_
 skip
 rintro k σ w ⟨j, h52, hj, hk2, hS⟩
 refine c_know 52 h52 ?_
 clear h52
 have lp : ((x.entries.l.take j).flatMap entB).length ≤ 542 * 32 := by
   have h := ents_len (x.entries.l.take j) (fun e he => hx.eok e (List.mem_of_mem_take he)) (fun e he => hs.ebody e (List.mem_of_mem_take he))
   rw [List.length_take] at h
   omega
 have lq : (wb5 32 x ++ (x.entries.l.take j).flatMap entB).length ≤ 81 + 542 * 32 := by rw [List.length_append]; omega
 refine c_seq (c_region ?_)
 refine t_q (q_lss rfl rfl) ?_
 refine t_nil (c_seq ?_)
 refine c_cond rfl ?_ ?_
 ·
  intro hc9
  have hc9d := of_decide_eq_true hc9
  refine c_skip (c_seq (c_block (c_seq (c_region ?_))))
  first | refine t_index_nat Try.runUnderlying111 Try.sizeOf169 (Rd.st hx.erd hS) rfl rfl (by omega) (fun ad10 hl10 hx10 => ?_) | refine t_index Try.runUnderlying111 Try.sizeOf169 (Rd.st hx.erd hS) rfl rfl (by omega) (fun ad10 hl10 hx10 => ?_)
  refine t_q (q_loadN Try.isAgg169 Try.sizeOf169 rfl hl10 hx10) ?_
  refine t_alloc Try.zeroValue169 rfl hS (fun g7 w hS => ?_)
  refine t_store (v := (.agg _)) Try.sizeOf169 hS (by repeat constructor) rfl rfl rfl rfl rfl rfl (fun w hS => ?_)
  obtain ⟨z, hz⟩ : ∃ z, z = (x.entries.l.getD j default) := ⟨_, rfl⟩
  replace hS := hS.recast (show blkA g7 169 _ = blkA g7 169 [.int .u64 z.index, .int .u64 z.term, .slice z.body.A z.body.l.length z.body.c] from by rw [hz]; rfl)
  have hzm : z ∈ x.entries.l := by rw [hz]; exact getD_mem (by omega)
  have hzg := hx.eok z hzm
  have hz5 := hs.ebody z hzm
  have hzi := hzg.index
  have hzt := hzg.term
  have qz1 := enc_ten (n := z.index.toNat) (by omega)
  have qz2 := enc_ten (n := z.term.toNat) (by omega)
  refine t_nil (c_seq (c_region ?_))
  refine t_q (q_fieldAddr 0 Try.runUnderlying169 rfl Try.sizeOf43 (by decide) rfl rfl) ?_
  refine t_q (q_load1 Try.isAgg43 rfl (hS.cell (by repeat constructor) rfl)) ?_
  refine t_q (q_fieldAddr 1 Try.runUnderlying169 rfl Try.sizeOf43 (by decide) rfl rfl) ?_
  refine t_q (q_load1 Try.isAgg43 rfl (hS.cell (by repeat constructor) rfl)) ?_
  refine t_build_ints [_, _] Try.runUnderlying194 Try.sizeOf43 Try.zeroValue43 rfl rfl (by decide) hS (fun g60 w hS => ?_)
  refine t_call Try.call78 (Nat_calls (ns := [z.index, z.term]) hS (by repeat constructor) (fun _ h => h.rowInts (.here _ _) rfl) (by intro m hm; simp only [List.mem_cons, List.not_mem_nil, or_false] at hm; omega) (by simp) (by first | (simp; done) | omega | (rw [List.length_append]; omega))) rfl ?_
  rintro e w ⟨rfl, hS⟩
  refine ⟨_, rfl, ?_⟩
  replace hS := hS.swap.recast (congrArg (wrA g4) (show _ = (wb5 32 x ++ (x.entries.l.take j).flatMap entB) ++ (enc z.index.toNat ++ enc z.term.toNat) from by unfold encs; simp [wb0]))
  refine t_nil (c_region ?_)
  refine t_q (q_fieldAddr 2 Try.runUnderlying169 rfl Try.sizeOf25 (by decide) rfl rfl) ?_
  refine t_q (q_load1 Try.isAgg25 rfl (hS.cell (by repeat constructor) rfl)) ?_
  refine t_q (q_string Try.runUnderlying25 Try.runUnderlying5 Try.runUnderlying9 rfl rfl (Rd.st hzg.rd hS)) ?_
  refine t_call Try.call70 (Text_calls (s := ⟨z.body.l.toArray⟩) hS (by repeat constructor) (by show z.body.l.toArray.size ≤ _; rw [List.size_toArray]; omega) (by simp only [List.length_append]; omega)) rfl ?_
  rintro e w ⟨rfl, hS⟩
  refine ⟨_, rfl, ?_⟩
  refine t_nil (c_region ?_)
  refine t_q (q_add_i64 rfl rfl (by omega)) ?_
  refine t_q (q_mv (.int _ _) rfl) ?_
  refine t_nil ?_
  exact ⟨k - 1, by omega, j + 1, rfl, by omega, by omega, by have h := ((((hS.pick (A := bmA g1 114 x) (by repeat constructor)).pick (A := blkA g3 3 [.int .i64 32]) (by repeat constructor)).pick (A := wrA g4 _) (by repeat constructor))).front3; exact h.recast (congrArg (wrA g4) (by rw [entB_take (by omega), ← hz]; show _ ++ enc z.body.l.toArray.size ++ z.body.l.toArray.toList = _; simp [entB]))⟩
 ·
  intro hc9
  have hc9d := of_decide_eq_false hc9
  obtain rfl : j = x.entries.l.length := by omega
  replace hS := (hS.pick (A := wrA g4 _) (by repeat constructor)).recast (show _ = wrA g4 (wb6 32 x) from congrArg (wrA g4) (by rw [List.take_length]; rfl))
  refine c_exit ?_
  refine ite_t rfl ?_
  refine c_seq (c_seq (c_region ?_))
  refine t_q (q_load1 Try.isAgg3 rfl (hS.cell (by repeat constructor) rfl)) ?_
  refine t_q (q_cast (v' := .int .i64 32) (q_and rfl rfl) (by rfl)) ?_
  refine t_q (q_neq rfl rfl) ?_
  refine t_nil ?_
  refine c_cond_t rfl rfl ?_
  refine c_region ?_
  refine t_q (q_fieldAddr 9 Try.runUnderlying114 rfl Try.sizeOf25 (by decide) rfl rfl) ?_
  refine t_q (q_load1 Try.isAgg25 rfl (hS.cell (by repeat constructor) rfl)) ?_
  refine t_q (q_string Try.runUnderlying25 Try.runUnderlying5 Try.runUnderlying9 rfl rfl (Rd.st hx.brd hS)) ?_
  refine t_call Try.call70 (Text_calls (s := ⟨x.body.l.toArray⟩) hS (by repeat constructor) (by show x.body.l.toArray.size ≤ _; rw [List.size_toArray]; omega) (by omega)) rfl ?_
  rintro e w ⟨rfl, hS⟩
  refine ⟨_, rfl, ?_⟩
  replace hS := hS.recast (congrArg (wrA g4) (show _ = wb6 32 x ++ (enc x.body.l.length ++ x.body.l) from by show _ ++ enc x.body.l.toArray.size ++ x.body.l.toArray.toList = _; simp))
  refine t_nil (c_seq (c_seq ?_))
  replace hS := (hS.pick (A := wrA g4 _) (by repeat constructor)).recast (show _ = wrA g4 (wb7 32 x) from rfl)
  refine c_region ?_
  refine t_q (q_load1 Try.isAgg3 rfl (hS.cell (by repeat constructor) rfl)) ?_
  refine t_q (q_cast (v' := .int .i64 0) (q_and rfl rfl) (by rfl)) ?_
  refine t_q (q_neq rfl rfl) ?_
  refine t_nil ?_
  refine c_cond_f rfl rfl ?_
  refine c_skip (c_seq ?_)
  replace hS := (hS.pick (A := wrA g4 _) (by repeat constructor)).recast (show _ = wrA g4 (wb8 32 x) from rfl)
  refine c_region ?_
  refine t_call Try.call72 (Bytes_calls hS (by repeat constructor) (by omega)) rfl ?_
  rintro e w ⟨A86, c86, rfl, hc86, hS⟩
  refine ⟨_, rfl, ?_⟩
  refine t_q (q_as (.slice _ _ _) rfl) ?_
  refine t_nil (c_ret ?_)
  refine r_one rfl rfl ?_
  exact ⟨A86, c86, rfl, hc86, (hS.pick (A := rowA 5 1 A86 _ c86 _) (by repeat constructor)).front1⟩
set_option maxHeartbeats 1000000 in
set_option maxRecDepth 100000 in
theorem wbody_8 {x : MsgV} (hx : x.Gd W) (hs : Snd x) (hk : x.kind = 8) (h8 : (wb8 64 x).length ≤ 1000000000) : Calls Try.prog 114 #[.agg x.cells.toArray] W fun e w' => ∃ A' c', e = .returned (.slice A' (wb8 64 x).length c') ∧ (wb8 64 x).length ≤ c' ∧ St W w' [rowA 5 1 A' (wb8 64 x).length c' ((wb8 64 x).map bv)] := by
 have hS := St.init W
 obtain ⟨l0, l1, l2, l3, l4, l5⟩ := wb_lens hx hs 64
 have q1 := hs.frm
 have q2 := hs.to
 have q3 := hs.ents
 have q4 := hx.term
 have q5 := hs.body
 have q6 := hx.client
 have q7 := hx.req
 have q8 := enc_ten (n := x.client.toNat) (by omega)
 have q9 := enc_ten (n := x.req.toNat) (by omega)
 have l6 : (wb6 64 x).length ≤ 81 + 542 * x.entries.l.length := by have := ents_len x.entries.l hx.eok hs.ebody; unfold wb6; rw [List.length_append]; omega
 have q10 := enc_ten (n := x.body.l.length) (by omega)
 have l7 : (wb7 64 x).length ≤ 600000 := by unfold wb7; split <;> (try simp only [List.length_append]) <;> omega
 refine calls_of_wpE (args := [_]) Try.func114 rfl rfl rfl ?_
 refine c_seq (c_region ?_)
 refine t_box (v := (.agg _)) rfl rfl hS (fun g1 w hS => ?_)
 replace hS := hS.recast (show _ = bmA g1 114 x from rfl)
 refine t_q (q_assign) ?_
 refine t_nil (c_seq (c_region ?_))
 refine t_q (q_fieldAddr 0 Try.runUnderlying114 rfl Try.sizeOf3 (by decide) rfl rfl) ?_
 refine t_q (q_cast (v' := .int .i64 8) (q_load1 Try.isAgg3 rfl (hS.cell (by repeat constructor) rfl)) (by rw [hk])) ?_
 refine t_call Try.call102 (fields_8) rfl ?_
 rintro e w ⟨rfl, hT⟩
 refine ⟨_, rfl, ?_⟩
 replace hS := hS.after hT
 refine t_alloc Try.zeroValue3 rfl hS (fun g3 w hS => ?_)
 refine t_store (v := (.int _ _)) Try.sizeOf3 hS (by repeat constructor) rfl rfl rfl rfl rfl rfl (fun w hS => ?_)
 replace hS := hS.recast (show _ = blkA g3 3 [.int .i64 64] from rfl)
 refine t_nil (c_seq (c_region ?_))
 refine t_alloc Try.zeroValue135 rfl hS (fun g4 w hS => ?_)
 replace hS := hS.wr0
 refine t_nil (c_seq (c_region ?_))
 refine t_q (q_fieldAddr 0 Try.runUnderlying114 rfl Try.sizeOf3 (by decide) rfl rfl) ?_
 refine t_q (q_load1 Try.isAgg3 rfl (hS.cell (by repeat constructor) rfl)) ?_
 first | refine t_q (q_conv_u64 Try.runUnderlying3 Try.runUnderlying43 rfl (by omega)) ?_ | refine t_q (q_convm_u64 Try.runUnderlying3 Try.runUnderlying43 rfl) ?_
 refine t_q (q_fieldAddr 1 Try.runUnderlying114 rfl Try.sizeOf3 (by decide) rfl rfl) ?_
 refine t_q (q_load1 Try.isAgg3 rfl (hS.cell (by repeat constructor) rfl)) ?_
 first | refine t_q (q_conv_u64 Try.runUnderlying3 Try.runUnderlying43 rfl (by omega)) ?_ | refine t_q (q_convm_u64 Try.runUnderlying3 Try.runUnderlying43 rfl) ?_
 refine t_q (q_fieldAddr 2 Try.runUnderlying114 rfl Try.sizeOf3 (by decide) rfl rfl) ?_
 refine t_q (q_load1 Try.isAgg3 rfl (hS.cell (by repeat constructor) rfl)) ?_
 first | refine t_q (q_conv_u64 Try.runUnderlying3 Try.runUnderlying43 rfl (by omega)) ?_ | refine t_q (q_convm_u64 Try.runUnderlying3 Try.runUnderlying43 rfl) ?_
 refine t_q (q_fieldAddr 3 Try.runUnderlying114 rfl Try.sizeOf43 (by decide) rfl rfl) ?_
 refine t_q (q_load1 Try.isAgg43 rfl (hS.cell (by repeat constructor) rfl)) ?_
 refine t_build_ints [_, _, _, _] Try.runUnderlying194 Try.sizeOf43 Try.zeroValue43 rfl rfl (by decide) hS (fun g22 w hS => ?_)
 refine t_call Try.call78 (Nat_calls (ns := [x.kind, x.frm, x.to, x.term]) hS (by repeat constructor) (fun _ h => h.rowInts (.here _ _) rfl) (by intro m hm; simp only [List.mem_cons, List.not_mem_nil, or_false] at hm; omega) (by simp) (by first | (simp; done) | omega | (rw [List.length_append]; omega))) rfl ?_
 rintro e w ⟨rfl, hS⟩
 refine ⟨_, rfl, ?_⟩
 replace hS := hS.swap.recast (congrArg (wrA g4) (show _ = wb0 x from by unfold encs; simp [wb0]))
 refine t_nil (c_seq (c_seq (c_region ?_)))
 refine t_q (q_load1 Try.isAgg3 rfl (hS.cell (by repeat constructor) rfl)) ?_
 refine t_q (q_cast (v' := .int .i64 0) (q_and rfl rfl) (by rfl)) ?_
 refine t_q (q_neq rfl rfl) ?_
 refine t_nil ?_
 refine c_cond_f rfl rfl ?_
 refine c_skip (c_seq ?_)
 replace hS := (hS.pick (A := wrA g4 _) (by repeat constructor)).recast (show _ = wrA g4 (wb1 64 x) from rfl)
 refine c_region ?_
 refine t_q (q_makeFunc rfl) ?_
 refine t_q (q_as (.func _ _ _) rfl) ?_
 refine t_nil (c_seq (c_region ?_))
 refine t_q (q_mv (.func _ _ _) rfl) ?_
 refine t_q (q_fieldAddr 4 Try.runUnderlying114 rfl Try.sizeOf43 (by decide) rfl rfl) ?_
 refine t_q (q_load1 Try.isAgg43 rfl (hS.cell (by repeat constructor) rfl)) ?_
 refine t_callv Try.call143 rfl (num_no (v := 64) (m := 2) (n := x.index) (by decide) (((hS.pick (A := blkA g3 3 [.int .i64 64]) (by repeat constructor)).pick (A := wrA g4 _) (by repeat constructor))) hx.index (by omega)) rfl ?_
 rintro e w ⟨rfl, hS⟩
 refine ⟨_, rfl, ?_⟩
 replace hS := (hS.pick (A := wrA g4 _) (by repeat constructor)).recast (show _ = wrA g4 (wb2 64 x) from rfl)
 refine t_nil (c_seq (c_region ?_))
 refine t_q (q_mv (.func _ _ _) rfl) ?_
 refine t_q (q_fieldAddr 5 Try.runUnderlying114 rfl Try.sizeOf43 (by decide) rfl rfl) ?_
 refine t_q (q_load1 Try.isAgg43 rfl (hS.cell (by repeat constructor) rfl)) ?_
 refine t_callv Try.call143 rfl (num_no (v := 64) (m := 4) (n := x.logTerm) (by decide) (((hS.pick (A := blkA g3 3 [.int .i64 64]) (by repeat constructor)).pick (A := wrA g4 _) (by repeat constructor))) hx.logTerm (by omega)) rfl ?_
 rintro e w ⟨rfl, hS⟩
 refine ⟨_, rfl, ?_⟩
 replace hS := (hS.pick (A := wrA g4 _) (by repeat constructor)).recast (show _ = wrA g4 (wb3 64 x) from rfl)
 refine t_nil (c_seq (c_region ?_))
 refine t_q (q_mv (.func _ _ _) rfl) ?_
 refine t_q (q_fieldAddr 6 Try.runUnderlying114 rfl Try.sizeOf43 (by decide) rfl rfl) ?_
 refine t_q (q_load1 Try.isAgg43 rfl (hS.cell (by repeat constructor) rfl)) ?_
 refine t_callv Try.call143 rfl (num_no (v := 64) (m := 8) (n := x.commit) (by decide) (((hS.pick (A := blkA g3 3 [.int .i64 64]) (by repeat constructor)).pick (A := wrA g4 _) (by repeat constructor))) hx.commit (by omega)) rfl ?_
 rintro e w ⟨rfl, hS⟩
 refine ⟨_, rfl, ?_⟩
 replace hS := (hS.pick (A := wrA g4 _) (by repeat constructor)).recast (show _ = wrA g4 (wb4 64 x) from rfl)
 refine t_nil (c_seq (c_region ?_))
 refine t_q (q_mv (.func _ _ _) rfl) ?_
 refine t_q (q_fieldAddr 8 Try.runUnderlying114 rfl Try.sizeOf111 (by decide) rfl rfl) ?_
 refine t_q (q_load1 Try.isAgg111 rfl (hS.cell (by repeat constructor) rfl)) ?_
 refine t_q (q_len_slice Try.runUnderlying111 rfl) ?_
 first | refine t_q (q_conv_u64 Try.runUnderlying3 Try.runUnderlying43 rfl (by omega)) ?_ | refine t_q (q_convm_u64 Try.runUnderlying3 Try.runUnderlying43 rfl) ?_
 refine t_callv Try.call143 rfl (num_no (v := 64) (m := 16) (n := (x.entries.l.length : Int)) (by decide) (((hS.pick (A := blkA g3 3 [.int .i64 64]) (by repeat constructor)).pick (A := wrA g4 _) (by repeat constructor))) (by omega) (by omega)) rfl ?_
 rintro e w ⟨rfl, hS⟩
 refine ⟨_, rfl, ?_⟩
 replace hS := (hS.pick (A := wrA g4 _) (by repeat constructor)).recast (show _ = wrA g4 (wb5 64 x) from rfl)
 refine t_nil (c_seq (c_seq (c_region ?_)))
 refine t_q (q_fieldAddr 8 Try.runUnderlying114 rfl Try.sizeOf111 (by decide) rfl rfl) ?_
 refine t_q (q_load1 Try.isAgg111 rfl (hS.cell (by repeat constructor) rfl)) ?_
 refine t_q (q_len_slice Try.runUnderlying111 rfl) ?_
 refine t_q (q_move) ?_
 refine t_nil (c_block ?_)
 refine c_loop [7, 52, 53, 54, 55, 56, 57, 58, 59, 60, 61, 62, 63, 64, 65, 66] (fun k σ w => ∃ j : Nat, σ 52 = .int .i64 (j : Int) ∧ j ≤ x.entries.l.length ∧ x.entries.l.length - j ≤ k ∧ St W w [wrA g4 (wb5 64 x ++ (x.entries.l.take j).flatMap entB), blkA g3 3 [.int .i64 64], bmA g1 114 x]) (x.entries.l.length) rfl (⟨0, rfl, by omega, by omega, by have h := ((((hS.pick (A := bmA g1 114 x) (by repeat constructor)).pick (A := blkA g3 3 [.int .i64 64]) (by repeat constructor)).pick (A := wrA g4 _) (by repeat constructor))).front3; exact h.recast (congrArg (wrA g4) (show _ = wb5 64 x ++ [] from (List.append_nil _).symm))⟩) ?_
 skip
 rintro k σ w ⟨j, h52, hj, hk2, hS⟩
 refine c_know 52 h52 ?_
 clear h52
 have lp : ((x.entries.l.take j).flatMap entB).length ≤ 542 * 32 := by
   have h := ents_len (x.entries.l.take j) (fun e he => hx.eok e (List.mem_of_mem_take he)) (fun e he => hs.ebody e (List.mem_of_mem_take he))
   rw [List.length_take] at h
   omega
 have lq : (wb5 64 x ++ (x.entries.l.take j).flatMap entB).length ≤ 81 + 542 * 32 := by rw [List.length_append]; omega
 refine c_seq (c_region ?_)
 refine t_q (q_lss rfl rfl) ?_
 refine t_nil (c_seq ?_)
 refine c_cond rfl ?_ ?_
 ·
  intro hc9
  have hc9d := of_decide_eq_true hc9
  refine c_skip (c_seq (c_block (c_seq (c_region ?_))))
  first | refine t_index_nat Try.runUnderlying111 Try.sizeOf169 (Rd.st hx.erd hS) rfl rfl (by omega) (fun ad10 hl10 hx10 => ?_) | refine t_index Try.runUnderlying111 Try.sizeOf169 (Rd.st hx.erd hS) rfl rfl (by omega) (fun ad10 hl10 hx10 => ?_)
  refine t_q (q_loadN Try.isAgg169 Try.sizeOf169 rfl hl10 hx10) ?_
  refine t_alloc Try.zeroValue169 rfl hS (fun g7 w hS => ?_)
  refine t_store (v := (.agg _)) Try.sizeOf169 hS (by repeat constructor) rfl rfl rfl rfl rfl rfl (fun w hS => ?_)
  obtain ⟨z, hz⟩ : ∃ z, z = (x.entries.l.getD j default) := ⟨_, rfl⟩
  replace hS := hS.recast (show blkA g7 169 _ = blkA g7 169 [.int .u64 z.index, .int .u64 z.term, .slice z.body.A z.body.l.length z.body.c] from by rw [hz]; rfl)
  have hzm : z ∈ x.entries.l := by rw [hz]; exact getD_mem (by omega)
  have hzg := hx.eok z hzm
  have hz5 := hs.ebody z hzm
  have hzi := hzg.index
  have hzt := hzg.term
  have qz1 := enc_ten (n := z.index.toNat) (by omega)
  have qz2 := enc_ten (n := z.term.toNat) (by omega)
  refine t_nil (c_seq (c_region ?_))
  refine t_q (q_fieldAddr 0 Try.runUnderlying169 rfl Try.sizeOf43 (by decide) rfl rfl) ?_
  refine t_q (q_load1 Try.isAgg43 rfl (hS.cell (by repeat constructor) rfl)) ?_
  refine t_q (q_fieldAddr 1 Try.runUnderlying169 rfl Try.sizeOf43 (by decide) rfl rfl) ?_
  refine t_q (q_load1 Try.isAgg43 rfl (hS.cell (by repeat constructor) rfl)) ?_
  refine t_build_ints [_, _] Try.runUnderlying194 Try.sizeOf43 Try.zeroValue43 rfl rfl (by decide) hS (fun g60 w hS => ?_)
  refine t_call Try.call78 (Nat_calls (ns := [z.index, z.term]) hS (by repeat constructor) (fun _ h => h.rowInts (.here _ _) rfl) (by intro m hm; simp only [List.mem_cons, List.not_mem_nil, or_false] at hm; omega) (by simp) (by first | (simp; done) | omega | (rw [List.length_append]; omega))) rfl ?_
  rintro e w ⟨rfl, hS⟩
  refine ⟨_, rfl, ?_⟩
  replace hS := hS.swap.recast (congrArg (wrA g4) (show _ = (wb5 64 x ++ (x.entries.l.take j).flatMap entB) ++ (enc z.index.toNat ++ enc z.term.toNat) from by unfold encs; simp [wb0]))
  refine t_nil (c_region ?_)
  refine t_q (q_fieldAddr 2 Try.runUnderlying169 rfl Try.sizeOf25 (by decide) rfl rfl) ?_
  refine t_q (q_load1 Try.isAgg25 rfl (hS.cell (by repeat constructor) rfl)) ?_
  refine t_q (q_string Try.runUnderlying25 Try.runUnderlying5 Try.runUnderlying9 rfl rfl (Rd.st hzg.rd hS)) ?_
  refine t_call Try.call70 (Text_calls (s := ⟨z.body.l.toArray⟩) hS (by repeat constructor) (by show z.body.l.toArray.size ≤ _; rw [List.size_toArray]; omega) (by simp only [List.length_append]; omega)) rfl ?_
  rintro e w ⟨rfl, hS⟩
  refine ⟨_, rfl, ?_⟩
  refine t_nil (c_region ?_)
  refine t_q (q_add_i64 rfl rfl (by omega)) ?_
  refine t_q (q_mv (.int _ _) rfl) ?_
  refine t_nil ?_
  exact ⟨k - 1, by omega, j + 1, rfl, by omega, by omega, by have h := ((((hS.pick (A := bmA g1 114 x) (by repeat constructor)).pick (A := blkA g3 3 [.int .i64 64]) (by repeat constructor)).pick (A := wrA g4 _) (by repeat constructor))).front3; exact h.recast (congrArg (wrA g4) (by rw [entB_take (by omega), ← hz]; show _ ++ enc z.body.l.toArray.size ++ z.body.l.toArray.toList = _; simp [entB]))⟩
 ·
  intro hc9
  have hc9d := of_decide_eq_false hc9
  obtain rfl : j = x.entries.l.length := by omega
  replace hS := (hS.pick (A := wrA g4 _) (by repeat constructor)).recast (show _ = wrA g4 (wb6 64 x) from congrArg (wrA g4) (by rw [List.take_length]; rfl))
  refine c_exit ?_
  refine ite_t rfl ?_
  refine c_seq (c_seq (c_region ?_))
  refine t_q (q_load1 Try.isAgg3 rfl (hS.cell (by repeat constructor) rfl)) ?_
  refine t_q (q_cast (v' := .int .i64 0) (q_and rfl rfl) (by rfl)) ?_
  refine t_q (q_neq rfl rfl) ?_
  refine t_nil ?_
  refine c_cond_f rfl rfl ?_
  refine c_skip (c_seq (c_seq ?_))
  replace hS := (hS.pick (A := wrA g4 _) (by repeat constructor)).recast (show _ = wrA g4 (wb7 64 x) from rfl)
  refine c_region ?_
  refine t_q (q_load1 Try.isAgg3 rfl (hS.cell (by repeat constructor) rfl)) ?_
  refine t_q (q_cast (v' := .int .i64 64) (q_and rfl rfl) (by rfl)) ?_
  refine t_q (q_neq rfl rfl) ?_
  refine t_nil ?_
  refine c_cond_t rfl rfl ?_
  refine c_seq (c_region ?_)
  refine t_q (q_fieldAddr 10 Try.runUnderlying114 rfl Try.sizeOf43 (by decide) rfl rfl) ?_
  refine t_q (q_load1 Try.isAgg43 rfl (hS.cell (by repeat constructor) rfl)) ?_
  refine t_q (q_fieldAddr 11 Try.runUnderlying114 rfl Try.sizeOf43 (by decide) rfl rfl) ?_
  refine t_q (q_load1 Try.isAgg43 rfl (hS.cell (by repeat constructor) rfl)) ?_
  refine t_build_ints [_, _] Try.runUnderlying194 Try.sizeOf43 Try.zeroValue43 rfl rfl (by decide) hS (fun g81 w hS => ?_)
  refine t_call Try.call78 (Nat_calls (ns := [x.client, x.req]) hS (by repeat constructor) (fun _ h => h.rowInts (.here _ _) rfl) (by intro m hm; simp only [List.mem_cons, List.not_mem_nil, or_false] at hm; omega) (by simp) (by first | (simp; done) | omega | (rw [List.length_append]; omega))) rfl ?_
  rintro e w ⟨rfl, hS⟩
  refine ⟨_, rfl, ?_⟩
  replace hS := hS.swap.recast (congrArg (wrA g4) (show _ = wb7 64 x ++ (enc x.client.toNat ++ enc x.req.toNat) from by unfold encs; simp [wb0]))
  refine t_nil (c_region ?_)
  refine t_q (q_fieldAddr 12 Try.runUnderlying114 rfl Try.sizeOf112 (by decide) rfl rfl) ?_
  refine t_q (q_load1 Try.isAgg112 rfl (hS.cell (by repeat constructor) rfl)) ?_
  refine t_call Try.call144 (eput_calls (l := x.events.l) hS (by repeat constructor) (fun w h => Rd.st hx.vrd h) hx.vin hx.vle (by rw [List.length_append, List.length_append]; omega)) rfl ?_
  rintro e w ⟨rfl, hS⟩
  refine ⟨_, rfl, ?_⟩
  refine t_nil (c_seq ?_)
  replace hS := (hS.pick (A := wrA g4 _) (by repeat constructor)).recast (show _ = wrA g4 (wb8 64 x) from rfl)
  refine c_region ?_
  refine t_call Try.call72 (Bytes_calls hS (by repeat constructor) (by omega)) rfl ?_
  rintro e w ⟨A86, c86, rfl, hc86, hS⟩
  refine ⟨_, rfl, ?_⟩
  refine t_q (q_as (.slice _ _ _) rfl) ?_
  refine t_nil (c_ret ?_)
  refine r_one rfl rfl ?_
  exact ⟨A86, c86, rfl, hc86, (hS.pick (A := rowA 5 1 A86 _ c86 _) (by repeat constructor)).front1⟩
end Go.Proofs.Ytlppgpidakfnlaa
