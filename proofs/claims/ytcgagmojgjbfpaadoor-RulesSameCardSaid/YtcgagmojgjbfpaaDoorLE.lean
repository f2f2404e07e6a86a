/- Rules: what stands in a row, turned from its beginning on. -/
import Derived.Test.YtcgagmojgjbfpaaDoorFf
import Derived.Test.YtcgagmojgjbfpaaDoorUg
import Derived.Test.YtcgagmojgjbfpaaDoorUc
import Derived.Test.YtcgagmojgjbfpaaDoorUd
import Derived.Test.YtcgagmojgjbfpaaDoorCw
import Derived.Test.YtcgagmojgjbfpaaDoorSr
namespace Go.Proofs.YtcgagmojgjbfpaaDoor
open Go Go.RowKit Go.Lib
variable {W : World}
def updL {α : Type} (f : α → α) (E : List α) (q : Nat) : List α := (E.take q).map f ++ E.drop q
theorem updL_len {α : Type} (f : α → α) (E : List α) (q : Nat) : (updL f E q).length = E.length := by unfold updL; rw [List.length_append, List.length_map, List.length_take, List.length_drop]; omega
theorem updL_in {α : Type} {f : α → α} {E : List α} {q : Nat} {p : α → Prop} (h : ∀ e ∈ E, p e) (hf : ∀ e, p e → p (f e)) : ∀ e ∈ updL f E q, p e := by
  intro e he
  unfold updL at he
  rcases List.mem_append.1 he with h1 | h1
  · obtain ⟨x, hx, rfl⟩ := List.mem_map.1 h1
    exact hf x (h x (List.mem_of_mem_take hx))
  · exact h e (List.mem_of_mem_drop h1)
theorem updL_at {α : Type} {f : α → α} {E : List α} {q : Nat} {d : α} (h : q < E.length) : (updL f E (q + 1)).getD q d = f (E.getD q d) := by
  unfold updL
  rw [List.getD_eq_getElem?_getD, List.getElem?_append_left (by rw [List.length_map, List.length_take]; omega), List.getElem?_map, List.getElem?_take, if_pos (by omega), List.getElem?_eq_getElem h, List.getD_eq_getElem?_getD, List.getElem?_eq_getElem h]
  rfl
theorem updL_now {α : Type} {f : α → α} {E : List α} {q : Nat} {d : α} (h : q < E.length) : (updL f E q).getD q d = E.getD q d := by
  unfold updL
  have hl : ((E.take q).map f).length = q := by rw [List.length_map, List.length_take]; omega
  rw [List.getD_eq_getElem?_getD, List.getElem?_append_right (by omega), hl, Nat.sub_self, List.getElem?_drop, List.getD_eq_getElem?_getD, Nat.add_zero]
theorem updL_succ {α : Type} {f : α → α} {E : List α} {q : Nat} (h : q < E.length) : updL f E (q + 1) = (E.take q).map f ++ (f E[q] :: E.drop (q + 1)) := by
  unfold updL
  rw [List.take_succ_eq_append_getElem h, List.map_append, List.append_assoc]
  rfl
theorem updL_this {α : Type} {f : α → α} {E : List α} {q : Nat} (h : q < E.length) : updL f E q = (E.take q).map f ++ (E[q] :: E.drop (q + 1)) := by
  unfold updL
  rw [List.drop_eq_getElem_cons h]
theorem updL_zero {α : Type} (f : α → α) (E : List α) : updL f E 0 = E := rfl
def bumpT (e : Tk) : Tk := { e with size := IntKind.i64.wrap (e.size + 1) }
def bumpF (e : Tr) : Tr := { e with maker := IntKind.i64.wrap (e.maker + 1) }
theorem wrap_rng (n : Int) : -9223372036854775808 ≤ IntKind.i64.wrap n ∧ IntKind.i64.wrap n ≤ 9223372036854775807 := by
  simp only [IntKind.wrap, IntKind.bits, IntKind.signed]
  simp
  omega
theorem wrap_ne (n : Int) : n ≠ IntKind.i64.wrap (n + 1) := by
  simp only [IntKind.wrap, IntKind.bits, IntKind.signed]
  simp
  omega
theorem bumpT_in {e : Tk} (h : e.In) : (bumpT e).In := ⟨h.1, wrap_rng _⟩
theorem bumpF_in {e : Tr} (h : e.In) : (bumpF e).In := ⟨h.1, wrap_rng _, h.2.2⟩
theorem bumpT_ne {e : Tk} (_ : e.In) : e.ints ≠ (bumpT e).ints := fun h => by
  unfold Tk.ints bumpT at h
  simp only [List.cons.injEq] at h
  exact wrap_ne _ h.2.1
theorem bumpF_ne {e : Tr} (_ : e.In) : e.ints ≠ (bumpF e).ints := fun h => by
  unfold Tr.ints bumpF at h
  simp only [List.cons.injEq] at h
  exact wrap_ne _ h.2.1
theorem upd_tk {E : List Tk} {q : Nat} (h : q < E.length) : setN ((updL bumpT E q).flatMap Tk.cells) (0 + q * 2 + 1) [.int .i64 (IntKind.i64.wrap (((updL bumpT E q).getD q default).size + 1))] = (updL bumpT E (q + 1)).flatMap Tk.cells := by
  have hl : (((E.take q).map bumpT).flatMap Tk.cells).length = q * 2 := by rw [flat_len (size := 2) (fun _ => rfl), List.length_map, List.length_take, Nat.min_eq_left (by omega)]
  rw [updL_now h, updL_succ h, updL_this h, List.flatMap_append, List.flatMap_append]
  show List.set _ _ _ = _
  rw [List.set_append_right _ _ (by rw [hl]; omega), hl, show 0 + q * 2 + 1 - q * 2 = 1 by omega, List.getD_eq_getElem?_getD, List.getElem?_eq_getElem h]
  rfl
theorem upd_tr {E : List Tr} {q : Nat} (h : q < E.length) : setN ((updL bumpF E q).flatMap Tr.cells) (0 + q * 3 + 1) [.int .i64 (IntKind.i64.wrap (((updL bumpF E q).getD q default).maker + 1))] = (updL bumpF E (q + 1)).flatMap Tr.cells := by
  have hl : (((E.take q).map bumpF).flatMap Tr.cells).length = q * 3 := by rw [flat_len (size := 3) (fun _ => rfl), List.length_map, List.length_take, Nat.min_eq_left (by omega)]
  rw [updL_now h, updL_succ h, updL_this h, List.flatMap_append, List.flatMap_append]
  show List.set _ _ _ = _
  rw [List.set_append_right _ _ (by rw [hl]; omega), hl, show 0 + q * 3 + 1 - q * 3 = 1 by omega, List.getD_eq_getElem?_getD, List.getElem?_eq_getElem h]
  rfl
theorem rowUpTk {W w : World} {Q R : List Asn} {t : Nat} {A : Option Addr} {m c : Nat} {f : Tk → Tk} {E : List Tk} {q : Nat} (hS : St W w Q) (pk : Pick Q (rowA t 2 A m c ((updL f E q).flatMap Tk.cells)) R) (hm : m = E.length) : Rd w 2 A E.length (fun i => ((updL f E q).getD i default).cells) := by
  have h := rowRdTk hS pk (hm.trans (updL_len f E q).symm)
  unfold RdTk at h
  rw [updL_len] at h
  exact h
theorem rowUpTr {W w : World} {Q R : List Asn} {t : Nat} {A : Option Addr} {m c : Nat} {f : Tr → Tr} {E : List Tr} {q : Nat} (hS : St W w Q) (pk : Pick Q (rowA t 3 A m c ((updL f E q).flatMap Tr.cells)) R) (hm : m = E.length) : Rd w 3 A E.length (fun i => ((updL f E q).getD i default).cells) := by
  have h := rowRdTr hS pk (hm.trans (updL_len f E q).symm)
  unfold RdTr at h
  rw [updL_len] at h
  exact h
attribute [local irreducible] blkA rowA rdsA updL bumpT bumpF
set_option maxHeartbeats 4000000 in
set_option maxRecDepth 100000 in
theorem RulesSame_calls {x y : RuV} (hE : EtOk W) (hx : x.Ok W) (hy : y.Ok W) : Calls Tryd.prog 8 #[.agg x.cells.toArray, .agg y.cells.toArray] W fun e w' => e = .returned (.bool true) ∧ St W w' [] := by
  have hS := St.init W
  refine calls_of_wpE (args := [_, _]) Tryd.func8 rfl rfl rfl ?_
  refine c_seq ?_
  refine c_region ?_
  refine t_box (v := (.agg _)) rfl rfl hS (fun g2 w hS => ?_)
  replace hS := hS.recast (show _ = blkA g2 42 [.int .i64 x.version, .slice x.ticks.A x.ticks.l.length x.ticks.c, .int .i64 x.lot, .int .i64 x.band, .slice x.fees.A x.fees.l.length x.fees.c, .int .i64 x.round, .int .i64 x.priority, .int .i64 x.self, .int .i64 x.layout] from rfl)
  refine t_box (v := (.agg _)) rfl rfl hS (fun g3 w hS => ?_)
  replace hS := hS.recast (show _ = blkA g3 42 [.int .i64 y.version, .slice y.ticks.A y.ticks.l.length y.ticks.c, .int .i64 y.lot, .int .i64 y.band, .slice y.fees.A y.fees.l.length y.fees.c, .int .i64 y.round, .int .i64 y.priority, .int .i64 y.self, .int .i64 y.layout] from rfl)
  refine t_q (q_assign) ?_
  refine t_nil ?_
  refine c_seq ?_
  refine c_seq ?_
  refine c_region ?_
  refine t_q (q_cast (v' := .agg x.cells.toArray) (q_load_blk Tryd.isAgg42 Tryd.sizeOf42 rfl (hS.blk (by repeat first | exact .here _ _ | assumption | apply Pick.there)) rfl) (by rfl)) ?_
  refine t_call Tryd.call21 (rlight_calls (x := x)) rfl ?_
  rintro e w ⟨rfl, hT⟩
  refine ⟨_, rfl, ?_⟩
  replace hS := hS.after hT
  refine t_q (q_not rfl) ?_
  refine t_q (q_mv (.bool _) rfl) ?_
  refine t_case 11 rfl ?_ ?_
  · intro hg2
    refine t_no rfl rfl (by rw [(congrArg not (not_back hg2))]; decide) ?_
    refine t_no rfl rfl (by rw [(congrArg not (not_back hg2))]; decide) ?_
    refine t_no rfl rfl (by rw [(congrArg not (not_back hg2))]; decide) ?_
    refine t_q (q_pick_t rfl (congrArg not (not_back hg2))) ?_
    refine t_nil ?_
    refine c_cond_t rfl rfl ?_
    refine c_seq ?_
    refine c_region ?_
    refine t_call Tryd.call22 (r9lives_calls (hE.st hS)) rfl ?_
    rintro e w ⟨rfl, hT⟩
    refine ⟨_, rfl, ?_⟩
    replace hS := hS.after hT
    refine t_q (q_as (.bool _) rfl) ?_
    refine t_nil ?_
    refine c_ret ?_
    refine r_one rfl rfl ?_
    exact ⟨rfl, hS.nil⟩
  · intro hg2
    refine t_yes rfl rfl (congrArg not (not_back hg2)) ?_
    refine t_q (q_cast (v' := .agg y.cells.toArray) (q_load_blk Tryd.isAgg42 Tryd.sizeOf42 rfl (hS.blk (by repeat first | exact .here _ _ | assumption | apply Pick.there)) rfl) (by rfl)) ?_
    refine t_yes rfl rfl (congrArg not (not_back hg2)) ?_
    refine t_call Tryd.call21 (rlight_calls (x := y)) rfl ?_
    rintro e w ⟨rfl, hT⟩
    refine ⟨_, rfl, ?_⟩
    replace hS := hS.after hT
    refine t_yes rfl rfl (congrArg not (not_back hg2)) ?_
    refine t_q (q_not rfl) ?_
    refine t_q (q_pick_f rfl (congrArg not (not_back hg2))) ?_
    refine t_nil ?_
    refine c_cond rfl ?_ ?_
    · intro hc5
      refine c_seq ?_
      refine c_region ?_
      refine t_call Tryd.call22 (r9lives_calls (hE.st hS)) rfl ?_
      rintro e w ⟨rfl, hT⟩
      refine ⟨_, rfl, ?_⟩
      replace hS := hS.after hT
      refine t_q (q_as (.bool _) rfl) ?_
      refine t_nil ?_
      refine c_ret ?_
      refine r_one rfl rfl ?_
      exact ⟨rfl, hS.nil⟩
    · intro hc5
      have hlx : lightR x = true := bnf (by assumption : (!lightR x) = false)
      have hly : lightR y = true := bnf (by assumption : (!lightR y) = false)
      have hgx : x.Gd W := light_rgd hx hlx
      have hgy : y.Gd W := light_rgd hy hly
      have htl := hgx.tle
      have hfl := hgx.fle
      refine c_skip ?_
      refine c_seq ?_
      refine c_region ?_
      refine t_q (q_cast (v' := .agg x.cells.toArray) (q_load_blk Tryd.isAgg42 Tryd.sizeOf42 rfl (hS.blk (by repeat first | exact .here _ _ | assumption | apply Pick.there)) rfl) (by rfl)) ?_
      refine t_call Tryd.call28 (rcopy_calls (x := x) (hgx.st hS)) rfl ?_
      rintro e w ⟨A18, c18, B18, d18, rfl, hT⟩
      refine ⟨_, rfl, ?_⟩
      have hS : St W w (_ :: _) := hS.lift hT
      refine t_alloc Tryd.zeroValue42 rfl hS (fun g5 w hS => ?_)
      refine t_store (v := (.agg _)) Tryd.sizeOf42 hS (by repeat first | exact .here _ _ | assumption | apply Pick.there) rfl rfl rfl rfl rfl rfl (fun w hS => ?_)
      replace hS := hS.recast (show _ = blkA g5 42 [.int .i64 x.version, .slice A18 x.ticks.l.length c18, .int .i64 x.lot, .int .i64 x.band, .slice B18 x.fees.l.length d18, .int .i64 x.round, .int .i64 x.priority, .int .i64 x.self, .int .i64 x.layout] from congrArg (blkA g5 42) (rset_full (vs := (x.own A18 c18 B18 d18).cells) rfl))
      refine t_nil ?_
      refine c_seq ?_
      refine c_seq ?_
      refine c_draw ?_
      refine d_keep3 (blkA g2 42 [.int .i64 x.version, .slice x.ticks.A x.ticks.l.length x.ticks.c, .int .i64 x.lot, .int .i64 x.band, .slice x.fees.A x.fees.l.length x.fees.c, .int .i64 x.round, .int .i64 x.priority, .int .i64 x.self, .int .i64 x.layout]) (blkA g3 42 [.int .i64 y.version, .slice y.ticks.A y.ticks.l.length y.ticks.c, .int .i64 y.lot, .int .i64 y.band, .slice y.fees.A y.fees.l.length y.fees.c, .int .i64 y.round, .int .i64 y.priority, .int .i64 y.self, .int .i64 y.layout]) (blkA g5 42 [.int .i64 x.version, .slice A18 x.ticks.l.length c18, .int .i64 x.lot, .int .i64 x.band, .slice B18 x.fees.l.length d18, .int .i64 x.round, .int .i64 x.priority, .int .i64 x.self, .int .i64 x.layout]) 19 [0, 1, 2, 3, 4, 5, 6, 7, 8, 9, 10, 11, 12, 13, 14, 15, 16, 17, 18] [0, 1, 2, 3, 4, 5, 6, 7, 8, 9, 10, 11, 12, 13, 14, 15, 16, 17, 18] hS rfl (by kernel_rfl) (by kernel_rfl) (by kernel_rfl) (by kernel_rfl) (fun hap hsel w hS => ?_)
      refine p_q hap hsel 0 rfl rfl ⟨_, (((hS.pick (A := blkA g5 42 [.int .i64 x.version, .slice A18 x.ticks.l.length c18, .int .i64 x.lot, .int .i64 x.band, .slice B18 x.fees.l.length d18, .int .i64 x.round, .int .i64 x.priority, .int .i64 x.self, .int .i64 x.layout]) (by repeat first | exact .here _ _ | assumption | apply Pick.there)).pick (A := blkA g3 42 [.int .i64 y.version, .slice y.ticks.A y.ticks.l.length y.ticks.c, .int .i64 y.lot, .int .i64 y.band, .slice y.fees.A y.fees.l.length y.fees.c, .int .i64 y.round, .int .i64 y.priority, .int .i64 y.self, .int .i64 y.layout]) (by repeat first | exact .here _ _ | assumption | apply Pick.there)).pick (A := blkA g2 42 [.int .i64 x.version, .slice x.ticks.A x.ticks.l.length x.ticks.c, .int .i64 x.lot, .int .i64 x.band, .slice x.fees.A x.fees.l.length x.fees.c, .int .i64 x.round, .int .i64 x.priority, .int .i64 x.self, .int .i64 x.layout]) (by repeat first | exact .here _ _ | assumption | apply Pick.there))⟩ (fun w hI => (q_cast (v' := .agg x.cells.toArray) (q_load_blk Tryd.isAgg42 Tryd.sizeOf42 rfl (hI.choose_spec.blk (by repeat first | exact .here _ _ | assumption | apply Pick.there)) rfl) (by rfl))) ?_
      refine p_q hap hsel 1 rfl rfl ⟨_, (((hS.pick (A := blkA g5 42 [.int .i64 x.version, .slice A18 x.ticks.l.length c18, .int .i64 x.lot, .int .i64 x.band, .slice B18 x.fees.l.length d18, .int .i64 x.round, .int .i64 x.priority, .int .i64 x.self, .int .i64 x.layout]) (by repeat first | exact .here _ _ | assumption | apply Pick.there)).pick (A := blkA g3 42 [.int .i64 y.version, .slice y.ticks.A y.ticks.l.length y.ticks.c, .int .i64 y.lot, .int .i64 y.band, .slice y.fees.A y.fees.l.length y.fees.c, .int .i64 y.round, .int .i64 y.priority, .int .i64 y.self, .int .i64 y.layout]) (by repeat first | exact .here _ _ | assumption | apply Pick.there)).pick (A := blkA g2 42 [.int .i64 x.version, .slice x.ticks.A x.ticks.l.length x.ticks.c, .int .i64 x.lot, .int .i64 x.band, .slice x.fees.A x.fees.l.length x.fees.c, .int .i64 x.round, .int .i64 x.priority, .int .i64 x.self, .int .i64 x.layout]) (by repeat first | exact .here _ _ | assumption | apply Pick.there))⟩ (fun w hI => (q_cast (v' := .agg y.cells.toArray) (q_load_blk Tryd.isAgg42 Tryd.sizeOf42 rfl (hI.choose_spec.blk (by repeat first | exact .here _ _ | assumption | apply Pick.there)) rfl) (by rfl))) ?_
      refine p_q hap hsel 3 rfl rfl ⟨_, (((hS.pick (A := blkA g5 42 [.int .i64 x.version, .slice A18 x.ticks.l.length c18, .int .i64 x.lot, .int .i64 x.band, .slice B18 x.fees.l.length d18, .int .i64 x.round, .int .i64 x.priority, .int .i64 x.self, .int .i64 x.layout]) (by repeat first | exact .here _ _ | assumption | apply Pick.there)).pick (A := blkA g3 42 [.int .i64 y.version, .slice y.ticks.A y.ticks.l.length y.ticks.c, .int .i64 y.lot, .int .i64 y.band, .slice y.fees.A y.fees.l.length y.fees.c, .int .i64 y.round, .int .i64 y.priority, .int .i64 y.self, .int .i64 y.layout]) (by repeat first | exact .here _ _ | assumption | apply Pick.there)).pick (A := blkA g2 42 [.int .i64 x.version, .slice x.ticks.A x.ticks.l.length x.ticks.c, .int .i64 x.lot, .int .i64 x.band, .slice x.fees.A x.fees.l.length x.fees.c, .int .i64 x.round, .int .i64 x.priority, .int .i64 x.self, .int .i64 x.layout]) (by repeat first | exact .here _ _ | assumption | apply Pick.there))⟩ (fun w hI => (q_cast (v' := .agg x.cells.toArray) (q_load_blk Tryd.isAgg42 Tryd.sizeOf42 rfl (hI.choose_spec.blk (by repeat first | exact .here _ _ | assumption | apply Pick.there)) rfl) (by rfl))) ?_
      refine p_q hap hsel 4 rfl rfl ⟨_, (((hS.pick (A := blkA g5 42 [.int .i64 x.version, .slice A18 x.ticks.l.length c18, .int .i64 x.lot, .int .i64 x.band, .slice B18 x.fees.l.length d18, .int .i64 x.round, .int .i64 x.priority, .int .i64 x.self, .int .i64 x.layout]) (by repeat first | exact .here _ _ | assumption | apply Pick.there)).pick (A := blkA g3 42 [.int .i64 y.version, .slice y.ticks.A y.ticks.l.length y.ticks.c, .int .i64 y.lot, .int .i64 y.band, .slice y.fees.A y.fees.l.length y.fees.c, .int .i64 y.round, .int .i64 y.priority, .int .i64 y.self, .int .i64 y.layout]) (by repeat first | exact .here _ _ | assumption | apply Pick.there)).pick (A := blkA g2 42 [.int .i64 x.version, .slice x.ticks.A x.ticks.l.length x.ticks.c, .int .i64 x.lot, .int .i64 x.band, .slice x.fees.A x.fees.l.length x.fees.c, .int .i64 x.round, .int .i64 x.priority, .int .i64 x.self, .int .i64 x.layout]) (by repeat first | exact .here _ _ | assumption | apply Pick.there))⟩ (fun w hI => (q_cast (v' := .agg y.cells.toArray) (q_load_blk Tryd.isAgg42 Tryd.sizeOf42 rfl (hI.choose_spec.blk (by repeat first | exact .here _ _ | assumption | apply Pick.there)) rfl) (by rfl))) ?_
      refine p_one 2 rfl (by kernel_rfl) ?_
      refine t_call Tryd.call29 (rsame_calls (x := x) (y := y) (hgx.st hS) (hgy.st hS)) rfl ?_
      rintro e w ⟨rfl, hT⟩
      refine ⟨_, rfl, ?_⟩
      replace hS := hS.after hT
      refine t_nil ?_
      refine ⟨.inr ⟨_, (((hS.pick (A := blkA g5 42 [.int .i64 x.version, .slice A18 x.ticks.l.length c18, .int .i64 x.lot, .int .i64 x.band, .slice B18 x.fees.l.length d18, .int .i64 x.round, .int .i64 x.priority, .int .i64 x.self, .int .i64 x.layout]) (by repeat first | exact .here _ _ | assumption | apply Pick.there)).pick (A := blkA g3 42 [.int .i64 y.version, .slice y.ticks.A y.ticks.l.length y.ticks.c, .int .i64 y.lot, .int .i64 y.band, .slice y.fees.A y.fees.l.length y.fees.c, .int .i64 y.round, .int .i64 y.priority, .int .i64 y.self, .int .i64 y.layout]) (by repeat first | exact .here _ _ | assumption | apply Pick.there)).pick (A := blkA g2 42 [.int .i64 x.version, .slice x.ticks.A x.ticks.l.length x.ticks.c, .int .i64 x.lot, .int .i64 x.band, .slice x.fees.A x.fees.l.length x.fees.c, .int .i64 x.round, .int .i64 x.priority, .int .i64 x.self, .int .i64 x.layout]) (by repeat first | exact .here _ _ | assumption | apply Pick.there))⟩, ?_⟩
      refine p_one 5 rfl (by kernel_rfl) ?_
      refine t_call Tryd.call30 (qrsame_calls (x := x) (y := y) (hgx.st hS) (hgy.st hS)) rfl ?_
      rintro e w ⟨rfl, hT⟩
      refine ⟨_, rfl, ?_⟩
      replace hS := hS.after hT
      refine t_nil ?_
      refine ⟨.inr ⟨_, (((hS.pick (A := blkA g5 42 [.int .i64 x.version, .slice A18 x.ticks.l.length c18, .int .i64 x.lot, .int .i64 x.band, .slice B18 x.fees.l.length d18, .int .i64 x.round, .int .i64 x.priority, .int .i64 x.self, .int .i64 x.layout]) (by repeat first | exact .here _ _ | assumption | apply Pick.there)).pick (A := blkA g3 42 [.int .i64 y.version, .slice y.ticks.A y.ticks.l.length y.ticks.c, .int .i64 y.lot, .int .i64 y.band, .slice y.fees.A y.fees.l.length y.fees.c, .int .i64 y.round, .int .i64 y.priority, .int .i64 y.self, .int .i64 y.layout]) (by repeat first | exact .here _ _ | assumption | apply Pick.there)).pick (A := blkA g2 42 [.int .i64 x.version, .slice x.ticks.A x.ticks.l.length x.ticks.c, .int .i64 x.lot, .int .i64 x.band, .slice x.fees.A x.fees.l.length x.fees.c, .int .i64 x.round, .int .i64 x.priority, .int .i64 x.self, .int .i64 x.layout]) (by repeat first | exact .here _ _ | assumption | apply Pick.there))⟩, ?_⟩
      refine p_q hap hsel 6 rfl rfl ⟨_, (((hS.pick (A := blkA g5 42 [.int .i64 x.version, .slice A18 x.ticks.l.length c18, .int .i64 x.lot, .int .i64 x.band, .slice B18 x.fees.l.length d18, .int .i64 x.round, .int .i64 x.priority, .int .i64 x.self, .int .i64 x.layout]) (by repeat first | exact .here _ _ | assumption | apply Pick.there)).pick (A := blkA g3 42 [.int .i64 y.version, .slice y.ticks.A y.ticks.l.length y.ticks.c, .int .i64 y.lot, .int .i64 y.band, .slice y.fees.A y.fees.l.length y.fees.c, .int .i64 y.round, .int .i64 y.priority, .int .i64 y.self, .int .i64 y.layout]) (by repeat first | exact .here _ _ | assumption | apply Pick.there)).pick (A := blkA g2 42 [.int .i64 x.version, .slice x.ticks.A x.ticks.l.length x.ticks.c, .int .i64 x.lot, .int .i64 x.band, .slice x.fees.A x.fees.l.length x.fees.c, .int .i64 x.round, .int .i64 x.priority, .int .i64 x.self, .int .i64 x.layout]) (by repeat first | exact .here _ _ | assumption | apply Pick.there))⟩ (fun w hI => (q_cast (v' := .bool false) (q_neq_bool Tryd.runUnderlying4 rfl rfl) (by simp))) ?_
      refine p_q hap hsel 7 rfl rfl ⟨_, (((hS.pick (A := blkA g5 42 [.int .i64 x.version, .slice A18 x.ticks.l.length c18, .int .i64 x.lot, .int .i64 x.band, .slice B18 x.fees.l.length d18, .int .i64 x.round, .int .i64 x.priority, .int .i64 x.self, .int .i64 x.layout]) (by repeat first | exact .here _ _ | assumption | apply Pick.there)).pick (A := blkA g3 42 [.int .i64 y.version, .slice y.ticks.A y.ticks.l.length y.ticks.c, .int .i64 y.lot, .int .i64 y.band, .slice y.fees.A y.fees.l.length y.fees.c, .int .i64 y.round, .int .i64 y.priority, .int .i64 y.self, .int .i64 y.layout]) (by repeat first | exact .here _ _ | assumption | apply Pick.there)).pick (A := blkA g2 42 [.int .i64 x.version, .slice x.ticks.A x.ticks.l.length x.ticks.c, .int .i64 x.lot, .int .i64 x.band, .slice x.fees.A x.fees.l.length x.fees.c, .int .i64 x.round, .int .i64 x.priority, .int .i64 x.self, .int .i64 x.layout]) (by repeat first | exact .here _ _ | assumption | apply Pick.there))⟩ (fun w hI => q_mv (.bool _) rfl) ?_
      refine p_yes hap hsel 8 rfl rfl ⟨_, (((hS.pick (A := blkA g5 42 [.int .i64 x.version, .slice A18 x.ticks.l.length c18, .int .i64 x.lot, .int .i64 x.band, .slice B18 x.fees.l.length d18, .int .i64 x.round, .int .i64 x.priority, .int .i64 x.self, .int .i64 x.layout]) (by repeat first | exact .here _ _ | assumption | apply Pick.there)).pick (A := blkA g3 42 [.int .i64 y.version, .slice y.ticks.A y.ticks.l.length y.ticks.c, .int .i64 y.lot, .int .i64 y.band, .slice y.fees.A y.fees.l.length y.fees.c, .int .i64 y.round, .int .i64 y.priority, .int .i64 y.self, .int .i64 y.layout]) (by repeat first | exact .here _ _ | assumption | apply Pick.there)).pick (A := blkA g2 42 [.int .i64 x.version, .slice x.ticks.A x.ticks.l.length x.ticks.c, .int .i64 x.lot, .int .i64 x.band, .slice x.fees.A x.fees.l.length x.fees.c, .int .i64 x.round, .int .i64 x.priority, .int .i64 x.self, .int .i64 x.layout]) (by repeat first | exact .here _ _ | assumption | apply Pick.there))⟩ rfl rfl rfl (fun w hI => (q_cast (v' := .agg x.cells.toArray) (q_load_blk Tryd.isAgg42 Tryd.sizeOf42 rfl (hI.choose_spec.blk (by repeat first | exact .here _ _ | assumption | apply Pick.there)) rfl) (by rfl))) ?_
      refine p_yes hap hsel 9 rfl rfl ⟨_, (((hS.pick (A := blkA g5 42 [.int .i64 x.version, .slice A18 x.ticks.l.length c18, .int .i64 x.lot, .int .i64 x.band, .slice B18 x.fees.l.length d18, .int .i64 x.round, .int .i64 x.priority, .int .i64 x.self, .int .i64 x.layout]) (by repeat first | exact .here _ _ | assumption | apply Pick.there)).pick (A := blkA g3 42 [.int .i64 y.version, .slice y.ticks.A y.ticks.l.length y.ticks.c, .int .i64 y.lot, .int .i64 y.band, .slice y.fees.A y.fees.l.length y.fees.c, .int .i64 y.round, .int .i64 y.priority, .int .i64 y.self, .int .i64 y.layout]) (by repeat first | exact .here _ _ | assumption | apply Pick.there)).pick (A := blkA g2 42 [.int .i64 x.version, .slice x.ticks.A x.ticks.l.length x.ticks.c, .int .i64 x.lot, .int .i64 x.band, .slice x.fees.A x.fees.l.length x.fees.c, .int .i64 x.round, .int .i64 x.priority, .int .i64 x.self, .int .i64 x.layout]) (by repeat first | exact .here _ _ | assumption | apply Pick.there))⟩ rfl rfl rfl (fun w hI => (q_cast (v' := .agg (x.own A18 c18 B18 d18).cells.toArray) (q_load_blk Tryd.isAgg42 Tryd.sizeOf42 rfl (hI.choose_spec.blk (by repeat first | exact .here _ _ | assumption | apply Pick.there)) rfl) (by rfl))) ?_
      refine p_one 10 rfl (by kernel_rfl) ?_
      refine t_yes rfl rfl rfl ?_
      refine t_call Tryd.call29 (rsame_calls (x := x) (y := (x.own A18 c18 B18 d18)) (hgx.st hS) ((hgx.st hS).own (rowRdTk (A := A18) (l := x.ticks.l) (c := c18) (m := x.ticks.l.length) hS (by repeat first | exact .here _ _ | assumption | apply Pick.there) rfl) (rowRdTr (A := B18) (l := x.fees.l) (c := d18) (m := x.fees.l.length) hS (by repeat first | exact .here _ _ | assumption | apply Pick.there) rfl))) rfl ?_
      rintro e w ⟨rfl, hT⟩
      refine ⟨_, rfl, ?_⟩
      replace hS := hS.after hT
      rw [show decide (x.vw = (x.own A18 c18 B18 d18).vw) = true from decide_eq_true rfl]
      refine t_nil ?_
      refine ⟨.inr ⟨_, (((hS.pick (A := blkA g5 42 [.int .i64 x.version, .slice A18 x.ticks.l.length c18, .int .i64 x.lot, .int .i64 x.band, .slice B18 x.fees.l.length d18, .int .i64 x.round, .int .i64 x.priority, .int .i64 x.self, .int .i64 x.layout]) (by repeat first | exact .here _ _ | assumption | apply Pick.there)).pick (A := blkA g3 42 [.int .i64 y.version, .slice y.ticks.A y.ticks.l.length y.ticks.c, .int .i64 y.lot, .int .i64 y.band, .slice y.fees.A y.fees.l.length y.fees.c, .int .i64 y.round, .int .i64 y.priority, .int .i64 y.self, .int .i64 y.layout]) (by repeat first | exact .here _ _ | assumption | apply Pick.there)).pick (A := blkA g2 42 [.int .i64 x.version, .slice x.ticks.A x.ticks.l.length x.ticks.c, .int .i64 x.lot, .int .i64 x.band, .slice x.fees.A x.fees.l.length x.fees.c, .int .i64 x.round, .int .i64 x.priority, .int .i64 x.self, .int .i64 x.layout]) (by repeat first | exact .here _ _ | assumption | apply Pick.there))⟩, ?_⟩
      refine p_yes hap hsel 11 rfl rfl ⟨_, (((hS.pick (A := blkA g5 42 [.int .i64 x.version, .slice A18 x.ticks.l.length c18, .int .i64 x.lot, .int .i64 x.band, .slice B18 x.fees.l.length d18, .int .i64 x.round, .int .i64 x.priority, .int .i64 x.self, .int .i64 x.layout]) (by repeat first | exact .here _ _ | assumption | apply Pick.there)).pick (A := blkA g3 42 [.int .i64 y.version, .slice y.ticks.A y.ticks.l.length y.ticks.c, .int .i64 y.lot, .int .i64 y.band, .slice y.fees.A y.fees.l.length y.fees.c, .int .i64 y.round, .int .i64 y.priority, .int .i64 y.self, .int .i64 y.layout]) (by repeat first | exact .here _ _ | assumption | apply Pick.there)).pick (A := blkA g2 42 [.int .i64 x.version, .slice x.ticks.A x.ticks.l.length x.ticks.c, .int .i64 x.lot, .int .i64 x.band, .slice x.fees.A x.fees.l.length x.fees.c, .int .i64 x.round, .int .i64 x.priority, .int .i64 x.self, .int .i64 x.layout]) (by repeat first | exact .here _ _ | assumption | apply Pick.there))⟩ rfl rfl rfl (fun w hI => q_not rfl) ?_
      refine p_q hap hsel 12 rfl rfl ⟨_, (((hS.pick (A := blkA g5 42 [.int .i64 x.version, .slice A18 x.ticks.l.length c18, .int .i64 x.lot, .int .i64 x.band, .slice B18 x.fees.l.length d18, .int .i64 x.round, .int .i64 x.priority, .int .i64 x.self, .int .i64 x.layout]) (by repeat first | exact .here _ _ | assumption | apply Pick.there)).pick (A := blkA g3 42 [.int .i64 y.version, .slice y.ticks.A y.ticks.l.length y.ticks.c, .int .i64 y.lot, .int .i64 y.band, .slice y.fees.A y.fees.l.length y.fees.c, .int .i64 y.round, .int .i64 y.priority, .int .i64 y.self, .int .i64 y.layout]) (by repeat first | exact .here _ _ | assumption | apply Pick.there)).pick (A := blkA g2 42 [.int .i64 x.version, .slice x.ticks.A x.ticks.l.length x.ticks.c, .int .i64 x.lot, .int .i64 x.band, .slice x.fees.A x.fees.l.length x.fees.c, .int .i64 x.round, .int .i64 x.priority, .int .i64 x.self, .int .i64 x.layout]) (by repeat first | exact .here _ _ | assumption | apply Pick.there))⟩ (fun w hI => q_pick_f rfl rfl) ?_
      refine p_q hap hsel 13 rfl rfl ⟨_, (((hS.pick (A := blkA g5 42 [.int .i64 x.version, .slice A18 x.ticks.l.length c18, .int .i64 x.lot, .int .i64 x.band, .slice B18 x.fees.l.length d18, .int .i64 x.round, .int .i64 x.priority, .int .i64 x.self, .int .i64 x.layout]) (by repeat first | exact .here _ _ | assumption | apply Pick.there)).pick (A := blkA g3 42 [.int .i64 y.version, .slice y.ticks.A y.ticks.l.length y.ticks.c, .int .i64 y.lot, .int .i64 y.band, .slice y.fees.A y.fees.l.length y.fees.c, .int .i64 y.round, .int .i64 y.priority, .int .i64 y.self, .int .i64 y.layout]) (by repeat first | exact .here _ _ | assumption | apply Pick.there)).pick (A := blkA g2 42 [.int .i64 x.version, .slice x.ticks.A x.ticks.l.length x.ticks.c, .int .i64 x.lot, .int .i64 x.band, .slice x.fees.A x.fees.l.length x.fees.c, .int .i64 x.round, .int .i64 x.priority, .int .i64 x.self, .int .i64 x.layout]) (by repeat first | exact .here _ _ | assumption | apply Pick.there))⟩ (fun w hI => q_mv (.bool _) rfl) ?_
      refine p_yes hap hsel 14 rfl rfl ⟨_, (((hS.pick (A := blkA g5 42 [.int .i64 x.version, .slice A18 x.ticks.l.length c18, .int .i64 x.lot, .int .i64 x.band, .slice B18 x.fees.l.length d18, .int .i64 x.round, .int .i64 x.priority, .int .i64 x.self, .int .i64 x.layout]) (by repeat first | exact .here _ _ | assumption | apply Pick.there)).pick (A := blkA g3 42 [.int .i64 y.version, .slice y.ticks.A y.ticks.l.length y.ticks.c, .int .i64 y.lot, .int .i64 y.band, .slice y.fees.A y.fees.l.length y.fees.c, .int .i64 y.round, .int .i64 y.priority, .int .i64 y.self, .int .i64 y.layout]) (by repeat first | exact .here _ _ | assumption | apply Pick.there)).pick (A := blkA g2 42 [.int .i64 x.version, .slice x.ticks.A x.ticks.l.length x.ticks.c, .int .i64 x.lot, .int .i64 x.band, .slice x.fees.A x.fees.l.length x.fees.c, .int .i64 x.round, .int .i64 x.priority, .int .i64 x.self, .int .i64 x.layout]) (by repeat first | exact .here _ _ | assumption | apply Pick.there))⟩ rfl rfl rfl (fun w hI => (q_cast (v' := .agg x.cells.toArray) (q_load_blk Tryd.isAgg42 Tryd.sizeOf42 rfl (hI.choose_spec.blk (by repeat first | exact .here _ _ | assumption | apply Pick.there)) rfl) (by rfl))) ?_
      refine p_yes hap hsel 15 rfl rfl ⟨_, (((hS.pick (A := blkA g5 42 [.int .i64 x.version, .slice A18 x.ticks.l.length c18, .int .i64 x.lot, .int .i64 x.band, .slice B18 x.fees.l.length d18, .int .i64 x.round, .int .i64 x.priority, .int .i64 x.self, .int .i64 x.layout]) (by repeat first | exact .here _ _ | assumption | apply Pick.there)).pick (A := blkA g3 42 [.int .i64 y.version, .slice y.ticks.A y.ticks.l.length y.ticks.c, .int .i64 y.lot, .int .i64 y.band, .slice y.fees.A y.fees.l.length y.fees.c, .int .i64 y.round, .int .i64 y.priority, .int .i64 y.self, .int .i64 y.layout]) (by repeat first | exact .here _ _ | assumption | apply Pick.there)).pick (A := blkA g2 42 [.int .i64 x.version, .slice x.ticks.A x.ticks.l.length x.ticks.c, .int .i64 x.lot, .int .i64 x.band, .slice x.fees.A x.fees.l.length x.fees.c, .int .i64 x.round, .int .i64 x.priority, .int .i64 x.self, .int .i64 x.layout]) (by repeat first | exact .here _ _ | assumption | apply Pick.there))⟩ rfl rfl rfl (fun w hI => (q_cast (v' := .agg (x.own A18 c18 B18 d18).cells.toArray) (q_load_blk Tryd.isAgg42 Tryd.sizeOf42 rfl (hI.choose_spec.blk (by repeat first | exact .here _ _ | assumption | apply Pick.there)) rfl) (by rfl))) ?_
      refine p_one 16 rfl (by kernel_rfl) ?_
      refine t_yes rfl rfl rfl ?_
      refine t_call Tryd.call30 (qrsame_calls (x := x) (y := (x.own A18 c18 B18 d18)) (hgx.st hS) ((hgx.st hS).own (rowRdTk (A := A18) (l := x.ticks.l) (c := c18) (m := x.ticks.l.length) hS (by repeat first | exact .here _ _ | assumption | apply Pick.there) rfl) (rowRdTr (A := B18) (l := x.fees.l) (c := d18) (m := x.fees.l.length) hS (by repeat first | exact .here _ _ | assumption | apply Pick.there) rfl))) rfl ?_
      rintro e w ⟨rfl, hT⟩
      refine ⟨_, rfl, ?_⟩
      replace hS := hS.after hT
      rw [show decide (x.vw = (x.own A18 c18 B18 d18).vw) = true from decide_eq_true rfl]
      refine t_nil ?_
      refine ⟨.inr ⟨_, (((hS.pick (A := blkA g5 42 [.int .i64 x.version, .slice A18 x.ticks.l.length c18, .int .i64 x.lot, .int .i64 x.band, .slice B18 x.fees.l.length d18, .int .i64 x.round, .int .i64 x.priority, .int .i64 x.self, .int .i64 x.layout]) (by repeat first | exact .here _ _ | assumption | apply Pick.there)).pick (A := blkA g3 42 [.int .i64 y.version, .slice y.ticks.A y.ticks.l.length y.ticks.c, .int .i64 y.lot, .int .i64 y.band, .slice y.fees.A y.fees.l.length y.fees.c, .int .i64 y.round, .int .i64 y.priority, .int .i64 y.self, .int .i64 y.layout]) (by repeat first | exact .here _ _ | assumption | apply Pick.there)).pick (A := blkA g2 42 [.int .i64 x.version, .slice x.ticks.A x.ticks.l.length x.ticks.c, .int .i64 x.lot, .int .i64 x.band, .slice x.fees.A x.fees.l.length x.fees.c, .int .i64 x.round, .int .i64 x.priority, .int .i64 x.self, .int .i64 x.layout]) (by repeat first | exact .here _ _ | assumption | apply Pick.there))⟩, ?_⟩
      refine p_yes hap hsel 17 rfl rfl ⟨_, (((hS.pick (A := blkA g5 42 [.int .i64 x.version, .slice A18 x.ticks.l.length c18, .int .i64 x.lot, .int .i64 x.band, .slice B18 x.fees.l.length d18, .int .i64 x.round, .int .i64 x.priority, .int .i64 x.self, .int .i64 x.layout]) (by repeat first | exact .here _ _ | assumption | apply Pick.there)).pick (A := blkA g3 42 [.int .i64 y.version, .slice y.ticks.A y.ticks.l.length y.ticks.c, .int .i64 y.lot, .int .i64 y.band, .slice y.fees.A y.fees.l.length y.fees.c, .int .i64 y.round, .int .i64 y.priority, .int .i64 y.self, .int .i64 y.layout]) (by repeat first | exact .here _ _ | assumption | apply Pick.there)).pick (A := blkA g2 42 [.int .i64 x.version, .slice x.ticks.A x.ticks.l.length x.ticks.c, .int .i64 x.lot, .int .i64 x.band, .slice x.fees.A x.fees.l.length x.fees.c, .int .i64 x.round, .int .i64 x.priority, .int .i64 x.self, .int .i64 x.layout]) (by repeat first | exact .here _ _ | assumption | apply Pick.there))⟩ rfl rfl rfl (fun w hI => q_not rfl) ?_
      refine p_q hap hsel 18 rfl rfl ⟨_, (((hS.pick (A := blkA g5 42 [.int .i64 x.version, .slice A18 x.ticks.l.length c18, .int .i64 x.lot, .int .i64 x.band, .slice B18 x.fees.l.length d18, .int .i64 x.round, .int .i64 x.priority, .int .i64 x.self, .int .i64 x.layout]) (by repeat first | exact .here _ _ | assumption | apply Pick.there)).pick (A := blkA g3 42 [.int .i64 y.version, .slice y.ticks.A y.ticks.l.length y.ticks.c, .int .i64 y.lot, .int .i64 y.band, .slice y.fees.A y.fees.l.length y.fees.c, .int .i64 y.round, .int .i64 y.priority, .int .i64 y.self, .int .i64 y.layout]) (by repeat first | exact .here _ _ | assumption | apply Pick.there)).pick (A := blkA g2 42 [.int .i64 x.version, .slice x.ticks.A x.ticks.l.length x.ticks.c, .int .i64 x.lot, .int .i64 x.band, .slice x.fees.A x.fees.l.length x.fees.c, .int .i64 x.round, .int .i64 x.priority, .int .i64 x.self, .int .i64 x.layout]) (by repeat first | exact .here _ _ | assumption | apply Pick.there))⟩ (fun w hI => q_pick_f rfl rfl) ?_
      refine p_end (by kernel_rfl) ?_
      refine c_cond_f rfl rfl ?_
      refine c_skip ?_
      refine c_seq ?_
      refine c_seq ?_
      replace hS := (hS.pick (A := rowA 54 2 A18 x.ticks.l.length c18 ((x.ticks.l).flatMap Tk.cells)) (by repeat first | exact .here _ _ | assumption | apply Pick.there)).recast (congrArg (fun l => rowA 54 2 A18 x.ticks.l.length c18 (l.flatMap Tk.cells)) (updL_zero bumpT x.ticks.l).symm)
      replace hS := (hS.pick (A := rowA 56 3 B18 x.fees.l.length d18 ((x.fees.l).flatMap Tr.cells)) (by repeat first | exact .here _ _ | assumption | apply Pick.there)).recast (congrArg (fun l => rowA 56 3 B18 x.fees.l.length d18 (l.flatMap Tr.cells)) (updL_zero bumpF x.fees.l).symm)
      refine c_region ?_
      refine t_q (q_fieldAddr 1 Tryd.runUnderlying42 rfl Tryd.sizeOf39 (by decide) rfl rfl) ?_
      refine t_q (q_load1 Tryd.isAgg39 rfl (hS.cell (by repeat first | exact .here _ _ | assumption | apply Pick.there) rfl)) ?_
      refine t_q (q_len_slice Tryd.runUnderlying39 rfl) ?_
      refine t_q (q_move) ?_
      refine t_nil ?_
      refine c_block ?_
      refine c_loop [4, 6, 41, 42, 43, 44, 45, 46, 47, 48, 49, 50, 51, 52, 53, 54, 55, 56, 57, 58, 59, 60, 61, 62, 63, 64] (fun k σ w => ∃ j : Nat, σ 41 = .int .i64 (j : Int) ∧ j ≤ x.ticks.l.length ∧ x.ticks.l.length - j ≤ k ∧ St W w [rowA 54 2 A18 x.ticks.l.length c18 ((updL bumpT x.ticks.l j).flatMap Tk.cells), rowA 56 3 B18 x.fees.l.length d18 ((updL bumpF x.fees.l 0).flatMap Tr.cells), blkA g2 42 [.int .i64 x.version, .slice x.ticks.A x.ticks.l.length x.ticks.c, .int .i64 x.lot, .int .i64 x.band, .slice x.fees.A x.fees.l.length x.fees.c, .int .i64 x.round, .int .i64 x.priority, .int .i64 x.self, .int .i64 x.layout], blkA g3 42 [.int .i64 y.version, .slice y.ticks.A y.ticks.l.length y.ticks.c, .int .i64 y.lot, .int .i64 y.band, .slice y.fees.A y.fees.l.length y.fees.c, .int .i64 y.round, .int .i64 y.priority, .int .i64 y.self, .int .i64 y.layout], blkA g5 42 [.int .i64 x.version, .slice A18 x.ticks.l.length c18, .int .i64 x.lot, .int .i64 x.band, .slice B18 x.fees.l.length d18, .int .i64 x.round, .int .i64 x.priority, .int .i64 x.self, .int .i64 x.layout]]) (x.ticks.l.length) rfl (⟨0, rfl, by omega, by omega, ((((((hS.pick (A := blkA g5 42 [.int .i64 x.version, .slice A18 x.ticks.l.length c18, .int .i64 x.lot, .int .i64 x.band, .slice B18 x.fees.l.length d18, .int .i64 x.round, .int .i64 x.priority, .int .i64 x.self, .int .i64 x.layout]) (by repeat first | exact .here _ _ | assumption | apply Pick.there)).pick (A := blkA g3 42 [.int .i64 y.version, .slice y.ticks.A y.ticks.l.length y.ticks.c, .int .i64 y.lot, .int .i64 y.band, .slice y.fees.A y.fees.l.length y.fees.c, .int .i64 y.round, .int .i64 y.priority, .int .i64 y.self, .int .i64 y.layout]) (by repeat first | exact .here _ _ | assumption | apply Pick.there)).pick (A := blkA g2 42 [.int .i64 x.version, .slice x.ticks.A x.ticks.l.length x.ticks.c, .int .i64 x.lot, .int .i64 x.band, .slice x.fees.A x.fees.l.length x.fees.c, .int .i64 x.round, .int .i64 x.priority, .int .i64 x.self, .int .i64 x.layout]) (by repeat first | exact .here _ _ | assumption | apply Pick.there)).pick (A := rowA 56 3 B18 x.fees.l.length d18 ((updL bumpF x.fees.l 0).flatMap Tr.cells)) (by repeat first | exact .here _ _ | assumption | apply Pick.there)).pick (A := rowA 54 2 A18 x.ticks.l.length c18 ((updL bumpT x.ticks.l 0).flatMap Tk.cells)) (by repeat first | exact .here _ _ | assumption | apply Pick.there))).front5⟩) ?_
      skip
      rintro k σ w ⟨j, hj0, hj, hk, hS⟩
      refine c_know 41 hj0 ?_
      clear hj0
      refine c_seq ?_
      refine c_region ?_
      refine t_q (q_lss rfl rfl) ?_
      refine t_nil ?_
      refine c_seq ?_
      refine c_cond rfl ?_ ?_
      · intro hc14
        have hc14d := of_decide_eq_true hc14
        obtain ⟨gE, hgE⟩ := hS.row_some (A := A18) (by repeat first | exact .here _ _ | assumption | apply Pick.there) (by omega)
        subst hgE
        refine c_skip ?_
        refine c_seq ?_
        refine c_block ?_
        refine c_seq ?_
        refine c_region ?_
        refine t_q (q_mv (.int _ _) rfl) ?_
        refine t_q (q_as (.int _ _) rfl) ?_
        refine t_nil ?_
        refine c_seq ?_
        refine c_region ?_
        refine t_q (q_fieldAddr 1 Tryd.runUnderlying42 rfl Tryd.sizeOf39 (by decide) rfl rfl) ?_
        refine t_q (q_load1 Tryd.isAgg39 rfl (hS.cell (by repeat first | exact .here _ _ | assumption | apply Pick.there) rfl)) ?_
        refine t_q (q_mv (.int _ _) rfl) ?_
        first | refine t_index_nat Tryd.runUnderlying39 Tryd.sizeOf54 (rowUpTk (A := some ⟨gE, 0, none⟩) (f := bumpT) (E := x.ticks.l) (q := j) (c := c18) (m := x.ticks.l.length) hS (by repeat first | exact .here _ _ | assumption | apply Pick.there) rfl) rfl rfl (by omega) (fun ad15 hl15 hx15 => ?_) | refine t_index Tryd.runUnderlying39 Tryd.sizeOf54 (rowUpTk (A := some ⟨gE, 0, none⟩) (f := bumpT) (E := x.ticks.l) (q := j) (c := c18) (m := x.ticks.l.length) hS (by repeat first | exact .here _ _ | assumption | apply Pick.there) rfl) rfl rfl (by omega) (fun ad15 hl15 hx15 => ?_)
        refine t_q (q_fieldAddr 1 Tryd.runUnderlying54 rfl Tryd.sizeOf2 (by decide) rfl rfl) ?_
        refine t_q (q_load1 Tryd.isAgg2 rfl (hx15 1 _ rfl)) ?_
        refine t_q (q_add rfl rfl) ?_
        refine t_q (q_cast (v' := .pointer (some ⟨gE, 0 + j * 2, none⟩)) (q_indexAddr Tryd.runUnderlying39 Tryd.sizeOf54 rfl rfl (by omega)) (by rw [addr_add, Int.toNat_natCast])) ?_
        refine t_q (q_fieldAddr 1 Tryd.runUnderlying54 rfl Tryd.sizeOf2 (by decide) rfl rfl) ?_
        refine t_store_row Tryd.sizeOf2 hS (by repeat first | exact .here _ _ | assumption | apply Pick.there) rfl rfl rfl rfl rfl (by show 0 + j * 2 + 1 + 1 ≤ x.ticks.l.length * 2; omega) (fun w hS => ?_)
        replace hS := hS.recast (congrArg (rowA 54 2 (some ⟨gE, 0, none⟩) x.ticks.l.length c18) (upd_tk (by omega)))
        refine t_nil ?_
        refine c_seq ?_
        refine c_draw ?_
        refine d_quiet 11 [0, 1, 2, 3, 4, 5, 6, 7, 8, 9, 10] [0, 1, 2, 3, 4, 5, 6, 7, 8, 9, 10] hS rfl (by kernel_rfl) (by kernel_rfl) (by kernel_rfl) (by kernel_rfl) (fun hap hsel w hS => ?_)
        refine p_q hap hsel 0 rfl rfl hS (fun w hS => q_fieldAddr 1 Tryd.runUnderlying42 rfl Tryd.sizeOf39 (by decide) rfl rfl) ?_
        refine p_q hap hsel 1 rfl rfl hS (fun w hS => q_load1 Tryd.isAgg39 rfl (hS.cell (by repeat first | exact .here _ _ | assumption | apply Pick.there) rfl)) ?_
        refine p_q hap hsel 2 rfl rfl hS (fun w hS => q_mv (.int _ _) rfl) ?_
        refine p_index hap hsel 3 rfl rfl hS Tryd.runUnderlying39 Tryd.sizeOf54 (fun w hS => hgx.trd.st hS) rfl rfl (by omega) (fun ad16 hl16 hx16 => ?_)
        refine p_q hap hsel 4 rfl rfl hS (fun w hS => q_loadN Tryd.isAgg54 Tryd.sizeOf54 rfl hl16 (hx16 w hS)) ?_
        refine p_q hap hsel 5 rfl rfl hS (fun w hS => q_fieldAddr 1 Tryd.runUnderlying42 rfl Tryd.sizeOf39 (by decide) rfl rfl) ?_
        refine p_q hap hsel 6 rfl rfl hS (fun w hS => q_load1 Tryd.isAgg39 rfl (hS.cell (by repeat first | exact .here _ _ | assumption | apply Pick.there) rfl)) ?_
        refine p_q hap hsel 7 rfl rfl hS (fun w hS => q_mv (.int _ _) rfl) ?_
        refine p_index hap hsel 8 rfl rfl hS Tryd.runUnderlying39 Tryd.sizeOf54 (fun w hS => rowUpTk (A := some ⟨gE, 0, none⟩) (f := bumpT) (E := x.ticks.l) (q := (j + 1)) (c := c18) (m := x.ticks.l.length) hS (by repeat first | exact .here _ _ | assumption | apply Pick.there) rfl) rfl rfl (by omega) (fun ad17 hl17 hx17 => ?_)
        refine p_q hap hsel 9 rfl rfl hS (fun w hS => q_loadN Tryd.isAgg54 Tryd.sizeOf54 rfl hl17 (hx17 w hS)) ?_
        refine p_q hap hsel 10 rfl rfl hS (fun w hS => (q_cast (v' := .bool false) (q_eql_tk (e := x.ticks.l.getD j default) (q := (updL bumpT x.ticks.l (j + 1)).getD j default) rfl rfl (tk_in hgx.tin (by omega)) (tk_in (updL_in (p := Tk.In) hgx.tin (fun _ => bumpT_in)) (by rw [updL_len]; omega))) (congrArg Value.bool (decide_eq_false (by rw [updL_at (by omega)]; exact bumpT_ne (tk_in hgx.tin (by omega))))))) ?_
        refine p_end (by kernel_rfl) ?_
        refine c_cond_f rfl rfl ?_
        refine c_skip ?_
        refine c_region ?_
        refine t_q (q_add_i64 rfl rfl (by omega)) ?_
        refine t_q (q_mv (.int _ _) rfl) ?_
        refine t_nil ?_
        exact ⟨k - 1, by omega, j + 1, rfl, by omega, by omega, ((((((hS.pick (A := blkA g5 42 [.int .i64 x.version, .slice (some ⟨gE, 0, none⟩) x.ticks.l.length c18, .int .i64 x.lot, .int .i64 x.band, .slice B18 x.fees.l.length d18, .int .i64 x.round, .int .i64 x.priority, .int .i64 x.self, .int .i64 x.layout]) (by repeat first | exact .here _ _ | assumption | apply Pick.there)).pick (A := blkA g3 42 [.int .i64 y.version, .slice y.ticks.A y.ticks.l.length y.ticks.c, .int .i64 y.lot, .int .i64 y.band, .slice y.fees.A y.fees.l.length y.fees.c, .int .i64 y.round, .int .i64 y.priority, .int .i64 y.self, .int .i64 y.layout]) (by repeat first | exact .here _ _ | assumption | apply Pick.there)).pick (A := blkA g2 42 [.int .i64 x.version, .slice x.ticks.A x.ticks.l.length x.ticks.c, .int .i64 x.lot, .int .i64 x.band, .slice x.fees.A x.fees.l.length x.fees.c, .int .i64 x.round, .int .i64 x.priority, .int .i64 x.self, .int .i64 x.layout]) (by repeat first | exact .here _ _ | assumption | apply Pick.there)).pick (A := rowA 56 3 B18 x.fees.l.length d18 ((updL bumpF x.fees.l 0).flatMap Tr.cells)) (by repeat first | exact .here _ _ | assumption | apply Pick.there)).pick (A := rowA 54 2 (some ⟨gE, 0, none⟩) x.ticks.l.length c18 ((updL bumpT x.ticks.l (j + 1)).flatMap Tk.cells)) (by repeat first | exact .here _ _ | assumption | apply Pick.there))).front5⟩
      · intro hc14
        have hc14d := of_decide_eq_false hc14
        obtain rfl : j = x.ticks.l.length := by omega
        refine c_exit ?_
        refine ite_t rfl ?_
        refine c_seq ?_
        refine c_seq ?_
        refine c_region ?_
        refine t_q (q_fieldAddr 4 Tryd.runUnderlying42 rfl Tryd.sizeOf40 (by decide) rfl rfl) ?_
        refine t_q (q_load1 Tryd.isAgg40 rfl (hS.cell (by repeat first | exact .here _ _ | assumption | apply Pick.there) rfl)) ?_
        refine t_q (q_len_slice Tryd.runUnderlying40 rfl) ?_
        refine t_q (q_move) ?_
        refine t_nil ?_
        refine c_block ?_
        refine c_loop [4, 7, 68, 69, 70, 71, 72, 73, 74, 75, 76, 77, 78, 79, 80, 81, 82, 83, 84, 85, 86, 87, 88, 89, 90, 91] (fun k σ w => ∃ j : Nat, σ 68 = .int .i64 (j : Int) ∧ j ≤ x.fees.l.length ∧ x.fees.l.length - j ≤ k ∧ St W w [rowA 54 2 A18 x.ticks.l.length c18 ((updL bumpT x.ticks.l x.ticks.l.length).flatMap Tk.cells), rowA 56 3 B18 x.fees.l.length d18 ((updL bumpF x.fees.l j).flatMap Tr.cells), blkA g2 42 [.int .i64 x.version, .slice x.ticks.A x.ticks.l.length x.ticks.c, .int .i64 x.lot, .int .i64 x.band, .slice x.fees.A x.fees.l.length x.fees.c, .int .i64 x.round, .int .i64 x.priority, .int .i64 x.self, .int .i64 x.layout], blkA g3 42 [.int .i64 y.version, .slice y.ticks.A y.ticks.l.length y.ticks.c, .int .i64 y.lot, .int .i64 y.band, .slice y.fees.A y.fees.l.length y.fees.c, .int .i64 y.round, .int .i64 y.priority, .int .i64 y.self, .int .i64 y.layout], blkA g5 42 [.int .i64 x.version, .slice A18 x.ticks.l.length c18, .int .i64 x.lot, .int .i64 x.band, .slice B18 x.fees.l.length d18, .int .i64 x.round, .int .i64 x.priority, .int .i64 x.self, .int .i64 x.layout]]) (x.fees.l.length) rfl (⟨0, rfl, by omega, by omega, ((((((hS.pick (A := blkA g5 42 [.int .i64 x.version, .slice A18 x.ticks.l.length c18, .int .i64 x.lot, .int .i64 x.band, .slice B18 x.fees.l.length d18, .int .i64 x.round, .int .i64 x.priority, .int .i64 x.self, .int .i64 x.layout]) (by repeat first | exact .here _ _ | assumption | apply Pick.there)).pick (A := blkA g3 42 [.int .i64 y.version, .slice y.ticks.A y.ticks.l.length y.ticks.c, .int .i64 y.lot, .int .i64 y.band, .slice y.fees.A y.fees.l.length y.fees.c, .int .i64 y.round, .int .i64 y.priority, .int .i64 y.self, .int .i64 y.layout]) (by repeat first | exact .here _ _ | assumption | apply Pick.there)).pick (A := blkA g2 42 [.int .i64 x.version, .slice x.ticks.A x.ticks.l.length x.ticks.c, .int .i64 x.lot, .int .i64 x.band, .slice x.fees.A x.fees.l.length x.fees.c, .int .i64 x.round, .int .i64 x.priority, .int .i64 x.self, .int .i64 x.layout]) (by repeat first | exact .here _ _ | assumption | apply Pick.there)).pick (A := rowA 56 3 B18 x.fees.l.length d18 ((updL bumpF x.fees.l 0).flatMap Tr.cells)) (by repeat first | exact .here _ _ | assumption | apply Pick.there)).pick (A := rowA 54 2 A18 x.ticks.l.length c18 ((updL bumpT x.ticks.l x.ticks.l.length).flatMap Tk.cells)) (by repeat first | exact .here _ _ | assumption | apply Pick.there))).front5⟩) ?_
        skip
        rintro k σ w ⟨j, hj0, hj, hk, hS⟩
        refine c_know 68 hj0 ?_
        clear hj0
        refine c_seq ?_
        refine c_region ?_
        refine t_q (q_lss rfl rfl) ?_
        refine t_nil ?_
        refine c_seq ?_
        refine c_cond rfl ?_ ?_
        · intro hc19
          have hc19d := of_decide_eq_true hc19
          obtain ⟨gE, hgE⟩ := hS.row_some (A := B18) (by repeat first | exact .here _ _ | assumption | apply Pick.there) (by omega)
          subst hgE
          refine c_skip ?_
          refine c_seq ?_
          refine c_block ?_
          refine c_seq ?_
          refine c_region ?_
          refine t_q (q_mv (.int _ _) rfl) ?_
          refine t_q (q_as (.int _ _) rfl) ?_
          refine t_nil ?_
          refine c_seq ?_
          refine c_region ?_
          refine t_q (q_fieldAddr 4 Tryd.runUnderlying42 rfl Tryd.sizeOf40 (by decide) rfl rfl) ?_
          refine t_q (q_load1 Tryd.isAgg40 rfl (hS.cell (by repeat first | exact .here _ _ | assumption | apply Pick.there) rfl)) ?_
          refine t_q (q_mv (.int _ _) rfl) ?_
          first | refine t_index_nat Tryd.runUnderlying40 Tryd.sizeOf56 (rowUpTr (A := some ⟨gE, 0, none⟩) (f := bumpF) (E := x.fees.l) (q := j) (c := d18) (m := x.fees.l.length) hS (by repeat first | exact .here _ _ | assumption | apply Pick.there) rfl) rfl rfl (by omega) (fun ad20 hl20 hx20 => ?_) | refine t_index Tryd.runUnderlying40 Tryd.sizeOf56 (rowUpTr (A := some ⟨gE, 0, none⟩) (f := bumpF) (E := x.fees.l) (q := j) (c := d18) (m := x.fees.l.length) hS (by repeat first | exact .here _ _ | assumption | apply Pick.there) rfl) rfl rfl (by omega) (fun ad20 hl20 hx20 => ?_)
          refine t_q (q_fieldAddr 1 Tryd.runUnderlying56 rfl Tryd.sizeOf2 (by decide) rfl rfl) ?_
          refine t_q (q_load1 Tryd.isAgg2 rfl (hx20 1 _ rfl)) ?_
          refine t_q (q_add rfl rfl) ?_
          refine t_q (q_cast (v' := .pointer (some ⟨gE, 0 + j * 3, none⟩)) (q_indexAddr Tryd.runUnderlying40 Tryd.sizeOf56 rfl rfl (by omega)) (by rw [addr_add, Int.toNat_natCast])) ?_
          refine t_q (q_fieldAddr 1 Tryd.runUnderlying56 rfl Tryd.sizeOf2 (by decide) rfl rfl) ?_
          refine t_store_row Tryd.sizeOf2 hS (by repeat first | exact .here _ _ | assumption | apply Pick.there) rfl rfl rfl rfl rfl (by show 0 + j * 3 + 1 + 1 ≤ x.fees.l.length * 3; omega) (fun w hS => ?_)
          replace hS := hS.recast (congrArg (rowA 56 3 (some ⟨gE, 0, none⟩) x.fees.l.length d18) (upd_tr (by omega)))
          refine t_nil ?_
          refine c_seq ?_
          refine c_draw ?_
          refine d_quiet 11 [0, 1, 2, 3, 4, 5, 6, 7, 8, 9, 10] [0, 1, 2, 3, 4, 5, 6, 7, 8, 9, 10] hS rfl (by kernel_rfl) (by kernel_rfl) (by kernel_rfl) (by kernel_rfl) (fun hap hsel w hS => ?_)
          refine p_q hap hsel 0 rfl rfl hS (fun w hS => q_fieldAddr 4 Tryd.runUnderlying42 rfl Tryd.sizeOf40 (by decide) rfl rfl) ?_
          refine p_q hap hsel 1 rfl rfl hS (fun w hS => q_load1 Tryd.isAgg40 rfl (hS.cell (by repeat first | exact .here _ _ | assumption | apply Pick.there) rfl)) ?_
          refine p_q hap hsel 2 rfl rfl hS (fun w hS => q_mv (.int _ _) rfl) ?_
          refine p_index hap hsel 3 rfl rfl hS Tryd.runUnderlying40 Tryd.sizeOf56 (fun w hS => hgx.frd.st hS) rfl rfl (by omega) (fun ad21 hl21 hx21 => ?_)
          refine p_q hap hsel 4 rfl rfl hS (fun w hS => q_loadN Tryd.isAgg56 Tryd.sizeOf56 rfl hl21 (hx21 w hS)) ?_
          refine p_q hap hsel 5 rfl rfl hS (fun w hS => q_fieldAddr 4 Tryd.runUnderlying42 rfl Tryd.sizeOf40 (by decide) rfl rfl) ?_
          refine p_q hap hsel 6 rfl rfl hS (fun w hS => q_load1 Tryd.isAgg40 rfl (hS.cell (by repeat first | exact .here _ _ | assumption | apply Pick.there) rfl)) ?_
          refine p_q hap hsel 7 rfl rfl hS (fun w hS => q_mv (.int _ _) rfl) ?_
          refine p_index hap hsel 8 rfl rfl hS Tryd.runUnderlying40 Tryd.sizeOf56 (fun w hS => rowUpTr (A := some ⟨gE, 0, none⟩) (f := bumpF) (E := x.fees.l) (q := (j + 1)) (c := d18) (m := x.fees.l.length) hS (by repeat first | exact .here _ _ | assumption | apply Pick.there) rfl) rfl rfl (by omega) (fun ad22 hl22 hx22 => ?_)
          refine p_q hap hsel 9 rfl rfl hS (fun w hS => q_loadN Tryd.isAgg56 Tryd.sizeOf56 rfl hl22 (hx22 w hS)) ?_
          refine p_q hap hsel 10 rfl rfl hS (fun w hS => (q_cast (v' := .bool false) (q_eql_tr (e := x.fees.l.getD j default) (q := (updL bumpF x.fees.l (j + 1)).getD j default) rfl rfl (tr_in hgx.fin (by omega)) (tr_in (updL_in (p := Tr.In) hgx.fin (fun _ => bumpF_in)) (by rw [updL_len]; omega))) (congrArg Value.bool (decide_eq_false (by rw [updL_at (by omega)]; exact bumpF_ne (tr_in hgx.fin (by omega))))))) ?_
          refine p_end (by kernel_rfl) ?_
          refine c_cond_f rfl rfl ?_
          refine c_skip ?_
          refine c_region ?_
          refine t_q (q_add_i64 rfl rfl (by omega)) ?_
          refine t_q (q_mv (.int _ _) rfl) ?_
          refine t_nil ?_
          exact ⟨k - 1, by omega, j + 1, rfl, by omega, by omega, ((((((hS.pick (A := blkA g5 42 [.int .i64 x.version, .slice A18 x.ticks.l.length c18, .int .i64 x.lot, .int .i64 x.band, .slice (some ⟨gE, 0, none⟩) x.fees.l.length d18, .int .i64 x.round, .int .i64 x.priority, .int .i64 x.self, .int .i64 x.layout]) (by repeat first | exact .here _ _ | assumption | apply Pick.there)).pick (A := blkA g3 42 [.int .i64 y.version, .slice y.ticks.A y.ticks.l.length y.ticks.c, .int .i64 y.lot, .int .i64 y.band, .slice y.fees.A y.fees.l.length y.fees.c, .int .i64 y.round, .int .i64 y.priority, .int .i64 y.self, .int .i64 y.layout]) (by repeat first | exact .here _ _ | assumption | apply Pick.there)).pick (A := blkA g2 42 [.int .i64 x.version, .slice x.ticks.A x.ticks.l.length x.ticks.c, .int .i64 x.lot, .int .i64 x.band, .slice x.fees.A x.fees.l.length x.fees.c, .int .i64 x.round, .int .i64 x.priority, .int .i64 x.self, .int .i64 x.layout]) (by repeat first | exact .here _ _ | assumption | apply Pick.there)).pick (A := rowA 56 3 (some ⟨gE, 0, none⟩) x.fees.l.length d18 ((updL bumpF x.fees.l (j + 1)).flatMap Tr.cells)) (by repeat first | exact .here _ _ | assumption | apply Pick.there)).pick (A := rowA 54 2 A18 x.ticks.l.length c18 ((updL bumpT x.ticks.l x.ticks.l.length).flatMap Tk.cells)) (by repeat first | exact .here _ _ | assumption | apply Pick.there))).front5⟩
        · intro hc19
          have hc19d := of_decide_eq_false hc19
          refine c_exit ?_
          refine ite_t rfl ?_
          refine c_seq ?_
          refine c_region ?_
          refine t_call Tryd.call22 (r9lives_calls (hE.st hS)) rfl ?_
          rintro e w ⟨rfl, hT⟩
          refine ⟨_, rfl, ?_⟩
          replace hS := hS.after hT
          refine t_q (q_as (.bool _) rfl) ?_
          refine t_nil ?_
          refine c_ret ?_
          refine r_one rfl rfl ?_
          exact ⟨rfl, hS.nil⟩
end Go.Proofs.YtcgagmojgjbfpaaDoor
