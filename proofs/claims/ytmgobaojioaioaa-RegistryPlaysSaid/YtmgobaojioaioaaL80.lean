/- Whatever is put, dropped and cloned: the walk. -/
import Derived.Test.YtmgobaojioaioaaWv
import Derived.Test.YtmgobaojioaioaaWq
import Derived.Test.YtmgobaojioaioaaWu
import Derived.Test.YtmgobaojioaioaaWd
namespace Go.Proofs.Ytmgobaojioaioaa
open Go Go.RowKit Go.Lib
variable {W : World}
theorem qgput2_calls {w : World} {R : List Asn} {q : Nat} {A : Option Addr} {c : Nat} {Y : List RuV} {ps : List RdP} {x : RuV} (hS : St W w (blkA q 141 [.slice A Y.length c] :: rowA 47 9 A Y.length c (Y.flatMap RuV.cells) :: rdsA ps :: R)) (hs : Srt (Y.map nf)) (hY16 : Y.length ≤ 16) (hb : RuBy W ps x) : Calls Try.prog 23 #[.pointer (some ⟨q, 0, none⟩), .agg x.cells.toArray] w fun e w' => e = .returned (.int .i64 (gputE (Y.map nf) x)) ∧ ∃ (A' : Option Addr) (c' : Nat) (Y' : List RuV), Y'.map nf = gputM (Y.map nf) x ∧ (∀ y ∈ Y', y = x ∨ y ∈ Y) ∧ St W w' (blkA q 141 [.slice A' Y'.length c'] :: rowA 47 9 A' Y'.length c' (Y'.flatMap RuV.cells) :: rdsA ps :: R) := by
  refine (qgput_calls hS hs hY16 hb).mono fun e w' h => ?_
  obtain ⟨rfl, ⟨h0, A', c', hS⟩ | ⟨h0, hS⟩⟩ := h
  · refine ⟨rfl, A', c', _, ?_, fun y hy => ?_, hS⟩
    · rw [rgI_map]; unfold gputM; rw [if_pos h0]
    · rcases List.mem_cons.1 ((rgI_perm _ _).subset hy) with h | h
      · exact .inl h
      · exact .inr h
  · exact ⟨rfl, A, c, Y, by unfold gputM; rw [if_neg h0], fun y hy => .inr hy, hS⟩
theorem qgdrop2_calls {w : World} {R : List Asn} {q : Nat} {A : Option Addr} {c : Nat} {Y : List RuV} {v : Int} (hS : St W w (blkA q 141 [.slice A Y.length c] :: rowA 47 9 A Y.length c (Y.flatMap RuV.cells) :: R)) (hs : Srt (Y.map nf)) (hY16 : Y.length ≤ 16) : Calls Try.prog 57 #[.pointer (some ⟨q, 0, none⟩), .int .i64 v] w fun e w' => e = .returned (.int .i64 (gdropE (Y.map nf) v)) ∧ ∃ (A' : Option Addr) (c' : Nat) (Y' : List RuV), Y'.map nf = gdropM (Y.map nf) v ∧ (∀ y ∈ Y', y ∈ Y) ∧ St W w' (blkA q 141 [.slice A' Y'.length c'] :: rowA 47 9 A' Y'.length c' (Y'.flatMap RuV.cells) :: R) := by
  refine (qgdrop_calls hS hs hY16).mono fun e w' h => ?_
  obtain ⟨rfl, ⟨h0, A', c', hS⟩ | ⟨h0, hS⟩⟩ := h
  · exact ⟨rfl, A', c', _, by rw [filt_map]; unfold gdropM; rw [if_pos h0], fun y hy => (List.mem_filter.1 hy).1, hS⟩
  · exact ⟨rfl, A, c, Y, by unfold gdropM; rw [if_neg h0], fun y hy => hy, hS⟩
attribute [local irreducible] blkA rowA rdsA mapA regA
set_option maxRecDepth 100000 in
theorem plays_dark {x : RuV} {A0 : Option Addr} {c0 : Nat} {l : List OpG} (hl : Rd W 11 A0 l.length (fun i => (l.getD i default).cells)) (hm : l.length ≤ 9223372036854775807) {v : Int} (h : lightG l = false ∨ lightR x = false) : Calls Try.prog 10 #[.agg x.cells.toArray, .slice A0 l.length c0, .int .i64 v] W fun e w' => e = .returned (.bool true) ∧ St W w' [] := by
  have hS := St.init W
  refine calls_of_wpE (args := [_, _, _]) Try.func10 rfl rfl rfl ?_
  refine c_seq ?_
  refine c_region ?_
  refine t_box (v := (.agg _)) rfl rfl hS (fun g3 w hS => ?_)
  replace hS := hS.recast (show _ = blkA g3 47 [.int .i64 x.version, .slice x.ticks.A x.ticks.l.length x.ticks.c, .int .i64 x.lot, .int .i64 x.band, .slice x.fees.A x.fees.l.length x.fees.c, .int .i64 x.round, .int .i64 x.priority, .int .i64 x.self, .int .i64 x.layout] from rfl)
  refine t_q (q_assign) ?_
  refine t_nil ?_
  refine c_seq ?_
  refine c_seq ?_
  refine c_region ?_
  refine t_q (q_mv (.slice _ _ _) rfl) ?_
  refine t_call Try.call52 (glight_calls (Rd.st hl hS) hm) rfl ?_
  rintro e w ⟨rfl, hT⟩
  refine ⟨_, rfl, ?_⟩
  replace hS := hS.after hT
  refine t_q (q_not rfl) ?_
  refine t_q (q_mv (.bool _) rfl) ?_
  refine t_case 20 rfl ?_ ?_
  · intro hg2
    refine t_no rfl rfl (by rw [(congrArg not (not_back hg2))]; decide) ?_
    refine t_no rfl rfl (by rw [(congrArg not (not_back hg2))]; decide) ?_
    refine t_no rfl rfl (by rw [(congrArg not (not_back hg2))]; decide) ?_
    refine t_q (q_pick_t rfl (congrArg not (not_back hg2))) ?_
    refine t_nil ?_
    refine c_cond_t rfl rfl ?_
    refine c_seq ?_
    refine c_region ?_
    refine t_call Try.call53 (rglives_calls) rfl ?_
    rintro e w ⟨rfl, hT⟩
    refine ⟨_, rfl, ?_⟩
    replace hS := hS.after hT
    refine t_q (q_as (.bool _) rfl) ?_
    refine t_nil ?_
    refine c_ret ?_
    refine r_one rfl rfl ?_
    exact ⟨rfl, hS.nil⟩
  · intro hg2
    refine t_yes rfl rfl (congrArg not (not_back hg2)) ?_
    refine t_q (q_cast (v' := .agg x.cells.toArray) (q_load_blk Try.isAgg47 Try.sizeOf47 rfl (hS.blk (by repeat first | exact .here _ _ | assumption | apply Pick.there)) rfl) (by rfl)) ?_
    refine t_yes rfl rfl (congrArg not (not_back hg2)) ?_
    refine t_call Try.call41 (rlight_calls (x := x)) rfl ?_
    rintro e w ⟨rfl, hT⟩
    refine ⟨_, rfl, ?_⟩
    replace hS := hS.after hT
    refine t_yes rfl rfl (congrArg not (not_back hg2)) ?_
    refine t_q (q_not rfl) ?_
    refine t_q (q_pick_f rfl (congrArg not (not_back hg2))) ?_
    refine t_nil ?_
    refine c_cond rfl ?_ ?_
    · intro hc5
      refine c_seq ?_
      refine c_region ?_
      refine t_call Try.call53 (rglives_calls) rfl ?_
      rintro e w ⟨rfl, hT⟩
      refine ⟨_, rfl, ?_⟩
      replace hS := hS.after hT
      refine t_q (q_as (.bool _) rfl) ?_
      refine t_nil ?_
      refine c_ret ?_
      refine r_one rfl rfl ?_
      exact ⟨rfl, hS.nil⟩
    · intro hc5
      exfalso
      have h1 := bnf (by assumption : (!lightG l) = false)
      have h2 := bnf (by assumption : (!lightR x) = false)
      rcases h with h | h
      · rw [h1] at h; cases h
      · rw [h2] at h; cases h
set_option maxRecDepth 100000 in
theorem plays_bad {x : RuV} (hgx : x.Gd W) {A0 : Option Addr} {c0 : Nat} {l : List OpG} (hl : Rd W 11 A0 l.length (fun i => (l.getD i default).cells)) (hm : l.length ≤ 9223372036854775807) {v : Int} (hLG : lightG l = true) (hLx : lightR x = true) (hg : goodR x = false) : Calls Try.prog 10 #[.agg x.cells.toArray, .slice A0 l.length c0, .int .i64 v] W fun e w' => e = .returned (.bool true) ∧ St W w' [] := by
  have hS := St.init W
  refine calls_of_wpE (args := [_, _, _]) Try.func10 rfl rfl rfl ?_
  refine c_seq ?_
  refine c_region ?_
  refine t_box (v := (.agg _)) rfl rfl hS (fun g3 w hS => ?_)
  replace hS := hS.recast (show _ = blkA g3 47 [.int .i64 x.version, .slice x.ticks.A x.ticks.l.length x.ticks.c, .int .i64 x.lot, .int .i64 x.band, .slice x.fees.A x.fees.l.length x.fees.c, .int .i64 x.round, .int .i64 x.priority, .int .i64 x.self, .int .i64 x.layout] from rfl)
  refine t_q (q_assign) ?_
  refine t_nil ?_
  refine c_seq ?_
  refine c_seq ?_
  refine c_region ?_
  refine t_q (q_mv (.slice _ _ _) rfl) ?_
  refine t_call Try.call52 (glight_calls (Rd.st hl hS) hm) rfl ?_
  rintro e w ⟨rfl, hT⟩
  refine ⟨_, rfl, ?_⟩
  replace hS := hS.after hT
  rw [hLG]
  refine t_q (q_not rfl) ?_
  refine t_q (q_mv (.bool _) rfl) ?_
  refine t_yes rfl rfl rfl ?_
  refine t_q (q_cast (v' := .agg x.cells.toArray) (q_load_blk Try.isAgg47 Try.sizeOf47 rfl (hS.blk (by repeat first | exact .here _ _ | assumption | apply Pick.there)) rfl) (by rfl)) ?_
  refine t_yes rfl rfl rfl ?_
  refine t_call Try.call41 (rlight_calls (x := x)) rfl ?_
  rintro e w ⟨rfl, hT⟩
  refine ⟨_, rfl, ?_⟩
  replace hS := hS.after hT
  rw [hLx]
  refine t_yes rfl rfl rfl ?_
  refine t_q (q_not rfl) ?_
  refine t_q (q_pick_f rfl rfl) ?_
  refine t_nil ?_
  refine c_cond_f rfl rfl ?_
  refine c_skip ?_
  refine c_seq ?_
  replace hS := hS.rds0
  refine c_region ?_
  refine t_q (q_cast (v' := .agg x.cells.toArray) (q_load_blk Try.isAgg47 Try.sizeOf47 rfl (hS.blk (by repeat first | exact .here _ _ | assumption | apply Pick.there)) rfl) (by rfl)) ?_
  refine t_call Try.call54 (rgnew_calls (x := x) (hS.pick (A := rdsA []) (by repeat first | exact .here _ _ | assumption | apply Pick.there)) (RuBy.base hgx)) rfl ?_
  rintro e w ⟨p, ps, rfl, hs1, hor⟩
  refine ⟨_, rfl, ?_⟩
  rcases hor with ⟨h, _⟩ | ⟨_, rfl, hS⟩
  · rw [hg] at h; cases h
  refine t_q (q_as (.pointer _) rfl) ?_
  refine t_nil ?_
  refine c_seq ?_
  refine c_region ?_
  refine t_q (q_cast (v' := .agg x.cells.toArray) (q_load_blk Try.isAgg47 Try.sizeOf47 rfl (hS.blk (by repeat first | exact .here _ _ | assumption | apply Pick.there)) rfl) (by rfl)) ?_
  refine t_call Try.call55 (qgnew_calls (x := x) (hS.pick (A := rdsA ps) (by repeat first | exact .here _ _ | assumption | apply Pick.there)) (RuBy.base hgx)) rfl ?_
  rintro e w ⟨q, A, c, rfl, hS⟩
  refine ⟨_, rfl, ?_⟩
  rw [hg]
  refine t_q (q_mv (.tuple _) rfl) ?_
  refine t_q (q_extract rfl rfl) ?_
  refine t_q (q_extract rfl rfl) ?_
  refine t_q (q_as (.pointer _) rfl) ?_
  refine t_q (q_as (.bool _) rfl) ?_
  refine t_nil ?_
  refine c_seq ?_
  refine c_seq ?_
  refine c_region ?_
  refine t_q (q_mv (.bool _) rfl) ?_
  refine t_q (q_not rfl) ?_
  refine t_q (q_mv (.bool _) rfl) ?_
  refine t_no rfl rfl (by decide) ?_
  refine t_no rfl rfl (by decide) ?_
  refine t_q (q_pick_t rfl rfl) ?_
  refine t_nil ?_
  refine c_cond_t rfl rfl ?_
  refine c_seq ?_
  refine c_region ?_
  refine t_q (q_mv (.bool _) rfl) ?_
  refine t_q (q_mv (.pointer _) rfl) ?_
  refine t_q (q_neq_ptr_nil Try.runUnderlying29 rfl rfl) ?_
  refine t_q (q_cast (v' := .bool true) (q_eql_bool Try.runUnderlying4 rfl rfl) (by rfl)) ?_
  refine t_q (q_mv (.bool _) rfl) ?_
  refine t_yes rfl rfl rfl ?_
  refine t_call Try.call53 (rglives_calls) rfl ?_
  rintro e w ⟨rfl, hT⟩
  refine ⟨_, rfl, ?_⟩
  replace hS := hS.after hT
  refine t_q (q_pick_t rfl rfl) ?_
  refine t_q (q_as (.bool _) rfl) ?_
  refine t_nil ?_
  refine c_ret ?_
  refine r_one rfl rfl ?_
  exact ⟨rfl, hS.nil⟩
set_option maxHeartbeats 4000000 in
set_option maxRecDepth 100000 in
theorem plays_good {x : RuV} (hgx : x.Gd W) {A0 : Option Addr} {c0 : Nat} {l : List OpG} (hl : Rd W 11 A0 l.length (fun i => (l.getD i default).cells)) (hm : l.length ≤ 9223372036854775807) {v : Int} (hLG : lightG l = true) (hLx : lightR x = true) (hgo : ∀ j, j < l.length → (l.getD j default).r.Gd W) (hg : goodR x = true) : Calls Try.prog 10 #[.agg x.cells.toArray, .slice A0 l.length c0, .int .i64 v] W fun e w' => e = .returned (.bool true) ∧ St W w' [] := by
  have hS := St.init W
  have hl60 := lightG_len hLG
  have hg1 : GReg ([x].map nf) := by
    have h := GReg.nil.put x
    rw [(gput_nil x).2, hg, if_pos rfl] at h
    exact h
  refine calls_of_wpE (args := [_, _, _]) Try.func10 rfl rfl rfl ?_
  refine c_seq ?_
  refine c_region ?_
  refine t_box (v := (.agg _)) rfl rfl hS (fun g3 w hS => ?_)
  replace hS := hS.recast (show _ = blkA g3 47 [.int .i64 x.version, .slice x.ticks.A x.ticks.l.length x.ticks.c, .int .i64 x.lot, .int .i64 x.band, .slice x.fees.A x.fees.l.length x.fees.c, .int .i64 x.round, .int .i64 x.priority, .int .i64 x.self, .int .i64 x.layout] from rfl)
  refine t_q (q_assign) ?_
  refine t_nil ?_
  refine c_seq ?_
  refine c_seq ?_
  refine c_region ?_
  refine t_q (q_mv (.slice _ _ _) rfl) ?_
  refine t_call Try.call52 (glight_calls (Rd.st hl hS) hm) rfl ?_
  rintro e w ⟨rfl, hT⟩
  refine ⟨_, rfl, ?_⟩
  replace hS := hS.after hT
  rw [hLG]
  refine t_q (q_not rfl) ?_
  refine t_q (q_mv (.bool _) rfl) ?_
  refine t_yes rfl rfl rfl ?_
  refine t_q (q_cast (v' := .agg x.cells.toArray) (q_load_blk Try.isAgg47 Try.sizeOf47 rfl (hS.blk (by repeat first | exact .here _ _ | assumption | apply Pick.there)) rfl) (by rfl)) ?_
  refine t_yes rfl rfl rfl ?_
  refine t_call Try.call41 (rlight_calls (x := x)) rfl ?_
  rintro e w ⟨rfl, hT⟩
  refine ⟨_, rfl, ?_⟩
  replace hS := hS.after hT
  rw [hLx]
  refine t_yes rfl rfl rfl ?_
  refine t_q (q_not rfl) ?_
  refine t_q (q_pick_f rfl rfl) ?_
  refine t_nil ?_
  refine c_cond_f rfl rfl ?_
  refine c_skip ?_
  refine c_seq ?_
  replace hS := hS.rds0
  refine c_region ?_
  refine t_q (q_cast (v' := .agg x.cells.toArray) (q_load_blk Try.isAgg47 Try.sizeOf47 rfl (hS.blk (by repeat first | exact .here _ _ | assumption | apply Pick.there)) rfl) (by rfl)) ?_
  refine t_call Try.call54 (rgnew_calls (x := x) (hS.pick (A := rdsA []) (by repeat first | exact .here _ _ | assumption | apply Pick.there)) (RuBy.base hgx)) rfl ?_
  rintro e w ⟨p, ps0, rfl, hs1, hor⟩
  refine ⟨_, rfl, ?_⟩
  rcases hor with ⟨_, gn, rfl, hS⟩ | ⟨h, _⟩
  rotate_left
  · rw [hg] at h; cases h
  refine t_q (q_as (.pointer _) rfl) ?_
  refine t_nil ?_
  refine c_seq ?_
  refine c_region ?_
  refine t_q (q_cast (v' := .agg x.cells.toArray) (q_load_blk Try.isAgg47 Try.sizeOf47 rfl (hS.blk (by repeat first | exact .here _ _ | assumption | apply Pick.there)) rfl) (by rfl)) ?_
  refine t_call Try.call55 (qgnew_calls (x := x) (hS.pick (A := rdsA ps0) (by repeat first | exact .here _ _ | assumption | apply Pick.there)) (RuBy.base hgx)) rfl ?_
  rintro e w ⟨q, An, cn, rfl, hS⟩
  refine ⟨_, rfl, ?_⟩
  rw [hg]
  refine t_q (q_mv (.tuple _) rfl) ?_
  refine t_q (q_extract rfl rfl) ?_
  refine t_q (q_extract rfl rfl) ?_
  refine t_q (q_as (.pointer _) rfl) ?_
  refine t_q (q_as (.bool _) rfl) ?_
  refine t_nil ?_
  refine c_seq ?_
  refine c_seq ?_
  refine c_region ?_
  refine t_q (q_mv (.bool _) rfl) ?_
  refine t_q (q_not rfl) ?_
  refine t_q (q_mv (.bool _) rfl) ?_
  refine t_yes rfl rfl rfl ?_
  refine t_q (q_mv (.pointer _) rfl) ?_
  refine t_yes rfl rfl rfl ?_
  refine t_q (q_eql_ptr_nil Try.runUnderlying29 rfl rfl) ?_
  refine t_q (q_pick_f rfl rfl) ?_
  refine t_nil ?_
  refine c_cond_f rfl rfl ?_
  refine c_skip ?_
  refine c_seq ?_
  refine c_seq ?_
  refine c_region ?_
  refine t_q (q_mv (.slice _ _ _) rfl) ?_
  refine t_q (q_len_slice Try.runUnderlying103 rfl) ?_
  refine t_q (q_move) ?_
  refine t_nil ?_
  refine c_block ?_
  refine c_loop [6, 7, 11, 12, 13, 14, 15, 16, 48, 49, 50, 51, 52, 53, 54, 55, 56, 57, 58, 59, 60, 61, 62, 63, 64, 65, 66, 67, 68, 69, 70, 71, 72, 73, 74, 75, 76, 77, 78, 79, 80, 81, 82, 83, 84, 85, 86, 87, 88, 89, 90, 91, 92, 93, 94, 95, 96, 97, 98, 99, 100, 101, 102, 103, 104, 105, 106, 107, 108, 109, 110] (fun k σ w => ∃ (j g : Nat) (ps : List RdP) (A : Option Addr) (c : Nat) (Y : List RuV), σ 48 = .int .i64 (j : Int) ∧ σ 7 = .pointer (some ⟨g, 0, none⟩) ∧ j ≤ l.length ∧ l.length - j ≤ k ∧ (∀ y ∈ Y, RuBy W ps y) ∧ GReg (Y.map nf) ∧ St W w [regA W g (Y.map nf) ps, blkA q 141 [.slice A Y.length c], rowA 47 9 A Y.length c (Y.flatMap RuV.cells), rdsA ps, blkA g3 47 [.int .i64 x.version, .slice x.ticks.A x.ticks.l.length x.ticks.c, .int .i64 x.lot, .int .i64 x.band, .slice x.fees.A x.fees.l.length x.fees.c, .int .i64 x.round, .int .i64 x.priority, .int .i64 x.self, .int .i64 x.layout]]) (l.length) rfl (⟨0, gn, ps0, An, cn, [x], rfl, rfl, by omega, by omega, (fun y hy => by rw [List.mem_singleton.1 hy]; exact RuBy.base hgx), hg1, ((((((hS.pick (A := blkA g3 47 [.int .i64 x.version, .slice x.ticks.A x.ticks.l.length x.ticks.c, .int .i64 x.lot, .int .i64 x.band, .slice x.fees.A x.fees.l.length x.fees.c, .int .i64 x.round, .int .i64 x.priority, .int .i64 x.self, .int .i64 x.layout]) (by repeat first | exact .here _ _ | assumption | apply Pick.there)).pick (A := rdsA ps0) (by repeat first | exact .here _ _ | assumption | apply Pick.there)).pick (A := rowA 47 9 An [x].length cn ([x].flatMap RuV.cells)) (by repeat first | exact .here _ _ | assumption | apply Pick.there)).pick (A := blkA q 141 [.slice An [x].length cn]) (by repeat first | exact .here _ _ | assumption | apply Pick.there)).pick (A := regA W gn [nf x] ps0) (by repeat first | exact .here _ _ | assumption | apply Pick.there))).front5⟩) ?_
  skip
  rintro k σ w ⟨j, g, ps, A, c, Y, h48, h7, hj, hk, hD, hG, hS⟩
  refine c_know 48 h48 ?_
  refine c_know 7 h7 ?_
  clear h48 h7
  have hY16 : Y.length ≤ 16 := by have := hG.len; rwa [List.length_map] at this
  refine c_seq ?_
  refine c_region ?_
  refine t_q (q_lss rfl rfl) ?_
  refine t_nil ?_
  refine c_seq ?_
  refine c_cond rfl ?_ ?_
  · intro hc8
    have hc8d := of_decide_eq_true hc8
    have hgj := hgo j (by omega)
    refine c_skip ?_
    refine c_seq ?_
    refine c_block ?_
    refine c_seq ?_
    refine c_region ?_
    first | refine t_index_nat Try.runUnderlying103 Try.sizeOf109 (Rd.st hl hS) rfl rfl (by omega) (fun ad9 hl9 hx9 => ?_) | refine t_index Try.runUnderlying103 Try.sizeOf109 (Rd.st hl hS) rfl rfl (by omega) (fun ad9 hl9 hx9 => ?_)
    refine t_q (q_loadN Try.isAgg109 Try.sizeOf109 rfl hl9 hx9) ?_
    refine t_alloc Try.zeroValue109 rfl hS (fun g11 w hS => ?_)
    refine t_store (v := (.agg _)) Try.sizeOf109 hS (by repeat first | exact .here _ _ | assumption | apply Pick.there) rfl rfl rfl rfl rfl rfl (fun w hS => ?_)
    replace hS := hS.recast (congrArg (blkA g11 109) (rset_full (vs := (l.getD j default).cells) rfl))
    replace hS := hS.recast (show _ = blkA g11 109 [.int .i64 (l.getD j default).kind, .int .i64 (l.getD j default).v, .int .i64 (l.getD j default).r.version, .slice (l.getD j default).r.ticks.A (l.getD j default).r.ticks.l.length (l.getD j default).r.ticks.c, .int .i64 (l.getD j default).r.lot, .int .i64 (l.getD j default).r.band, .slice (l.getD j default).r.fees.A (l.getD j default).r.fees.l.length (l.getD j default).r.fees.c, .int .i64 (l.getD j default).r.round, .int .i64 (l.getD j default).r.priority, .int .i64 (l.getD j default).r.self, .int .i64 (l.getD j default).r.layout] from rfl)
    refine t_nil ?_
    refine c_cut [6, 7, 12, 52, 53, 54, 55, 56, 57, 58, 59, 60, 61, 62, 63, 64, 65, 66, 67, 68, 69, 70, 71, 72, 73, 74, 75, 76, 77, 78, 79, 80, 81, 82] (fun σ w => ∃ (g : Nat) (ps : List RdP) (A : Option Addr) (c : Nat) (Y : List RuV), σ 7 = .pointer (some ⟨g, 0, none⟩) ∧ (∀ y ∈ Y, RuBy W ps y) ∧ GReg (Y.map nf) ∧ St W w [regA W g (Y.map nf) ps, blkA q 141 [.slice A Y.length c], rowA 47 9 A Y.length c (Y.flatMap RuV.cells), rdsA ps, blkA g3 47 [.int .i64 x.version, .slice x.ticks.A x.ticks.l.length x.ticks.c, .int .i64 x.lot, .int .i64 x.band, .slice x.fees.A x.fees.l.length x.fees.c, .int .i64 x.round, .int .i64 x.priority, .int .i64 x.self, .int .i64 x.layout]]) rfl ?_ ?_
    ·
      refine c_seq ?_
      refine c_region ?_
      refine t_q (q_fieldAddr 0 Try.runUnderlying109 rfl Try.sizeOf3 (by decide) rfl rfl) ?_
      refine t_q (q_load1 Try.isAgg3 rfl (hS.cell (by repeat first | exact .here _ _ | assumption | apply Pick.there) rfl)) ?_
      refine t_nil ?_
      refine c_block ?_
      refine c_seq ?_
      refine c_region ?_
      refine t_q (q_eql rfl rfl) ?_
      refine t_q (q_as (.bool _) rfl) ?_
      refine t_nil ?_
      refine c_cond rfl ?_ ?_
      · intro hc11
        have hc11d := of_decide_eq_true hc11
        refine c_seq ?_
        refine c_draw ?_
        refine d_keep (blkA g11 109 [.int .i64 (l.getD j default).kind, .int .i64 (l.getD j default).v, .int .i64 (l.getD j default).r.version, .slice (l.getD j default).r.ticks.A (l.getD j default).r.ticks.l.length (l.getD j default).r.ticks.c, .int .i64 (l.getD j default).r.lot, .int .i64 (l.getD j default).r.band, .slice (l.getD j default).r.fees.A (l.getD j default).r.fees.l.length (l.getD j default).r.fees.c, .int .i64 (l.getD j default).r.round, .int .i64 (l.getD j default).r.priority, .int .i64 (l.getD j default).r.self, .int .i64 (l.getD j default).r.layout]) 9 [0, 1, 2, 3, 4, 5, 6, 7, 8] [0, 1, 2, 3, 4, 5, 6, 7, 8] hS rfl (by kernel_rfl) (by kernel_rfl) (by kernel_rfl) (by kernel_rfl) (fun hap hsel w hS => ?_)
        refine p_q hap hsel 0 rfl rfl ⟨_, hS.pick (by repeat first | exact .here _ _ | assumption | apply Pick.there)⟩ (fun w hI => q_mv (.pointer _) rfl) ?_
        refine p_q hap hsel 1 rfl rfl ⟨_, hS.pick (by repeat first | exact .here _ _ | assumption | apply Pick.there)⟩ (fun w hI => q_fieldAddr 1 Try.runUnderlying109 rfl Try.sizeOf3 (by decide) rfl rfl) ?_
        refine p_q hap hsel 2 rfl rfl ⟨_, hS.pick (by repeat first | exact .here _ _ | assumption | apply Pick.there)⟩ (fun w hI => q_load1 Try.isAgg3 rfl (hI.choose_spec.cell (by repeat first | exact .here _ _ | assumption | apply Pick.there) rfl)) ?_
        refine p_q hap hsel 4 rfl rfl ⟨_, hS.pick (by repeat first | exact .here _ _ | assumption | apply Pick.there)⟩ (fun w hI => q_mv (.pointer _) rfl) ?_
        refine p_q hap hsel 5 rfl rfl ⟨_, hS.pick (by repeat first | exact .here _ _ | assumption | apply Pick.there)⟩ (fun w hI => q_fieldAddr 1 Try.runUnderlying109 rfl Try.sizeOf3 (by decide) rfl rfl) ?_
        refine p_q hap hsel 6 rfl rfl ⟨_, hS.pick (by repeat first | exact .here _ _ | assumption | apply Pick.there)⟩ (fun w hI => q_load1 Try.isAgg3 rfl (hI.choose_spec.cell (by repeat first | exact .here _ _ | assumption | apply Pick.there) rfl)) ?_
        refine p_one 3 rfl (by kernel_rfl) ?_
        refine t_call Try.call56 (rgdrop_calls (v := (l.getD j default).v) ((hS.pick (A := rdsA ps) (by repeat first | exact .here _ _ | assumption | apply Pick.there)).pick (A := regA W g _ ps) (by repeat first | exact .here _ _ | assumption | apply Pick.there))) rfl ?_
        rintro e w ⟨rfl, hS⟩
        refine ⟨_, rfl, ?_⟩
        refine t_nil ?_
        refine ⟨.inr ⟨_, hS.pick (by repeat first | exact .here _ _ | assumption | apply Pick.there)⟩, ?_⟩
        refine p_one 7 rfl (by kernel_rfl) ?_
        refine t_call Try.call57 (qgdrop2_calls (v := (l.getD j default).v) ((hS.pick (A := rowA 47 9 A Y.length c (Y.flatMap RuV.cells)) (by repeat first | exact .here _ _ | assumption | apply Pick.there)).pick (A := blkA q 141 [.slice A Y.length c]) (by repeat first | exact .here _ _ | assumption | apply Pick.there)) hG.srt hY16) rfl ?_
        rintro e w ⟨rfl, A', c', Y', hY', hsub', hS⟩
        refine ⟨_, rfl, ?_⟩
        refine t_nil ?_
        refine ⟨.inr ⟨_, hS.pick (by repeat first | exact .here _ _ | assumption | apply Pick.there)⟩, ?_⟩
        refine p_q hap hsel 8 rfl rfl ⟨_, hS.pick (by repeat first | exact .here _ _ | assumption | apply Pick.there)⟩ (fun w hI => (q_cast (v' := .bool false) (q_neq rfl rfl) (by simp))) ?_
        refine p_end (by kernel_rfl) ?_
        refine c_cond_f rfl rfl ?_
        refine c_skip ?_
        rw [← hY'] at hS
        exact ⟨g, ps, A', c', Y', rfl, (fun y hy => hD y (hsub' y hy)), (by rw [hY']; exact hG.drop _), (((((((hS.pick (A := blkA g11 109 _) (by repeat first | exact .here _ _ | assumption | apply Pick.there)).drop.pick (A := blkA g3 47 [.int .i64 x.version, .slice x.ticks.A x.ticks.l.length x.ticks.c, .int .i64 x.lot, .int .i64 x.band, .slice x.fees.A x.fees.l.length x.fees.c, .int .i64 x.round, .int .i64 x.priority, .int .i64 x.self, .int .i64 x.layout]) (by repeat first | exact .here _ _ | assumption | apply Pick.there)).pick (A := rdsA ps) (by repeat first | exact .here _ _ | assumption | apply Pick.there)).pick (A := rowA 47 9 A' Y'.length c' (Y'.flatMap RuV.cells)) (by repeat first | exact .here _ _ | assumption | apply Pick.there)).pick (A := blkA q 141 [.slice A' Y'.length c']) (by repeat first | exact .here _ _ | assumption | apply Pick.there)).pick (A := regA W g _ ps) (by repeat first | exact .here _ _ | assumption | apply Pick.there))).front5⟩
      · intro hc11
        have hc11d := of_decide_eq_false hc11
        refine c_seq ?_
        refine c_region ?_
        refine t_q (q_eql rfl rfl) ?_
        refine t_q (q_as (.bool _) rfl) ?_
        refine t_nil ?_
        refine c_cond rfl ?_ ?_
        · intro hc16
          have hc16d := of_decide_eq_true hc16
          refine c_seq ?_
          refine c_region ?_
          refine t_q (q_mv (.pointer _) rfl) ?_
          refine t_call Try.call58 (rgclone_calls (hS.pick (A := regA W g _ ps) (by repeat first | exact .here _ _ | assumption | apply Pick.there))) rfl ?_
          rintro e w ⟨g12, rfl, hS⟩
          refine ⟨_, rfl, ?_⟩
          refine t_q (q_as (.pointer _) rfl) ?_
          refine t_nil ?_
          refine c_seq ?_
          refine c_region ?_
          refine t_q (q_mv (.pointer _) rfl) ?_
          refine t_q (q_fieldAddr 2 Try.runUnderlying109 rfl Try.sizeOf47 (by decide) rfl rfl) ?_
          refine t_q (q_cast (v' := .agg (l.getD j default).r.cells.toArray) (q_load_sub Try.isAgg47 Try.sizeOf47 rfl (hS.blk (by repeat first | exact .here _ _ | assumption | apply Pick.there)) (by show 0 + 2 + 9 ≤ 11; decide)) (by rfl)) ?_
          refine t_call Try.call21 (rgput_calls (g := g) (x := (l.getD j default).r) ((hS.pick (A := rdsA ps) (by repeat first | exact .here _ _ | assumption | apply Pick.there)).pick (A := regA W g _ ps) (by repeat first | exact .here _ _ | assumption | apply Pick.there)) (RuBy.base hgj)) rfl ?_
          rintro e w ⟨ps2, rfl, hs2, hS⟩
          refine ⟨_, rfl, ?_⟩
          replace hS := St.reg_mono (hS.pick (A := regA W g12 _ ps) (by repeat first | exact .here _ _ | assumption | apply Pick.there)) hs2
          refine t_nil ?_
          refine c_region ?_
          refine t_q (q_mv (.pointer _) rfl) ?_
          refine t_q (q_as (.pointer _) rfl) ?_
          refine t_nil ?_
          exact ⟨g12, ps2, A, c, Y, rfl, (fun y hy => (hD y hy).mono hs2), hG, ((((((((hS.pick (A := blkA g11 109 _) (by repeat first | exact .here _ _ | assumption | apply Pick.there)).drop.pick (A := regA W g _ _) (by repeat first | exact .here _ _ | assumption | apply Pick.there)).drop.pick (A := blkA g3 47 [.int .i64 x.version, .slice x.ticks.A x.ticks.l.length x.ticks.c, .int .i64 x.lot, .int .i64 x.band, .slice x.fees.A x.fees.l.length x.fees.c, .int .i64 x.round, .int .i64 x.priority, .int .i64 x.self, .int .i64 x.layout]) (by repeat first | exact .here _ _ | assumption | apply Pick.there)).pick (A := rdsA ps2) (by repeat first | exact .here _ _ | assumption | apply Pick.there)).pick (A := rowA 47 9 A Y.length c (Y.flatMap RuV.cells)) (by repeat first | exact .here _ _ | assumption | apply Pick.there)).pick (A := blkA q 141 [.slice A Y.length c]) (by repeat first | exact .here _ _ | assumption | apply Pick.there)).pick (A := regA W g12 _ ps2) (by repeat first | exact .here _ _ | assumption | apply Pick.there))).front5⟩
        · intro hc16
          have hc16d := of_decide_eq_false hc16
          refine c_seq ?_
          refine c_draw ?_
          refine d_keep (blkA g11 109 [.int .i64 (l.getD j default).kind, .int .i64 (l.getD j default).v, .int .i64 (l.getD j default).r.version, .slice (l.getD j default).r.ticks.A (l.getD j default).r.ticks.l.length (l.getD j default).r.ticks.c, .int .i64 (l.getD j default).r.lot, .int .i64 (l.getD j default).r.band, .slice (l.getD j default).r.fees.A (l.getD j default).r.fees.l.length (l.getD j default).r.fees.c, .int .i64 (l.getD j default).r.round, .int .i64 (l.getD j default).r.priority, .int .i64 (l.getD j default).r.self, .int .i64 (l.getD j default).r.layout]) 9 [0, 1, 2, 3, 4, 5, 6, 7, 8] [0, 1, 2, 3, 4, 5, 6, 7, 8] hS rfl (by kernel_rfl) (by kernel_rfl) (by kernel_rfl) (by kernel_rfl) (fun hap hsel w hS => ?_)
          refine p_q hap hsel 0 rfl rfl ⟨_, hS.pick (by repeat first | exact .here _ _ | assumption | apply Pick.there)⟩ (fun w hI => q_mv (.pointer _) rfl) ?_
          refine p_q hap hsel 1 rfl rfl ⟨_, hS.pick (by repeat first | exact .here _ _ | assumption | apply Pick.there)⟩ (fun w hI => q_fieldAddr 2 Try.runUnderlying109 rfl Try.sizeOf47 (by decide) rfl rfl) ?_
          refine p_q hap hsel 2 rfl rfl ⟨_, hS.pick (by repeat first | exact .here _ _ | assumption | apply Pick.there)⟩ (fun w hI => (q_cast (v' := .agg (l.getD j default).r.cells.toArray) (q_load_sub Try.isAgg47 Try.sizeOf47 rfl (hI.choose_spec.blk (by repeat first | exact .here _ _ | assumption | apply Pick.there)) (by show 0 + 2 + 9 ≤ 11; decide)) (by rfl))) ?_
          refine p_q hap hsel 4 rfl rfl ⟨_, hS.pick (by repeat first | exact .here _ _ | assumption | apply Pick.there)⟩ (fun w hI => q_mv (.pointer _) rfl) ?_
          refine p_q hap hsel 5 rfl rfl ⟨_, hS.pick (by repeat first | exact .here _ _ | assumption | apply Pick.there)⟩ (fun w hI => q_fieldAddr 2 Try.runUnderlying109 rfl Try.sizeOf47 (by decide) rfl rfl) ?_
          refine p_q hap hsel 6 rfl rfl ⟨_, hS.pick (by repeat first | exact .here _ _ | assumption | apply Pick.there)⟩ (fun w hI => (q_cast (v' := .agg (l.getD j default).r.cells.toArray) (q_load_sub Try.isAgg47 Try.sizeOf47 rfl (hI.choose_spec.blk (by repeat first | exact .here _ _ | assumption | apply Pick.there)) (by show 0 + 2 + 9 ≤ 11; decide)) (by rfl))) ?_
          refine p_one 3 rfl (by kernel_rfl) ?_
          refine t_call Try.call21 (rgput_calls (x := (l.getD j default).r) ((hS.pick (A := rdsA ps) (by repeat first | exact .here _ _ | assumption | apply Pick.there)).pick (A := regA W g _ ps) (by repeat first | exact .here _ _ | assumption | apply Pick.there)) (RuBy.base hgj)) rfl ?_
          rintro e w ⟨ps2, rfl, hs2, hS⟩
          refine ⟨_, rfl, ?_⟩
          refine t_nil ?_
          refine ⟨.inr ⟨_, hS.pick (by repeat first | exact .here _ _ | assumption | apply Pick.there)⟩, ?_⟩
          refine p_one 7 rfl (by kernel_rfl) ?_
          refine t_call Try.call23 (qgput2_calls (ps := ps2) (x := (l.getD j default).r) (((hS.pick (A := rdsA ps2) (by repeat first | exact .here _ _ | assumption | apply Pick.there)).pick (A := rowA 47 9 A Y.length c (Y.flatMap RuV.cells)) (by repeat first | exact .here _ _ | assumption | apply Pick.there)).pick (A := blkA q 141 [.slice A Y.length c]) (by repeat first | exact .here _ _ | assumption | apply Pick.there)) hG.srt hY16 (RuBy.base hgj)) rfl ?_
          rintro e w ⟨rfl, A', c', Y', hY', hsub', hS⟩
          refine ⟨_, rfl, ?_⟩
          refine t_nil ?_
          refine ⟨.inr ⟨_, hS.pick (by repeat first | exact .here _ _ | assumption | apply Pick.there)⟩, ?_⟩
          refine p_q hap hsel 8 rfl rfl ⟨_, hS.pick (by repeat first | exact .here _ _ | assumption | apply Pick.there)⟩ (fun w hI => (q_cast (v' := .bool false) (q_neq rfl rfl) (by simp))) ?_
          refine p_end (by kernel_rfl) ?_
          refine c_cond_f rfl rfl ?_
          refine c_skip ?_
          rw [← hY'] at hS
          exact ⟨g, ps2, A', c', Y', rfl, (fun y hy => by
            rcases hsub' y hy with h | h
            · rw [h]; exact RuBy.base hgj
            · exact (hD y h).mono hs2), (by rw [hY']; exact hG.put _), (((((((hS.pick (A := blkA g11 109 _) (by repeat first | exact .here _ _ | assumption | apply Pick.there)).drop.pick (A := blkA g3 47 [.int .i64 x.version, .slice x.ticks.A x.ticks.l.length x.ticks.c, .int .i64 x.lot, .int .i64 x.band, .slice x.fees.A x.fees.l.length x.fees.c, .int .i64 x.round, .int .i64 x.priority, .int .i64 x.self, .int .i64 x.layout]) (by repeat first | exact .here _ _ | assumption | apply Pick.there)).pick (A := rdsA ps2) (by repeat first | exact .here _ _ | assumption | apply Pick.there)).pick (A := rowA 47 9 A' Y'.length c' (Y'.flatMap RuV.cells)) (by repeat first | exact .here _ _ | assumption | apply Pick.there)).pick (A := blkA q 141 [.slice A' Y'.length c']) (by repeat first | exact .here _ _ | assumption | apply Pick.there)).pick (A := regA W g _ ps2) (by repeat first | exact .here _ _ | assumption | apply Pick.there))).front5⟩
    ·
      clear hD hG hS hY16
      rintro σ w ⟨g, ps, A, c, Y, h7, hD, hG, hS⟩
      have hY16 : Y.length ≤ 16 := by have := hG.len; rwa [List.length_map] at this
      refine c_know 7 h7 ?_
      refine c_seq ?_
      refine c_region ?_
      refine t_q (q_mv (.pointer _) rfl) ?_
      refine t_q (q_mv (.int _ _) rfl) ?_
      refine t_call Try.call59 (rgget_calls (v := v) ((hS.pick (A := rdsA ps) (by repeat first | exact .here _ _ | assumption | apply Pick.there)).pick (A := regA W g _ ps) (by repeat first | exact .here _ _ | assumption | apply Pick.there))) rfl ?_
      rintro e w ⟨y, rfl, hny, hby, hS⟩
      refine ⟨_, rfl, ?_⟩
      refine t_q (q_mv (.tuple _) rfl) ?_
      refine t_q (q_extract rfl rfl) ?_
      refine t_q (q_extract rfl rfl) ?_
      refine t_alloc Try.zeroValue47 rfl hS (fun g13 w hS => ?_)
      refine t_store (v := (.agg _)) Try.sizeOf47 hS (by repeat first | exact .here _ _ | assumption | apply Pick.there) rfl rfl rfl rfl rfl rfl (fun w hS => ?_)
      replace hS := hS.recast (congrArg (blkA g13 47) (rset_full (vs := y.cells) rfl))
      replace hS := hS.recast (show _ = blkA g13 47 [.int .i64 y.version, .slice y.ticks.A y.ticks.l.length y.ticks.c, .int .i64 y.lot, .int .i64 y.band, .slice y.fees.A y.fees.l.length y.fees.c, .int .i64 y.round, .int .i64 y.priority, .int .i64 y.self, .int .i64 y.layout] from rfl)
      refine t_q (q_as (.bool _) rfl) ?_
      refine t_nil ?_
      refine c_seq ?_
      refine c_region ?_
      refine t_q (q_mv (.pointer _) rfl) ?_
      refine t_q (q_mv (.int _ _) rfl) ?_
      refine t_call Try.call60 (qgget_calls (v := v) ((hS.pick (A := rowA 47 9 A Y.length c (Y.flatMap RuV.cells)) (by repeat first | exact .here _ _ | assumption | apply Pick.there)).pick (A := blkA q 141 [.slice A Y.length c]) (by repeat first | exact .here _ _ | assumption | apply Pick.there)) hG.srt hY16) rfl ?_
      rintro e w ⟨z, rfl, hnz, hzm, hS⟩
      refine ⟨_, rfl, ?_⟩
      have hzb : RuBy W ps z := by
        rcases hzm with rfl | h
        · exact RuBy.z
        · exact hD z h
      refine t_q (q_mv (.tuple _) rfl) ?_
      refine t_q (q_extract rfl rfl) ?_
      refine t_q (q_extract rfl rfl) ?_
      refine t_alloc Try.zeroValue47 rfl hS (fun g15 w hS => ?_)
      refine t_store (v := (.agg _)) Try.sizeOf47 hS (by repeat first | exact .here _ _ | assumption | apply Pick.there) rfl rfl rfl rfl rfl rfl (fun w hS => ?_)
      replace hS := hS.recast (congrArg (blkA g15 47) (rset_full (vs := z.cells) rfl))
      replace hS := hS.recast (show _ = blkA g15 47 [.int .i64 z.version, .slice z.ticks.A z.ticks.l.length z.ticks.c, .int .i64 z.lot, .int .i64 z.band, .slice z.fees.A z.fees.l.length z.fees.c, .int .i64 z.round, .int .i64 z.priority, .int .i64 z.self, .int .i64 z.layout] from rfl)
      refine t_q (q_as (.bool _) rfl) ?_
      refine t_nil ?_
      refine c_seq ?_
      refine c_region ?_
      refine t_q (q_mv (.bool _) rfl) ?_
      refine t_q (q_mv (.bool _) rfl) ?_
      refine t_q (q_cast (v' := .bool false) (q_neq_bool Try.runUnderlying4 rfl rfl) (by simp)) ?_
      refine t_q (q_mv (.bool _) rfl) ?_
      refine t_yes rfl rfl rfl ?_
      refine t_q (q_cast (v' := .agg y.cells.toArray) (q_load_blk Try.isAgg47 Try.sizeOf47 rfl (hS.blk (by repeat first | exact .here _ _ | assumption | apply Pick.there)) rfl) (by rfl)) ?_
      refine t_yes rfl rfl rfl ?_
      refine t_q (q_cast (v' := .agg z.cells.toArray) (q_load_blk Try.isAgg47 Try.sizeOf47 rfl (hS.blk (by repeat first | exact .here _ _ | assumption | apply Pick.there)) rfl) (by rfl)) ?_
      refine t_yes rfl rfl rfl ?_
      refine t_call Try.call61 (qrsame_calls (x := y) (y := z) (hby.gd hS (by repeat first | exact .here _ _ | assumption | apply Pick.there)) (hzb.gd hS (by repeat first | exact .here _ _ | assumption | apply Pick.there))) rfl ?_
      rintro e w ⟨rfl, hT⟩
      refine ⟨_, rfl, ?_⟩
      replace hS := hS.after hT
      rw [show decide (y.vw = z.vw) = true from decide_eq_true (nf_vw (hny.trans hnz.symm))]
      refine t_yes rfl rfl rfl ?_
      refine t_q (q_not rfl) ?_
      refine t_q (q_pick_f rfl rfl) ?_
      refine t_q (q_mv (.bool _) rfl) ?_
      refine t_yes rfl rfl rfl ?_
      refine t_q (q_mv (.pointer _) rfl) ?_
      refine t_yes rfl rfl rfl ?_
      refine t_q (q_mv (.pointer _) rfl) ?_
      refine t_yes rfl rfl rfl ?_
      refine t_call Try.call62 (rglike_calls ((((hS.pick (A := rdsA ps) (by repeat first | exact .here _ _ | assumption | apply Pick.there)).pick (A := rowA 47 9 A Y.length c (Y.flatMap RuV.cells)) (by repeat first | exact .here _ _ | assumption | apply Pick.there)).pick (A := blkA q 141 [.slice A Y.length c]) (by repeat first | exact .here _ _ | assumption | apply Pick.there)).pick (A := regA W g _ ps) (by repeat first | exact .here _ _ | assumption | apply Pick.there)) rfl (fun w' h y hy => (hD y hy).gd h (by repeat first | exact .here _ _ | assumption | apply Pick.there))) rfl ?_
      rintro e w ⟨rfl, hS⟩
      refine ⟨_, rfl, ?_⟩
      refine t_yes rfl rfl rfl ?_
      refine t_q (q_not rfl) ?_
      refine t_q (q_pick_f rfl rfl) ?_
      refine t_nil ?_
      refine c_cond_f rfl rfl ?_
      refine c_skip ?_
      refine c_region ?_
      refine t_q (q_add_i64 rfl rfl (by omega)) ?_
      refine t_q (q_mv (.int _ _) rfl) ?_
      refine t_nil ?_
      exact ⟨k - 1, by omega, j + 1, g, ps, A, c, Y, rfl, rfl, by omega, by omega, hD, hG, (((((((((hS.pick (A := rdsA (ruP y)) (by repeat first | exact .here _ _ | assumption | apply Pick.there)).drop.pick (A := blkA g13 47 _) (by repeat first | exact .here _ _ | assumption | apply Pick.there)).drop.pick (A := blkA g15 47 _) (by repeat first | exact .here _ _ | assumption | apply Pick.there)).drop.pick (A := blkA g3 47 [.int .i64 x.version, .slice x.ticks.A x.ticks.l.length x.ticks.c, .int .i64 x.lot, .int .i64 x.band, .slice x.fees.A x.fees.l.length x.fees.c, .int .i64 x.round, .int .i64 x.priority, .int .i64 x.self, .int .i64 x.layout]) (by repeat first | exact .here _ _ | assumption | apply Pick.there)).pick (A := rdsA ps) (by repeat first | exact .here _ _ | assumption | apply Pick.there)).pick (A := rowA 47 9 A Y.length c (Y.flatMap RuV.cells)) (by repeat first | exact .here _ _ | assumption | apply Pick.there)).pick (A := blkA q 141 [.slice A Y.length c]) (by repeat first | exact .here _ _ | assumption | apply Pick.there)).pick (A := regA W g _ ps) (by repeat first | exact .here _ _ | assumption | apply Pick.there))).front5⟩
  · intro hc8
    have hc8d := of_decide_eq_false hc8
    refine c_exit ?_
    refine ite_t rfl ?_
    refine c_seq ?_
    refine c_region ?_
    refine t_call Try.call53 (rglives_calls) rfl ?_
    rintro e w ⟨rfl, hT⟩
    refine ⟨_, rfl, ?_⟩
    replace hS := hS.after hT
    refine t_q (q_as (.bool _) rfl) ?_
    refine t_nil ?_
    refine c_ret ?_
    refine r_one rfl rfl ?_
    exact ⟨rfl, hS.nil⟩
theorem RegistryPlays_calls {x : RuV} (hx : x.Ok W) {A0 : Option Addr} {c0 : Nat} {l : List OpG} (hl : Rd W 11 A0 l.length (fun i => (l.getD i default).cells)) (hm : l.length ≤ 9223372036854775807) (hok : ∀ o ∈ l, o.Ok W) {v : Int} : Calls Try.prog 10 #[.agg x.cells.toArray, .slice A0 l.length c0, .int .i64 v] W fun e w' => e = .returned (.bool true) ∧ St W w' [] := by
  cases hLG : lightG l with
  | false => exact plays_dark hl hm (.inl hLG)
  | true =>
    cases hLx : lightR x with
    | false => exact plays_dark hl hm (.inr hLx)
    | true =>
      cases hg : goodR x with
      | false => exact plays_bad (light_rgd hx hLx) hl hm hLG hLx hg
      | true => exact plays_good (light_rgd hx hLx) hl hm hLG hLx (fun j hj => lightG_gd hLG hok hj) hg
end Go.Proofs.Ytmgobaojioaioaa
