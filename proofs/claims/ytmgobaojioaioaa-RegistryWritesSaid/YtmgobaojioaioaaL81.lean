/- Whatever a registry has, its bytes are the document's, and are read as it was: the walk. -/
import Derived.Test.YtmgobaojioaioaaWv
import Derived.Test.YtmgobaojioaioaaWq
import Derived.Test.YtmgobaojioaioaaWu
import Derived.Test.YtmgobaojioaioaaWg
import Derived.Test.YtmgobaojioaioaaWr
import Derived.Test.YtmgobaojioaioaaWx
import Derived.Test.YtmgobaojioaioaaCl
namespace Go.Proofs.Ytmgobaojioaioaa
open Go Go.RowKit Go.Lib
variable {W : World}
theorem gputM_ne {M : List RuV} {r : RuV} (h : M ≠ []) : gputM M r ≠ [] := by
  unfold gputM
  split
  · intro h2
    have := congrArg List.length h2
    rw [rgI_len] at this
    cases this
  · exact h
theorem map_ne {Y : List RuV} (h : Y ≠ []) : Y.map nf ≠ [] := fun h2 => h (List.map_eq_nil_iff.1 h2)
theorem rgB_nf (Y : List RuV) : rgB (Y.map nf) = rgB Y := by
  unfold rgB
  rw [List.length_map, List.flatMap_map]
  rfl
theorem qgput2_calls {w : World} {R : List Asn} {q : Nat} {A : Option Addr} {c : Nat} {Y : List RuV} {ps : List RdP} {x : RuV} (hS : St W w (blkA q 141 [.slice A Y.length c] :: rowA 47 9 A Y.length c (Y.flatMap RuV.cells) :: rdsA ps :: R)) (hs : Srt (Y.map nf)) (hY16 : Y.length ≤ 16) (hb : RuBy W ps x) : Calls Try.prog 23 #[.pointer (some ⟨q, 0, none⟩), .agg x.cells.toArray] w fun e w' => e = .returned (.int .i64 (gputE (Y.map nf) x)) ∧ ∃ (A' : Option Addr) (c' : Nat) (Y' : List RuV), Y'.map nf = gputM (Y.map nf) x ∧ (∀ y ∈ Y', y = x ∨ y ∈ Y) ∧ St W w' (blkA q 141 [.slice A' Y'.length c'] :: rowA 47 9 A' Y'.length c' (Y'.flatMap RuV.cells) :: rdsA ps :: R) := by
  refine (qgput_calls hS hs hY16 hb).mono fun e w' h => ?_
  obtain ⟨rfl, ⟨h0, A', c', hS⟩ | ⟨h0, hS⟩⟩ := h
  · refine ⟨rfl, A', c', _, ?_, fun y hy => ?_, hS⟩
    · rw [rgI_map]; unfold gputM; rw [if_pos h0]
    · rcases List.mem_cons.1 ((rgI_perm _ _).subset hy) with h | h
      · exact .inl h
      · exact .inr h
  · exact ⟨rfl, A, c, Y, by unfold gputM; rw [if_neg h0], fun y hy => .inr hy, hS⟩
attribute [local irreducible] blkA rowA rdsA mapA regA wrA rdrA
set_option maxRecDepth 100000 in
theorem gwrites_dark {x : RuV} {A0 : Option Addr} {c0 : Nat} {l : List OpG} (hl : Rd W 11 A0 l.length (fun i => (l.getD i default).cells)) (hm : l.length ≤ 9223372036854775807) (h : lightG l = false ∨ lightR x = false) : Calls Try.prog 13 #[.agg x.cells.toArray, .slice A0 l.length c0] W fun e w' => e = .returned (.bool true) ∧ St W w' [] := by
  have hS := St.init W
  refine calls_of_wpE (args := [_, _]) Try.func13 rfl rfl rfl ?_
  refine c_seq ?_
  refine c_region ?_
  refine t_box (v := (.agg _)) rfl rfl hS (fun g2 w hS => ?_)
  replace hS := hS.recast (show _ = blkA g2 47 [.int .i64 x.version, .slice x.ticks.A x.ticks.l.length x.ticks.c, .int .i64 x.lot, .int .i64 x.band, .slice x.fees.A x.fees.l.length x.fees.c, .int .i64 x.round, .int .i64 x.priority, .int .i64 x.self, .int .i64 x.layout] from rfl)
  refine t_q (q_assign) ?_
  refine t_nil ?_
  refine c_seq ?_
  refine c_seq ?_
  refine c_region ?_
  refine t_q (q_mv (.slice _ _ _) rfl) ?_
  refine t_call Try.call52 (glight_calls (Rd.st hl hS) hm) rfl ?_
  rintro e w ⟨rfl, hT⟩
  refine ⟨_, rfl, ?_⟩
  replace hS := hS.after hT
  refine t_q (q_not rfl) ?_
  refine t_q (q_mv (.bool _) rfl) ?_
  refine t_case 16 rfl ?_ ?_
  · intro hg2
    refine t_no rfl rfl (by rw [(congrArg not (not_back hg2))]; decide) ?_
    refine t_no rfl rfl (by rw [(congrArg not (not_back hg2))]; decide) ?_
    refine t_no rfl rfl (by rw [(congrArg not (not_back hg2))]; decide) ?_
    refine t_q (q_pick_t rfl (congrArg not (not_back hg2))) ?_
    refine t_nil ?_
    refine c_cond_t rfl rfl ?_
    refine c_seq ?_
    refine c_region ?_
    refine t_call Try.call53 (rglives_calls) rfl ?_
    rintro e w ⟨rfl, hT⟩
    refine ⟨_, rfl, ?_⟩
    replace hS := hS.after hT
    refine t_q (q_as (.bool _) rfl) ?_
    refine t_nil ?_
    refine c_ret ?_
    refine r_one rfl rfl ?_
    exact ⟨rfl, hS.nil⟩
  · intro hg2
    refine t_yes rfl rfl (congrArg not (not_back hg2)) ?_
    refine t_q (q_cast (v' := .agg x.cells.toArray) (q_load_blk Try.isAgg47 Try.sizeOf47 rfl (hS.blk (by repeat first | exact .here _ _ | assumption | apply Pick.there)) rfl) (by rfl)) ?_
    refine t_yes rfl rfl (congrArg not (not_back hg2)) ?_
    refine t_call Try.call41 (rlight_calls (x := x)) rfl ?_
    rintro e w ⟨rfl, hT⟩
    refine ⟨_, rfl, ?_⟩
    replace hS := hS.after hT
    refine t_yes rfl rfl (congrArg not (not_back hg2)) ?_
    refine t_q (q_not rfl) ?_
    refine t_q (q_pick_f rfl (congrArg not (not_back hg2))) ?_
    refine t_nil ?_
    refine c_cond rfl ?_ ?_
    · intro hc5
      refine c_seq ?_
      refine c_region ?_
      refine t_call Try.call53 (rglives_calls) rfl ?_
      rintro e w ⟨rfl, hT⟩
      refine ⟨_, rfl, ?_⟩
      replace hS := hS.after hT
      refine t_q (q_as (.bool _) rfl) ?_
      refine t_nil ?_
      refine c_ret ?_
      refine r_one rfl rfl ?_
      exact ⟨rfl, hS.nil⟩
    · intro hc5
      exfalso
      have h1 := bnf (by assumption : (!lightG l) = false)
      have h2 := bnf (by assumption : (!lightR x) = false)
      rcases h with h | h
      · rw [h1] at h; cases h
      · rw [h2] at h; cases h
set_option maxRecDepth 100000 in
theorem gwrites_bad {x : RuV} (hgx : x.Gd W) {A0 : Option Addr} {c0 : Nat} {l : List OpG} (hl : Rd W 11 A0 l.length (fun i => (l.getD i default).cells)) (hm : l.length ≤ 9223372036854775807) (hLG : lightG l = true) (hLx : lightR x = true) (hg : goodR x = false) : Calls Try.prog 13 #[.agg x.cells.toArray, .slice A0 l.length c0] W fun e w' => e = .returned (.bool true) ∧ St W w' [] := by
  have hS := St.init W
  refine calls_of_wpE (args := [_, _]) Try.func13 rfl rfl rfl ?_
  refine c_seq ?_
  refine c_region ?_
  refine t_box (v := (.agg _)) rfl rfl hS (fun g2 w hS => ?_)
  replace hS := hS.recast (show _ = blkA g2 47 [.int .i64 x.version, .slice x.ticks.A x.ticks.l.length x.ticks.c, .int .i64 x.lot, .int .i64 x.band, .slice x.fees.A x.fees.l.length x.fees.c, .int .i64 x.round, .int .i64 x.priority, .int .i64 x.self, .int .i64 x.layout] from rfl)
  refine t_q (q_assign) ?_
  refine t_nil ?_
  refine c_seq ?_
  refine c_seq ?_
  refine c_region ?_
  refine t_q (q_mv (.slice _ _ _) rfl) ?_
  refine t_call Try.call52 (glight_calls (Rd.st hl hS) hm) rfl ?_
  rintro e w ⟨rfl, hT⟩
  refine ⟨_, rfl, ?_⟩
  replace hS := hS.after hT
  rw [hLG]
  refine t_q (q_not rfl) ?_
  refine t_q (q_mv (.bool _) rfl) ?_
  refine t_yes rfl rfl rfl ?_
  refine t_q (q_cast (v' := .agg x.cells.toArray) (q_load_blk Try.isAgg47 Try.sizeOf47 rfl (hS.blk (by repeat first | exact .here _ _ | assumption | apply Pick.there)) rfl) (by rfl)) ?_
  refine t_yes rfl rfl rfl ?_
  refine t_call Try.call41 (rlight_calls (x := x)) rfl ?_
  rintro e w ⟨rfl, hT⟩
  refine ⟨_, rfl, ?_⟩
  replace hS := hS.after hT
  rw [hLx]
  refine t_yes rfl rfl rfl ?_
  refine t_q (q_not rfl) ?_
  refine t_q (q_pick_f rfl rfl) ?_
  refine t_nil ?_
  refine c_cond_f rfl rfl ?_
  refine c_skip ?_
  refine c_seq ?_
  replace hS := hS.rds0
  refine c_region ?_
  refine t_q (q_cast (v' := .agg x.cells.toArray) (q_load_blk Try.isAgg47 Try.sizeOf47 rfl (hS.blk (by repeat first | exact .here _ _ | assumption | apply Pick.there)) rfl) (by rfl)) ?_
  refine t_call Try.call54 (rgnew_calls (x := x) (hS.pick (A := rdsA []) (by repeat first | exact .here _ _ | assumption | apply Pick.there)) (RuBy.base hgx)) rfl ?_
  rintro e w ⟨p, ps, rfl, hs1, hor⟩
  refine ⟨_, rfl, ?_⟩
  rcases hor with ⟨h, _⟩ | ⟨_, rfl, hS⟩
  · rw [hg] at h; cases h
  refine t_q (q_as (.pointer _) rfl) ?_
  refine t_nil ?_
  refine c_seq ?_
  refine c_region ?_
  refine t_q (q_cast (v' := .agg x.cells.toArray) (q_load_blk Try.isAgg47 Try.sizeOf47 rfl (hS.blk (by repeat first | exact .here _ _ | assumption | apply Pick.there)) rfl) (by rfl)) ?_
  refine t_call Try.call55 (qgnew_calls (x := x) (hS.pick (A := rdsA ps) (by repeat first | exact .here _ _ | assumption | apply Pick.there)) (RuBy.base hgx)) rfl ?_
  rintro e w ⟨q, A, c, rfl, hS⟩
  refine ⟨_, rfl, ?_⟩
  rw [hg]
  refine t_q (q_mv (.tuple _) rfl) ?_
  refine t_q (q_extract rfl rfl) ?_
  refine t_q (q_extract rfl rfl) ?_
  refine t_q (q_as (.pointer _) rfl) ?_
  refine t_q (q_as (.bool _) rfl) ?_
  refine t_nil ?_
  refine c_seq ?_
  refine c_seq ?_
  refine c_region ?_
  refine t_q (q_mv (.bool _) rfl) ?_
  refine t_q (q_not rfl) ?_
  refine t_q (q_mv (.bool _) rfl) ?_
  refine t_no rfl rfl (by decide) ?_
  refine t_no rfl rfl (by decide) ?_
  refine t_q (q_pick_t rfl rfl) ?_
  refine t_nil ?_
  refine c_cond_t rfl rfl ?_
  refine c_seq ?_
  refine c_region ?_
  refine t_q (q_mv (.bool _) rfl) ?_
  refine t_q (q_mv (.pointer _) rfl) ?_
  refine t_q (q_neq_ptr_nil Try.runUnderlying29 rfl rfl) ?_
  refine t_q (q_cast (v' := .bool true) (q_eql_bool Try.runUnderlying4 rfl rfl) (by rfl)) ?_
  refine t_q (q_mv (.bool _) rfl) ?_
  refine t_yes rfl rfl rfl ?_
  refine t_q (q_mv (.pointer _) rfl) ?_
  refine t_yes rfl rfl rfl ?_
  refine t_call Try.call64 (rgbytes_none (.inl rfl)) rfl ?_
  rintro e w ⟨rfl, hT⟩
  refine ⟨_, rfl, ?_⟩
  replace hS := hS.after hT
  refine t_yes rfl rfl rfl ?_
  refine t_q (q_len_slice Try.runUnderlying74 rfl) ?_
  refine t_yes rfl rfl rfl ?_
  refine t_q (q_cast (v' := .bool true) (q_eql rfl rfl) (by rfl)) ?_
  refine t_q (q_pick_t rfl rfl) ?_
  refine t_q (q_mv (.bool _) rfl) ?_
  refine t_yes rfl rfl rfl ?_
  refine t_call Try.call53 (rglives_calls) rfl ?_
  rintro e w ⟨rfl, hT⟩
  refine ⟨_, rfl, ?_⟩
  replace hS := hS.after hT
  refine t_q (q_pick_t rfl rfl) ?_
  refine t_q (q_as (.bool _) rfl) ?_
  refine t_nil ?_
  refine c_ret ?_
  refine r_one rfl rfl ?_
  exact ⟨rfl, hS.nil⟩
set_option maxHeartbeats 4000000 in
set_option maxRecDepth 100000 in
theorem gwrites_good {x : RuV} (hgx : x.Gd W) {A0 : Option Addr} {c0 : Nat} {l : List OpG} (hl : Rd W 11 A0 l.length (fun i => (l.getD i default).cells)) (hm : l.length ≤ 9223372036854775807) (hLG : lightG l = true) (hLx : lightR x = true) (hgo : ∀ j, j < l.length → (l.getD j default).r.Gd W) (hg : goodR x = true) : Calls Try.prog 13 #[.agg x.cells.toArray, .slice A0 l.length c0] W fun e w' => e = .returned (.bool true) ∧ St W w' [] := by
  have hS := St.init W
  have hl60 := lightG_len hLG
  have hg1 : GReg ([x].map nf) := by
    have h := GReg.nil.put x
    rw [(gput_nil x).2, hg, if_pos rfl] at h
    exact h
  refine calls_of_wpE (args := [_, _]) Try.func13 rfl rfl rfl ?_
  refine c_seq ?_
  refine c_region ?_
  refine t_box (v := (.agg _)) rfl rfl hS (fun g2 w hS => ?_)
  replace hS := hS.recast (show _ = blkA g2 47 [.int .i64 x.version, .slice x.ticks.A x.ticks.l.length x.ticks.c, .int .i64 x.lot, .int .i64 x.band, .slice x.fees.A x.fees.l.length x.fees.c, .int .i64 x.round, .int .i64 x.priority, .int .i64 x.self, .int .i64 x.layout] from rfl)
  refine t_q (q_assign) ?_
  refine t_nil ?_
  refine c_seq ?_
  refine c_seq ?_
  refine c_region ?_
  refine t_q (q_mv (.slice _ _ _) rfl) ?_
  refine t_call Try.call52 (glight_calls (Rd.st hl hS) hm) rfl ?_
  rintro e w ⟨rfl, hT⟩
  refine ⟨_, rfl, ?_⟩
  replace hS := hS.after hT
  rw [hLG]
  refine t_q (q_not rfl) ?_
  refine t_q (q_mv (.bool _) rfl) ?_
  refine t_yes rfl rfl rfl ?_
  refine t_q (q_cast (v' := .agg x.cells.toArray) (q_load_blk Try.isAgg47 Try.sizeOf47 rfl (hS.blk (by repeat first | exact .here _ _ | assumption | apply Pick.there)) rfl) (by rfl)) ?_
  refine t_yes rfl rfl rfl ?_
  refine t_call Try.call41 (rlight_calls (x := x)) rfl ?_
  rintro e w ⟨rfl, hT⟩
  refine ⟨_, rfl, ?_⟩
  replace hS := hS.after hT
  rw [hLx]
  refine t_yes rfl rfl rfl ?_
  refine t_q (q_not rfl) ?_
  refine t_q (q_pick_f rfl rfl) ?_
  refine t_nil ?_
  refine c_cond_f rfl rfl ?_
  refine c_skip ?_
  refine c_seq ?_
  replace hS := hS.rds0
  refine c_region ?_
  refine t_q (q_cast (v' := .agg x.cells.toArray) (q_load_blk Try.isAgg47 Try.sizeOf47 rfl (hS.blk (by repeat first | exact .here _ _ | assumption | apply Pick.there)) rfl) (by rfl)) ?_
  refine t_call Try.call54 (rgnew_calls (x := x) (hS.pick (A := rdsA []) (by repeat first | exact .here _ _ | assumption | apply Pick.there)) (RuBy.base hgx)) rfl ?_
  rintro e w ⟨p, ps0, rfl, hs1, hor⟩
  refine ⟨_, rfl, ?_⟩
  rcases hor with ⟨_, gn, rfl, hS⟩ | ⟨h, _⟩
  rotate_left
  · rw [hg] at h; cases h
  refine t_q (q_as (.pointer _) rfl) ?_
  refine t_nil ?_
  refine c_seq ?_
  refine c_region ?_
  refine t_q (q_cast (v' := .agg x.cells.toArray) (q_load_blk Try.isAgg47 Try.sizeOf47 rfl (hS.blk (by repeat first | exact .here _ _ | assumption | apply Pick.there)) rfl) (by rfl)) ?_
  refine t_call Try.call55 (qgnew_calls (x := x) (hS.pick (A := rdsA ps0) (by repeat first | exact .here _ _ | assumption | apply Pick.there)) (RuBy.base hgx)) rfl ?_
  rintro e w ⟨q, An, cn, rfl, hS⟩
  refine ⟨_, rfl, ?_⟩
  rw [hg]
  refine t_q (q_mv (.tuple _) rfl) ?_
  refine t_q (q_extract rfl rfl) ?_
  refine t_q (q_extract rfl rfl) ?_
  refine t_q (q_as (.pointer _) rfl) ?_
  refine t_q (q_as (.bool _) rfl) ?_
  refine t_nil ?_
  refine c_seq ?_
  refine c_seq ?_
  refine c_region ?_
  refine t_q (q_mv (.bool _) rfl) ?_
  refine t_q (q_not rfl) ?_
  refine t_q (q_mv (.bool _) rfl) ?_
  refine t_yes rfl rfl rfl ?_
  refine t_q (q_mv (.pointer _) rfl) ?_
  refine t_yes rfl rfl rfl ?_
  refine t_q (q_eql_ptr_nil Try.runUnderlying29 rfl rfl) ?_
  refine t_q (q_pick_f rfl rfl) ?_
  refine t_nil ?_
  refine c_cond_f rfl rfl ?_
  refine c_skip ?_
  refine c_seq ?_
  refine c_seq ?_
  refine c_region ?_
  refine t_q (q_mv (.slice _ _ _) rfl) ?_
  refine t_q (q_len_slice Try.runUnderlying103 rfl) ?_
  refine t_q (q_move) ?_
  refine t_nil ?_
  refine c_block ?_
  refine c_loop [9, 50, 51, 52, 53, 54, 55, 56, 57, 58, 59, 60, 61, 62] (fun k σ w => ∃ (j : Nat) (ps : List RdP) (A : Option Addr) (c : Nat) (Y : List RuV), σ 50 = .int .i64 (j : Int) ∧ j ≤ l.length ∧ l.length - j ≤ k ∧ Y ≠ [] ∧ (∀ y ∈ Y, RuBy W ps y) ∧ GReg (Y.map nf) ∧ St W w [regA W gn (Y.map nf) ps, blkA q 141 [.slice A Y.length c], rowA 47 9 A Y.length c (Y.flatMap RuV.cells), rdsA ps, blkA g2 47 [.int .i64 x.version, .slice x.ticks.A x.ticks.l.length x.ticks.c, .int .i64 x.lot, .int .i64 x.band, .slice x.fees.A x.fees.l.length x.fees.c, .int .i64 x.round, .int .i64 x.priority, .int .i64 x.self, .int .i64 x.layout]]) (l.length) rfl (⟨0, ps0, An, cn, [x], rfl, by omega, by omega, (by simp), (fun y hy => by rw [List.mem_singleton.1 hy]; exact RuBy.base hgx), hg1, ((((((hS.pick (A := blkA g2 47 [.int .i64 x.version, .slice x.ticks.A x.ticks.l.length x.ticks.c, .int .i64 x.lot, .int .i64 x.band, .slice x.fees.A x.fees.l.length x.fees.c, .int .i64 x.round, .int .i64 x.priority, .int .i64 x.self, .int .i64 x.layout]) (by repeat first | exact .here _ _ | assumption | apply Pick.there)).pick (A := rdsA ps0) (by repeat first | exact .here _ _ | assumption | apply Pick.there)).pick (A := rowA 47 9 An [x].length cn ([x].flatMap RuV.cells)) (by repeat first | exact .here _ _ | assumption | apply Pick.there)).pick (A := blkA q 141 [.slice An [x].length cn]) (by repeat first | exact .here _ _ | assumption | apply Pick.there)).pick (A := regA W gn [nf x] ps0) (by repeat first | exact .here _ _ | assumption | apply Pick.there))).front5⟩) ?_
  skip
  rintro k σ w ⟨j, ps, A, c, Y, h50, hj, hk, hne, hD, hG, hS⟩
  refine c_know 50 h50 ?_
  clear h50
  have hY16 : Y.length ≤ 16 := by have := hG.len; rwa [List.length_map] at this
  refine c_seq ?_
  refine c_region ?_
  refine t_q (q_lss rfl rfl) ?_
  refine t_nil ?_
  refine c_seq ?_
  refine c_cond rfl ?_ ?_
  · intro hc8
    have hc8d := of_decide_eq_true hc8
    have hgj := hgo j (by omega)
    refine c_skip ?_
    refine c_seq ?_
    refine c_block ?_
    refine c_seq ?_
    refine c_region ?_
    first | refine t_index_nat Try.runUnderlying103 Try.sizeOf109 (Rd.st hl hS) rfl rfl (by omega) (fun ad9 hl9 hx9 => ?_) | refine t_index Try.runUnderlying103 Try.sizeOf109 (Rd.st hl hS) rfl rfl (by omega) (fun ad9 hl9 hx9 => ?_)
    refine t_q (q_loadN Try.isAgg109 Try.sizeOf109 rfl hl9 hx9) ?_
    refine t_alloc Try.zeroValue109 rfl hS (fun g9 w hS => ?_)
    refine t_store (v := (.agg _)) Try.sizeOf109 hS (by repeat first | exact .here _ _ | assumption | apply Pick.there) rfl rfl rfl rfl rfl rfl (fun w hS => ?_)
    replace hS := hS.recast (congrArg (blkA g9 109) (rset_full (vs := (l.getD j default).cells) rfl))
    replace hS := hS.recast (show _ = blkA g9 109 [.int .i64 (l.getD j default).kind, .int .i64 (l.getD j default).v, .int .i64 (l.getD j default).r.version, .slice (l.getD j default).r.ticks.A (l.getD j default).r.ticks.l.length (l.getD j default).r.ticks.c, .int .i64 (l.getD j default).r.lot, .int .i64 (l.getD j default).r.band, .slice (l.getD j default).r.fees.A (l.getD j default).r.fees.l.length (l.getD j default).r.fees.c, .int .i64 (l.getD j default).r.round, .int .i64 (l.getD j default).r.priority, .int .i64 (l.getD j default).r.self, .int .i64 (l.getD j default).r.layout] from rfl)
    refine t_nil ?_
    refine c_seq ?_
    refine c_region ?_
    refine t_q (q_mv (.pointer _) rfl) ?_
    refine t_q (q_fieldAddr 2 Try.runUnderlying109 rfl Try.sizeOf47 (by decide) rfl rfl) ?_
    refine t_q (q_cast (v' := .agg (l.getD j default).r.cells.toArray) (q_load_sub Try.isAgg47 Try.sizeOf47 rfl (hS.blk (by repeat first | exact .here _ _ | assumption | apply Pick.there)) (by show 0 + 2 + 9 ≤ 11; decide)) (by rfl)) ?_
    refine t_call Try.call21 (rgput_calls (x := (l.getD j default).r) ((hS.pick (A := rdsA ps) (by repeat first | exact .here _ _ | assumption | apply Pick.there)).pick (A := regA W gn _ ps) (by repeat first | exact .here _ _ | assumption | apply Pick.there)) (RuBy.base hgj)) rfl ?_
    rintro e w ⟨ps2, rfl, hs2, hS⟩
    refine ⟨_, rfl, ?_⟩
    refine t_nil ?_
    refine c_region ?_
    refine t_q (q_mv (.pointer _) rfl) ?_
    refine t_q (q_fieldAddr 2 Try.runUnderlying109 rfl Try.sizeOf47 (by decide) rfl rfl) ?_
    refine t_q (q_cast (v' := .agg (l.getD j default).r.cells.toArray) (q_load_sub Try.isAgg47 Try.sizeOf47 rfl (hS.blk (by repeat first | exact .here _ _ | assumption | apply Pick.there)) (by show 0 + 2 + 9 ≤ 11; decide)) (by rfl)) ?_
    refine t_call Try.call23 (qgput2_calls (ps := ps2) (x := (l.getD j default).r) (((hS.pick (A := rdsA ps2) (by repeat first | exact .here _ _ | assumption | apply Pick.there)).pick (A := rowA 47 9 A Y.length c (Y.flatMap RuV.cells)) (by repeat first | exact .here _ _ | assumption | apply Pick.there)).pick (A := blkA q 141 [.slice A Y.length c]) (by repeat first | exact .here _ _ | assumption | apply Pick.there)) hG.srt hY16 (RuBy.base hgj)) rfl ?_
    rintro e w ⟨rfl, A', c', Y', hY', hsub', hS⟩
    refine ⟨_, rfl, ?_⟩
    rw [← hY'] at hS
    refine t_nil ?_
    refine c_region ?_
    refine t_q (q_add_i64 rfl rfl (by omega)) ?_
    refine t_q (q_mv (.int _ _) rfl) ?_
    refine t_nil ?_
    exact ⟨k - 1, by omega, j + 1, ps2, A', c', Y', rfl, by omega, by omega, (fun h => gputM_ne (map_ne hne) (by rw [← hY', h]; rfl)), (fun y hy => by
      rcases hsub' y hy with h | h
      · rw [h]; exact RuBy.base hgj
      · exact (hD y h).mono hs2), (by rw [hY']; exact hG.put _), (((((((hS.pick (A := blkA g9 109 _) (by repeat first | exact .here _ _ | assumption | apply Pick.there)).drop.pick (A := blkA g2 47 [.int .i64 x.version, .slice x.ticks.A x.ticks.l.length x.ticks.c, .int .i64 x.lot, .int .i64 x.band, .slice x.fees.A x.fees.l.length x.fees.c, .int .i64 x.round, .int .i64 x.priority, .int .i64 x.self, .int .i64 x.layout]) (by repeat first | exact .here _ _ | assumption | apply Pick.there)).pick (A := rdsA ps2) (by repeat first | exact .here _ _ | assumption | apply Pick.there)).pick (A := rowA 47 9 A' Y'.length c' (Y'.flatMap RuV.cells)) (by repeat first | exact .here _ _ | assumption | apply Pick.there)).pick (A := blkA q 141 [.slice A' Y'.length c']) (by repeat first | exact .here _ _ | assumption | apply Pick.there)).pick (A := regA W gn _ ps2) (by repeat first | exact .here _ _ | assumption | apply Pick.there))).front5⟩
  · intro hc8
    have hc8d := of_decide_eq_false hc8
    refine c_exit ?_
    refine ite_t rfl ?_
    refine c_seq ?_
    refine c_region ?_
    refine t_q (q_mv (.pointer _) rfl) ?_
    refine t_call Try.call64 (rgbytes_calls ((hS.pick (A := rdsA ps) (by repeat first | exact .here _ _ | assumption | apply Pick.there)).pick (A := regA W gn _ ps) (by repeat first | exact .here _ _ | assumption | apply Pick.there))) rfl ?_
    rintro e w ⟨A10, c10, rfl, hS⟩
    refine ⟨_, rfl, ?_⟩
    have hc10 := hS.row_le (t := 5) (size := 1) (A := A10) (c := c10) (by repeat first | exact .here _ _ | assumption | apply Pick.there)
    have hrd0 : ∀ r ∈ (Y.map nf), ∃ (w : World) (x : RuV), x.Gd w ∧ nf x = r := by
      obtain ⟨r0, X0, hk0, hS9⟩ := (hS.pick (A := regA W gn _ ps) (by repeat first | exact .here _ _ | assumption | apply Pick.there)).reg
      exact reg_read hk0 hS9 (by repeat first | exact .here _ _ | assumption | apply Pick.there)
    have hrl : (rgB (Y.map nf)).length ≤ 900000000 := by
      obtain ⟨r0, X0, hk0, hS9⟩ := (hS.pick (A := regA W gn _ ps) (by repeat first | exact .here _ _ | assumption | apply Pick.there)).reg
      have h1 := rgB_len (reg_lens hk0 hS9 (by repeat first | exact .here _ _ | assumption | apply Pick.there))
      have h2 := enc_ten (n := (Y.map nf).length) (by have := hG.len; omega)
      have h3 := hG.len
      unfold rgB
      rw [List.length_append]
      omega
    obtain ⟨bk1, bk2, bk3⟩ := rg_back hG (map_ne hne) hrd0 []
    refine t_q (q_as (.slice _ _ _) rfl) ?_
    refine t_nil ?_
    refine c_seq ?_
    refine c_region ?_
    refine t_q (q_mv (.slice _ _ _) rfl) ?_
    have hS0 := (hS.pick (A := rowA 5 1 A10 (rgB (Y.map nf)).length c10 ((rgB (Y.map nf)).map bv)) (by repeat first | exact .here _ _ | assumption | apply Pick.there))
    obtain ⟨w1, hw1⟩ : ∃ x, x = w := ⟨_, rfl⟩
    subst hw1
    have hb1 := hS0.rowRd (A := A10) (c := c10) (bs := rgB (Y.map nf)) (by repeat first | exact .here _ _ | assumption | apply Pick.there) rfl
    replace hS := St.init w1
    refine t_call Try.call33 (Open_calls (bs := rgB (Y.map nf)) hS hb1 ⟨hc10, by omega⟩) rfl ?_
    rintro e w ⟨gR, rfl, hS⟩
    refine ⟨_, rfl, ?_⟩
    replace hS := hS.recast (congrArg (fun b => rdrA w1 149 gR ⟨b, false⟩) (List.append_nil (rgB (Y.map nf))).symm)
    replace hS := hS.rds0
    refine t_q (q_as (.pointer _) rfl) ?_
    refine t_nil ?_
    refine c_seq ?_
    refine c_region ?_
    refine t_q (q_mv (.pointer _) rfl) ?_
    refine t_call Try.call65 (rgread_calls (V := w1) (W := W) (s := ⟨rgB (Y.map nf) ++ [], false⟩) ((hS.pick (A := rdsA []) (by repeat first | exact .here _ _ | assumption | apply Pick.there)).pick (A := rdrA w1 149 gR _) (by repeat first | exact .here _ _ | assumption | apply Pick.there))) rfl ?_
    rintro e w ⟨p, ps2, rfl, hs2, hor⟩
    refine ⟨_, rfl, ?_⟩
    rcases hor with ⟨_, gP, rfl, hS⟩ | ⟨h, _⟩
    rotate_left
    · rw [bk1] at h; cases h
    rw [bk2, bk3] at hS
    replace hS := hS0.lift hS
    refine t_q (q_as (.pointer _) rfl) ?_
    refine t_nil ?_
    refine c_seq ?_
    refine c_draw ?_
    refine d_free 24 [0, 1, 2, 3, 4, 5, 6, 7, 8, 9, 10, 11, 12, 13, 14, 15, 16, 17, 18, 19, 20, 21, 22, 23] [0, 1, 2, 3, 4, 5, 6, 7, 8, 9, 10, 11, 12, 13, 14, 15, 16, 17, 18, 19, 20, 21, 22, 23] hS rfl (by kernel_rfl) (by kernel_rfl) (by kernel_rfl) (by kernel_rfl) (fun hap hsel w hS => ?_)
    refine p_q hap hsel 0 rfl rfl ⟨_, hS⟩ (fun w hI => q_mv (.slice _ _ _) rfl) ?_
    refine p_q hap hsel 2 rfl rfl ⟨_, hS⟩ (fun w hI => q_mv (.pointer _) rfl) ?_
    refine p_two 1 3 rfl rfl (by kernel_rfl) ?_ ?_
    ·
      refine t_q (q_string Try.runUnderlying74 Try.runUnderlying5 Try.runUnderlying9 rfl rfl (hS.rowRd (A := A10) (c := c10) (bs := rgB (Y.map nf)) (by repeat first | exact .here _ _ | assumption | apply Pick.there) rfl)) ?_
      refine t_nil ?_
      refine ⟨.inr ⟨_, hS⟩, ?_⟩
      refine p_one 3 rfl (by kernel_rfl) ?_
      refine t_call Try.call67 (qgbytes_calls (((hS.pick (A := rdsA ps) (by repeat first | exact .here _ _ | assumption | apply Pick.there)).pick (A := rowA 47 9 A Y.length c (Y.flatMap RuV.cells)) (by repeat first | exact .here _ _ | assumption | apply Pick.there)).pick (A := blkA q 141 [.slice A Y.length c]) (by repeat first | exact .here _ _ | assumption | apply Pick.there)) hD hY16) rfl ?_
      rintro e w ⟨A72, c72, rfl, hS⟩
      refine ⟨_, rfl, ?_⟩
      refine t_nil ?_
      refine ⟨.inr ⟨_, hS⟩, ?_⟩
      refine p_one 4 rfl (by kernel_rfl) ?_
      refine t_q (q_string Try.runUnderlying74 Try.runUnderlying5 Try.runUnderlying9 rfl rfl (hS.rowRd (A := A72) (c := c72) (bs := rgB Y) (by repeat first | exact .here _ _ | assumption | apply Pick.there) rfl)) ?_
      refine t_nil ?_
      refine ⟨.inr ⟨_, hS⟩, ?_⟩
      refine p_q hap hsel 5 rfl rfl ⟨_, hS⟩ (fun w hI => (q_cast (v' := .bool true) (q_eql_string rfl rfl) (by rw [rgB_nf]; simp))) ?_
      refine p_q hap hsel 6 rfl rfl ⟨_, hS⟩ (fun w hI => q_mv (.bool _) rfl) ?_
      refine p_yes hap hsel 7 rfl rfl ⟨_, hS⟩ rfl rfl rfl (fun w hI => q_mv (.pointer _) rfl) ?_
      refine p_yes hap hsel 8 rfl rfl ⟨_, hS⟩ rfl rfl rfl (fun w hI => q_neq_ptr_nil Try.runUnderlying29 rfl rfl) ?_
      refine p_q hap hsel 9 rfl rfl ⟨_, hS⟩ (fun w hI => q_pick_t rfl rfl) ?_
      refine p_q hap hsel 10 rfl rfl ⟨_, hS⟩ (fun w hI => q_mv (.bool _) rfl) ?_
      refine p_yes hap hsel 11 rfl rfl ⟨_, hS⟩ rfl rfl rfl (fun w hI => q_mv (.pointer _) rfl) ?_
      refine p_one 12 rfl (by kernel_rfl) ?_
      refine t_yes rfl rfl rfl ?_
      refine t_call Try.call37 (rEnd hS (by repeat first | exact .here _ _ | assumption | apply Pick.there)) rfl ?_
      rintro e w ⟨rfl, hS⟩
      refine ⟨_, rfl, ?_⟩
      refine t_nil ?_
      refine ⟨.inr ⟨_, hS⟩, ?_⟩
      refine p_yes hap hsel 13 rfl rfl ⟨_, hS⟩ rfl rfl rfl (fun w hI => (q_cast (v' := .bool true) (q_eql rfl rfl) (by rfl))) ?_
      refine p_q hap hsel 14 rfl rfl ⟨_, hS⟩ (fun w hI => q_pick_t rfl rfl) ?_
      refine p_q hap hsel 15 rfl rfl ⟨_, hS⟩ (fun w hI => q_mv (.bool _) rfl) ?_
      refine p_yes hap hsel 16 rfl rfl ⟨_, hS⟩ rfl rfl rfl (fun w hI => q_mv (.pointer _) rfl) ?_
      refine p_yes hap hsel 17 rfl rfl ⟨_, hS⟩ rfl rfl rfl (fun w hI => q_mv (.pointer _) rfl) ?_
      refine p_one 18 rfl (by kernel_rfl) ?_
      refine t_yes rfl rfl rfl ?_
      refine t_call Try.call62 (rglike_calls (ps := ps2) ((((hS.pick (A := rdsA ps2) (by repeat first | exact .here _ _ | assumption | apply Pick.there)).pick (A := rowA 47 9 A Y.length c (Y.flatMap RuV.cells)) (by repeat first | exact .here _ _ | assumption | apply Pick.there)).pick (A := blkA q 141 [.slice A Y.length c]) (by repeat first | exact .here _ _ | assumption | apply Pick.there)).pick (A := regA W gP _ ps2) (by repeat first | exact .here _ _ | assumption | apply Pick.there)) rfl (fun w' h y hy => (hD y hy).gd (ps := ps) h (by repeat first | exact .here _ _ | assumption | apply Pick.there))) rfl ?_
      rintro e w ⟨rfl, hS⟩
      refine ⟨_, rfl, ?_⟩
      refine t_nil ?_
      refine ⟨.inr ⟨_, hS⟩, ?_⟩
      refine p_q hap hsel 19 rfl rfl ⟨_, hS⟩ (fun w hI => q_pick_t rfl rfl) ?_
      refine p_q hap hsel 20 rfl rfl ⟨_, hS⟩ (fun w hI => q_mv (.bool _) rfl) ?_
      refine p_one 21 rfl (by kernel_rfl) ?_
      refine t_yes rfl rfl rfl ?_
      refine t_call Try.call53 (rglives_calls) rfl ?_
      rintro e w ⟨rfl, hT⟩
      refine ⟨_, rfl, ?_⟩
      replace hS := hS.after hT
      refine t_nil ?_
      refine ⟨.inr ⟨_, hS⟩, ?_⟩
      refine p_q hap hsel 22 rfl rfl ⟨_, hS⟩ (fun w hI => q_pick_t rfl rfl) ?_
      refine p_q hap hsel 23 rfl rfl ⟨_, hS⟩ (fun w hI => q_as (.bool _) rfl) ?_
      refine p_end (by kernel_rfl) ?_
      refine c_ret ?_
      refine r_one rfl rfl ?_
      exact ⟨rfl, hS.nil⟩
    ·
      refine t_call Try.call67 (qgbytes_calls (((hS.pick (A := rdsA ps) (by repeat first | exact .here _ _ | assumption | apply Pick.there)).pick (A := rowA 47 9 A Y.length c (Y.flatMap RuV.cells)) (by repeat first | exact .here _ _ | assumption | apply Pick.there)).pick (A := blkA q 141 [.slice A Y.length c]) (by repeat first | exact .here _ _ | assumption | apply Pick.there)) hD hY16) rfl ?_
      rintro e w ⟨A72, c72, rfl, hS⟩
      refine ⟨_, rfl, ?_⟩
      refine t_nil ?_
      refine ⟨.inr ⟨_, hS⟩, ?_⟩
      refine p_two 1 4 rfl rfl (by kernel_rfl) ?_ ?_
      ·
        refine t_q (q_string Try.runUnderlying74 Try.runUnderlying5 Try.runUnderlying9 rfl rfl (hS.rowRd (A := A10) (c := c10) (bs := rgB (Y.map nf)) (by repeat first | exact .here _ _ | assumption | apply Pick.there) rfl)) ?_
        refine t_nil ?_
        refine ⟨.inr ⟨_, hS⟩, ?_⟩
        refine p_one 4 rfl (by kernel_rfl) ?_
        refine t_q (q_string Try.runUnderlying74 Try.runUnderlying5 Try.runUnderlying9 rfl rfl (hS.rowRd (A := A72) (c := c72) (bs := rgB Y) (by repeat first | exact .here _ _ | assumption | apply Pick.there) rfl)) ?_
        refine t_nil ?_
        refine ⟨.inr ⟨_, hS⟩, ?_⟩
        refine p_q hap hsel 5 rfl rfl ⟨_, hS⟩ (fun w hI => (q_cast (v' := .bool true) (q_eql_string rfl rfl) (by rw [rgB_nf]; simp))) ?_
        refine p_q hap hsel 6 rfl rfl ⟨_, hS⟩ (fun w hI => q_mv (.bool _) rfl) ?_
        refine p_yes hap hsel 7 rfl rfl ⟨_, hS⟩ rfl rfl rfl (fun w hI => q_mv (.pointer _) rfl) ?_
        refine p_yes hap hsel 8 rfl rfl ⟨_, hS⟩ rfl rfl rfl (fun w hI => q_neq_ptr_nil Try.runUnderlying29 rfl rfl) ?_
        refine p_q hap hsel 9 rfl rfl ⟨_, hS⟩ (fun w hI => q_pick_t rfl rfl) ?_
        refine p_q hap hsel 10 rfl rfl ⟨_, hS⟩ (fun w hI => q_mv (.bool _) rfl) ?_
        refine p_yes hap hsel 11 rfl rfl ⟨_, hS⟩ rfl rfl rfl (fun w hI => q_mv (.pointer _) rfl) ?_
        refine p_one 12 rfl (by kernel_rfl) ?_
        refine t_yes rfl rfl rfl ?_
        refine t_call Try.call37 (rEnd hS (by repeat first | exact .here _ _ | assumption | apply Pick.there)) rfl ?_
        rintro e w ⟨rfl, hS⟩
        refine ⟨_, rfl, ?_⟩
        refine t_nil ?_
        refine ⟨.inr ⟨_, hS⟩, ?_⟩
        refine p_yes hap hsel 13 rfl rfl ⟨_, hS⟩ rfl rfl rfl (fun w hI => (q_cast (v' := .bool true) (q_eql rfl rfl) (by rfl))) ?_
        refine p_q hap hsel 14 rfl rfl ⟨_, hS⟩ (fun w hI => q_pick_t rfl rfl) ?_
        refine p_q hap hsel 15 rfl rfl ⟨_, hS⟩ (fun w hI => q_mv (.bool _) rfl) ?_
        refine p_yes hap hsel 16 rfl rfl ⟨_, hS⟩ rfl rfl rfl (fun w hI => q_mv (.pointer _) rfl) ?_
        refine p_yes hap hsel 17 rfl rfl ⟨_, hS⟩ rfl rfl rfl (fun w hI => q_mv (.pointer _) rfl) ?_
        refine p_one 18 rfl (by kernel_rfl) ?_
        refine t_yes rfl rfl rfl ?_
        refine t_call Try.call62 (rglike_calls (ps := ps2) ((((hS.pick (A := rdsA ps2) (by repeat first | exact .here _ _ | assumption | apply Pick.there)).pick (A := rowA 47 9 A Y.length c (Y.flatMap RuV.cells)) (by repeat first | exact .here _ _ | assumption | apply Pick.there)).pick (A := blkA q 141 [.slice A Y.length c]) (by repeat first | exact .here _ _ | assumption | apply Pick.there)).pick (A := regA W gP _ ps2) (by repeat first | exact .here _ _ | assumption | apply Pick.there)) rfl (fun w' h y hy => (hD y hy).gd (ps := ps) h (by repeat first | exact .here _ _ | assumption | apply Pick.there))) rfl ?_
        rintro e w ⟨rfl, hS⟩
        refine ⟨_, rfl, ?_⟩
        refine t_nil ?_
        refine ⟨.inr ⟨_, hS⟩, ?_⟩
        refine p_q hap hsel 19 rfl rfl ⟨_, hS⟩ (fun w hI => q_pick_t rfl rfl) ?_
        refine p_q hap hsel 20 rfl rfl ⟨_, hS⟩ (fun w hI => q_mv (.bool _) rfl) ?_
        refine p_one 21 rfl (by kernel_rfl) ?_
        refine t_yes rfl rfl rfl ?_
        refine t_call Try.call53 (rglives_calls) rfl ?_
        rintro e w ⟨rfl, hT⟩
        refine ⟨_, rfl, ?_⟩
        replace hS := hS.after hT
        refine t_nil ?_
        refine ⟨.inr ⟨_, hS⟩, ?_⟩
        refine p_q hap hsel 22 rfl rfl ⟨_, hS⟩ (fun w hI => q_pick_t rfl rfl) ?_
        refine p_q hap hsel 23 rfl rfl ⟨_, hS⟩ (fun w hI => q_as (.bool _) rfl) ?_
        refine p_end (by kernel_rfl) ?_
        refine c_ret ?_
        refine r_one rfl rfl ?_
        exact ⟨rfl, hS.nil⟩
      ·
        refine t_q (q_string Try.runUnderlying74 Try.runUnderlying5 Try.runUnderlying9 rfl rfl (hS.rowRd (A := A72) (c := c72) (bs := rgB Y) (by repeat first | exact .here _ _ | assumption | apply Pick.there) rfl)) ?_
        refine t_nil ?_
        refine ⟨.inr ⟨_, hS⟩, ?_⟩
        refine p_one 1 rfl (by kernel_rfl) ?_
        refine t_q (q_string Try.runUnderlying74 Try.runUnderlying5 Try.runUnderlying9 rfl rfl (hS.rowRd (A := A10) (c := c10) (bs := rgB (Y.map nf)) (by repeat first | exact .here _ _ | assumption | apply Pick.there) rfl)) ?_
        refine t_nil ?_
        refine ⟨.inr ⟨_, hS⟩, ?_⟩
        refine p_q hap hsel 5 rfl rfl ⟨_, hS⟩ (fun w hI => (q_cast (v' := .bool true) (q_eql_string rfl rfl) (by rw [rgB_nf]; simp))) ?_
        refine p_q hap hsel 6 rfl rfl ⟨_, hS⟩ (fun w hI => q_mv (.bool _) rfl) ?_
        refine p_yes hap hsel 7 rfl rfl ⟨_, hS⟩ rfl rfl rfl (fun w hI => q_mv (.pointer _) rfl) ?_
        refine p_yes hap hsel 8 rfl rfl ⟨_, hS⟩ rfl rfl rfl (fun w hI => q_neq_ptr_nil Try.runUnderlying29 rfl rfl) ?_
        refine p_q hap hsel 9 rfl rfl ⟨_, hS⟩ (fun w hI => q_pick_t rfl rfl) ?_
        refine p_q hap hsel 10 rfl rfl ⟨_, hS⟩ (fun w hI => q_mv (.bool _) rfl) ?_
        refine p_yes hap hsel 11 rfl rfl ⟨_, hS⟩ rfl rfl rfl (fun w hI => q_mv (.pointer _) rfl) ?_
        refine p_one 12 rfl (by kernel_rfl) ?_
        refine t_yes rfl rfl rfl ?_
        refine t_call Try.call37 (rEnd hS (by repeat first | exact .here _ _ | assumption | apply Pick.there)) rfl ?_
        rintro e w ⟨rfl, hS⟩
        refine ⟨_, rfl, ?_⟩
        refine t_nil ?_
        refine ⟨.inr ⟨_, hS⟩, ?_⟩
        refine p_yes hap hsel 13 rfl rfl ⟨_, hS⟩ rfl rfl rfl (fun w hI => (q_cast (v' := .bool true) (q_eql rfl rfl) (by rfl))) ?_
        refine p_q hap hsel 14 rfl rfl ⟨_, hS⟩ (fun w hI => q_pick_t rfl rfl) ?_
        refine p_q hap hsel 15 rfl rfl ⟨_, hS⟩ (fun w hI => q_mv (.bool _) rfl) ?_
        refine p_yes hap hsel 16 rfl rfl ⟨_, hS⟩ rfl rfl rfl (fun w hI => q_mv (.pointer _) rfl) ?_
        refine p_yes hap hsel 17 rfl rfl ⟨_, hS⟩ rfl rfl rfl (fun w hI => q_mv (.pointer _) rfl) ?_
        refine p_one 18 rfl (by kernel_rfl) ?_
        refine t_yes rfl rfl rfl ?_
        refine t_call Try.call62 (rglike_calls (ps := ps2) ((((hS.pick (A := rdsA ps2) (by repeat first | exact .here _ _ | assumption | apply Pick.there)).pick (A := rowA 47 9 A Y.length c (Y.flatMap RuV.cells)) (by repeat first | exact .here _ _ | assumption | apply Pick.there)).pick (A := blkA q 141 [.slice A Y.length c]) (by repeat first | exact .here _ _ | assumption | apply Pick.there)).pick (A := regA W gP _ ps2) (by repeat first | exact .here _ _ | assumption | apply Pick.there)) rfl (fun w' h y hy => (hD y hy).gd (ps := ps) h (by repeat first | exact .here _ _ | assumption | apply Pick.there))) rfl ?_
        rintro e w ⟨rfl, hS⟩
        refine ⟨_, rfl, ?_⟩
        refine t_nil ?_
        refine ⟨.inr ⟨_, hS⟩, ?_⟩
        refine p_q hap hsel 19 rfl rfl ⟨_, hS⟩ (fun w hI => q_pick_t rfl rfl) ?_
        refine p_q hap hsel 20 rfl rfl ⟨_, hS⟩ (fun w hI => q_mv (.bool _) rfl) ?_
        refine p_one 21 rfl (by kernel_rfl) ?_
        refine t_yes rfl rfl rfl ?_
        refine t_call Try.call53 (rglives_calls) rfl ?_
        rintro e w ⟨rfl, hT⟩
        refine ⟨_, rfl, ?_⟩
        replace hS := hS.after hT
        refine t_nil ?_
        refine ⟨.inr ⟨_, hS⟩, ?_⟩
        refine p_q hap hsel 22 rfl rfl ⟨_, hS⟩ (fun w hI => q_pick_t rfl rfl) ?_
        refine p_q hap hsel 23 rfl rfl ⟨_, hS⟩ (fun w hI => q_as (.bool _) rfl) ?_
        refine p_end (by kernel_rfl) ?_
        refine c_ret ?_
        refine r_one rfl rfl ?_
        exact ⟨rfl, hS.nil⟩
theorem RegistryWrites_calls {x : RuV} (hx : x.Ok W) {A0 : Option Addr} {c0 : Nat} {l : List OpG} (hl : Rd W 11 A0 l.length (fun i => (l.getD i default).cells)) (hm : l.length ≤ 9223372036854775807) (hok : ∀ o ∈ l, o.Ok W) : Calls Try.prog 13 #[.agg x.cells.toArray, .slice A0 l.length c0] W fun e w' => e = .returned (.bool true) ∧ St W w' [] := by
  cases hLG : lightG l with
  | false => exact gwrites_dark hl hm (.inl hLG)
  | true =>
    cases hLx : lightR x with
    | false => exact gwrites_dark hl hm (.inr hLx)
    | true =>
      cases hg : goodR x with
      | false => exact gwrites_bad (light_rgd hx hLx) hl hm hLG hLx hg
      | true => exact gwrites_good (light_rgd hx hLx) hl hm hLG hLx (fun j hj => lightG_gd hLG hok hj) hg
end Go.Proofs.Ytmgobaojioaioaa
