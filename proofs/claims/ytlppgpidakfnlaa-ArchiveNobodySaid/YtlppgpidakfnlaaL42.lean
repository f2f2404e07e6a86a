/- An archive that is nil, or that no call made, has nothing: the walk. -/
import Derived.Test.YtlppgpidakfnlaaAu
namespace Go.Proofs.Ytlppgpidakfnlaa
open Go Go.RowKit Go.Lib
variable {W : World}
def nbp (g19 j : Nat) : Value := if j = 0 then .pointer none else .pointer (some ⟨g19, 0, none⟩)
attribute [local irreducible] blkA rowA rdrA rdO dskA arA
set_option maxRecDepth 100000 in
theorem save_zero {w : World} {L R : List Asn} {g : Nat} {vs : List Value} {v : Value} {cs : List Value} (hv : v = .agg cs.toArray) (hS : St W w L) (pk : Pick L (blkA g 75 (.pointer none :: vs)) R) : Calls Try.prog 35 #[.pointer (some ⟨g, 0, none⟩), v] w fun e w' => e = .returned (.int .i64 1) ∧ St W w' (blkA g 75 (.pointer none :: vs) :: R) := by
  subst hv
  replace hS := hS.pick pk
  clear pk
  refine calls_of_wpE (args := [_, _]) Try.func35 rfl rfl rfl ?_
  refine c_seq ?_
  refine c_region ?_
  refine t_box (v := (.pointer _)) rfl rfl hS (fun g2 w hS => ?_)
  refine t_box (v := (.agg _)) rfl rfl hS (fun g3 w hS => ?_)
  refine t_q (q_assign) ?_
  refine t_nil ?_
  refine c_seq ?_
  refine c_block ?_
  refine c_seq ?_
  refine c_region ?_
  refine t_q (q_load1 Try.isAgg60 rfl (hS.cell (by repeat first | exact .here _ _ | assumption | apply Pick.there) rfl)) ?_
  refine t_call Try.call86 (none_zero hS (by repeat first | exact .here _ _ | assumption | apply Pick.there)) rfl ?_
  rintro e w ⟨rfl, hS⟩
  refine ⟨_, rfl, ?_⟩
  refine t_q (q_as (.bool _) rfl) ?_
  refine t_nil ?_
  refine c_cond_t rfl rfl ?_
  refine c_seq ?_
  refine c_region ?_
  refine t_q (q_assign) ?_
  refine t_nil ?_
  refine c_ret ?_
  refine r_one rfl rfl ?_
  exact ⟨rfl, ((hS.pick (A := blkA g2 60 _) (by repeat first | exact .here _ _ | assumption | apply Pick.there)).pick (A := blkA g3 45 _) (by repeat first | exact .here _ _ | assumption | apply Pick.there)).drop.drop⟩
theorem newest_nb {w : World} {L R : List Asn} {g19 j : Nat}  (hS : St W w L) (pk : Pick L (blkA g19 75 [.pointer none, .int .i64 0, .int .i64 0, .int .i64 0, .int .u64 0, .int .u64 0, .slice none 0 0, .bool false]) R) : Calls Try.prog 36 #[nbp g19 j] w fun e w' => e = .returned (.tuple #[.agg #[.int .u64 0, .int .u64 0, .slice none 0 0], .bool false]) ∧ St W w' (blkA g19 75 [.pointer none, .int .i64 0, .int .i64 0, .int .i64 0, .int .u64 0, .int .u64 0, .slice none 0 0, .bool false] :: R) := by
  replace hS := hS.pick pk
  unfold nbp
  by_cases h : j = 0
  · rw [if_pos h]
    refine (newest_nil (W := w)).mono fun e w' hh => ⟨hh.1, hS.after hh.2⟩
  · rw [if_neg h]
    exact newest_zero hS (.here _ _)
theorem broken_nb {w : World} {L R : List Asn} {g19 j : Nat}  (hS : St W w L) (pk : Pick L (blkA g19 75 [.pointer none, .int .i64 0, .int .i64 0, .int .i64 0, .int .u64 0, .int .u64 0, .slice none 0 0, .bool false]) R) : Calls Try.prog 37 #[nbp g19 j] w fun e w' => e = .returned (.bool false) ∧ St W w' (blkA g19 75 [.pointer none, .int .i64 0, .int .i64 0, .int .i64 0, .int .u64 0, .int .u64 0, .slice none 0 0, .bool false] :: R) := by
  replace hS := hS.pick pk
  unfold nbp
  by_cases h : j = 0
  · rw [if_pos h]
    refine (broken_nil (W := w)).mono fun e w' hh => ⟨hh.1, hS.after hh.2⟩
  · rw [if_neg h]
    exact broken_zero hS (.here _ _)
theorem save_nb {w : World} {L R : List Asn} {g19 j : Nat} {cs : List Value} (hS : St W w L) (pk : Pick L (blkA g19 75 [.pointer none, .int .i64 0, .int .i64 0, .int .i64 0, .int .u64 0, .int .u64 0, .slice none 0 0, .bool false]) R) : Calls Try.prog 35 #[nbp g19 j, .agg cs.toArray] w fun e w' => e = .returned (.int .i64 1) ∧ St W w' (blkA g19 75 [.pointer none, .int .i64 0, .int .i64 0, .int .i64 0, .int .u64 0, .int .u64 0, .slice none 0 0, .bool false] :: R) := by
  replace hS := hS.pick pk
  unfold nbp
  by_cases h : j = 0
  · rw [if_pos h]
    refine (save_nil (W := w) (cs := cs) rfl).mono fun e w' hh => ⟨hh.1, hS.after hh.2⟩
  · rw [if_neg h]
    exact save_zero (cs := cs) rfl hS (.here _ _)
set_option maxHeartbeats 1000000 in
set_option maxRecDepth 100000 in
theorem ArchiveNobody_calls {x : SnapV} (hx : x.Ok W) : Calls Try.prog 9 #[.agg x.cells.toArray] W fun e w' => e = .returned (.bool true) ∧ St W w' [] := by
  obtain ⟨ix, tx, bd⟩ := x
  obtain ⟨i, hi⟩ : ∃ i : Nat, ix = (i : Int) := ⟨ix.toNat, by have := hx.index; simp only at this; omega⟩
  obtain ⟨t, ht⟩ : ∃ t : Nat, tx = (t : Int) := ⟨tx.toNat, by have := hx.term; simp only at this; omega⟩
  subst hi ht
  have hi : i < 18446744073709551616 := by have := hx.index; simp only at this; omega
  have ht : t < 18446744073709551616 := by have := hx.term; simp only at this; omega
  have hbR : RdB W bd.A bd.l := hx.body.rd
  have hbc : bd.l.length ≤ bd.c ∧ bd.l.length ≤ 9223372036854775807 := ⟨hx.body.le.1, by have := hx.body.le; simp only at this; omega⟩
  have hS := St.init W
  refine calls_of_wpE (args := [_]) Try.func9 rfl rfl rfl ?_
  refine c_seq ?_
  refine c_region ?_
  refine t_box (v := (.agg _)) rfl rfl hS (fun g1 w hS => ?_)
  replace hS := hS.recast (show _ = blkA g1 45 [.int .u64 (i : Int), .int .u64 (t : Int), .slice bd.A bd.l.length bd.c] from rfl)
  refine t_q (q_assign) ?_
  refine t_nil ?_
  refine c_seq ?_
  refine c_seq ?_
  refine c_region ?_
  refine t_q (q_load_blk Try.isAgg45 Try.sizeOf45 rfl (hS.blk (by repeat first | exact .here _ _ | assumption | apply Pick.there)) rfl) ?_
  refine t_call Try.call25 (alight_calls) rfl ?_
  rintro e w ⟨rfl, hT⟩
  refine ⟨_, rfl, ?_⟩
  replace hS := hS.after hT
  refine t_q (q_not rfl) ?_
  refine t_nil ?_
  refine c_cond rfl ?_ ?_
  · intro hc2
    refine c_seq ?_
    refine c_region ?_
    refine t_call Try.call26 (alives_calls) rfl ?_
    rintro e w ⟨rfl, hT⟩
    refine ⟨_, rfl, ?_⟩
    replace hS := hS.after hT
    refine t_q (q_as (.bool _) rfl) ?_
    refine t_nil ?_
    refine c_ret ?_
    refine r_one rfl rfl ?_
    exact ⟨rfl, hS.nil⟩
  · intro hc2
    refine c_skip ?_
    refine c_seq ?_
    refine c_region ?_
    refine t_q (q_assign) ?_
    refine t_nil ?_
    refine c_seq ?_
    refine c_seq ?_
    refine c_region ?_
    refine t_q (q_mv (.pointer _) rfl) ?_
    refine t_q (q_build (qs := [(0, 1), (1, 2), (3, 1), (4, 3), (7, 1)]) [(.pointer _), (.int _ _), (.int _ _), (.int _ _), (.int _ _), (.int _ _), (.slice _ _ _), (.bool _)] Try.zeroValue75 Try.runUnderlying75 ⟨rfl, Try.sizeOf58, rfl, Try.sizeOf73, rfl, Try.sizeOf3, rfl, Try.sizeOf45, rfl, Try.sizeOf4, trivial⟩ rfl rfl) ?_
    refine t_box (v := (.agg _)) rfl rfl hS (fun g19 w hS => ?_)
    replace hS := hS.recast (show blkA g19 75 _ = blkA g19 75 [.pointer none, .int .i64 0, .int .i64 0, .int .i64 0, .int .u64 0, .int .u64 0, .slice none 0 0, .bool false] from rfl)
    refine t_buildSlice Try.runUnderlying76 Try.sizeOf60 Try.zeroValue60 rfl rfl (by intro v hv; simp at hv; try (first | (subst hv; rfl) | (rcases hv with rfl | rfl <;> rfl))) (by decide) (by decide) hS (fun g20 w hS => ?_)
    replace hS := hS.recast (show _ = rowA 60 1 (some ⟨g20, 0, none⟩) 2 2 [.pointer none, .pointer (some ⟨g19, 0, none⟩)] from rfl)
    refine t_q (q_len_slice Try.runUnderlying76 rfl) ?_
    refine t_q (q_move) ?_
    refine t_nil ?_
    refine c_block ?_
    refine c_loop [2, 5, 6, 7, 22, 23, 24, 25, 26, 27, 28, 29, 30, 31, 32, 33, 34, 35, 36, 37, 38, 39, 40, 41, 42] (fun k σ w => ∃ j : Nat, σ 22 = .int .i64 (j : Int) ∧ j ≤ 2 ∧ 2 - j ≤ k ∧ St W w [rowA 60 1 (some ⟨g20, 0, none⟩) 2 2 [.pointer none, .pointer (some ⟨g19, 0, none⟩)], blkA g19 75 [.pointer none, .int .i64 0, .int .i64 0, .int .i64 0, .int .u64 0, .int .u64 0, .slice none 0 0, .bool false], blkA g1 45 [.int .u64 (i : Int), .int .u64 (t : Int), .slice bd.A bd.l.length bd.c]]) (2) rfl (⟨0, rfl, by omega, by omega, hS⟩) ?_
    skip
    rintro k σ w ⟨j, h22, hj, hk, hS⟩
    refine c_know 22 h22 ?_
    clear h22
    refine c_seq ?_
    refine c_region ?_
    refine t_q (q_lss rfl rfl) ?_
    refine t_nil ?_
    refine c_seq ?_
    refine c_cond rfl ?_ ?_
    · intro hc5
      have hc5d := of_decide_eq_true hc5
      refine c_skip ?_
      refine c_seq ?_
      refine c_block ?_
      refine c_seq ?_
      refine c_region ?_
      first | refine t_index_nat Try.runUnderlying76 Try.sizeOf60 ((own_rd (f := fun i => [if i = 0 then .pointer none else .pointer (some ⟨g19, 0, none⟩)]) (hS.row (A := some ⟨g20, 0, none⟩) (by repeat first | exact .here _ _ | assumption | apply Pick.there)) (fun i hi => rfl) (fun i q hi hq => by (match i, hi with | 0, _ => (match q, hq with | 0, _ => rfl) | 1, _ => (match q, hq with | 0, _ => rfl))))) rfl rfl (by omega) (fun ad6 hl6 hx6 => ?_) | refine t_index Try.runUnderlying76 Try.sizeOf60 ((own_rd (f := fun i => [if i = 0 then .pointer none else .pointer (some ⟨g19, 0, none⟩)]) (hS.row (A := some ⟨g20, 0, none⟩) (by repeat first | exact .here _ _ | assumption | apply Pick.there)) (fun i hi => rfl) (fun i q hi hq => by (match i, hi with | 0, _ => (match q, hq with | 0, _ => rfl) | 1, _ => (match q, hq with | 0, _ => rfl))))) rfl rfl (by omega) (fun ad6 hl6 hx6 => ?_)
      refine t_q (q_cast (v' := nbp g19 j) (q_load1 Try.isAgg60 rfl (hx6 0 _ rfl)) (rfl)) ?_
      refine t_q (q_as (nbp g19 j) rfl) ?_
      refine t_nil ?_
      refine c_seq ?_
      refine c_region ?_
      refine t_q (q_mv (nbp g19 j) rfl) ?_
      refine t_call Try.call36 (newest_nb (j := j) hS (by repeat first | exact .here _ _ | assumption | apply Pick.there)) rfl ?_
      rintro e w ⟨rfl, hS⟩
      refine ⟨_, rfl, ?_⟩
      refine t_q (q_mv (.tuple _) rfl) ?_
      refine t_q (q_extract rfl rfl) ?_
      refine t_q (q_extract rfl rfl) ?_
      refine t_alloc Try.zeroValue45 rfl hS (fun g6 w hS => ?_)
      refine t_store (v := (.agg _)) Try.sizeOf45 hS (by repeat first | exact .here _ _ | assumption | apply Pick.there) rfl rfl rfl rfl rfl rfl (fun w hS => ?_)
      skip
      refine t_q (q_as (.bool _) rfl) ?_
      refine t_nil ?_
      refine c_seq ?_
      refine c_region ?_
      refine t_q (q_mv (.bool _) rfl) ?_
      refine t_q (q_mv (.bool _) rfl) ?_
      refine t_yes rfl rfl rfl ?_
      refine t_q (q_mv (nbp g19 j) rfl) ?_
      refine t_yes rfl rfl rfl ?_
      refine t_q (q_load_blk Try.isAgg45 Try.sizeOf45 rfl (hS.blk (by repeat first | exact .here _ _ | assumption | apply Pick.there)) rfl) ?_
      refine t_yes rfl rfl rfl ?_
      refine t_call Try.call35 (save_nb (j := j) (cs := [.int .u64 (i : Int), .int .u64 (t : Int), .slice bd.A bd.l.length bd.c]) hS (by repeat first | exact .here _ _ | assumption | apply Pick.there)) rfl ?_
      rintro e w ⟨rfl, hS⟩
      refine ⟨_, rfl, ?_⟩
      refine t_yes rfl rfl rfl ?_
      refine t_q (q_cast (v' := .bool false) (q_neq rfl rfl) (by rfl)) ?_
      refine t_q (q_pick_f rfl rfl) ?_
      refine t_q (q_mv (.bool _) rfl) ?_
      refine t_yes rfl rfl rfl ?_
      refine t_q (q_mv (nbp g19 j) rfl) ?_
      refine t_yes rfl rfl rfl ?_
      refine t_call Try.call37 (broken_nb (j := j) hS (by repeat first | exact .here _ _ | assumption | apply Pick.there)) rfl ?_
      rintro e w ⟨rfl, hS⟩
      refine ⟨_, rfl, ?_⟩
      refine t_q (q_pick_f rfl rfl) ?_
      refine t_nil ?_
      refine c_cond_f rfl rfl ?_
      refine c_skip ?_
      refine c_region ?_
      refine t_q (q_add_i64 rfl rfl (by omega)) ?_
      refine t_q (q_mv (.int _ _) rfl) ?_
      refine t_nil ?_
      exact ⟨k - 1, by omega, j + 1, rfl, by omega, by omega, ((((hS.pick (A := blkA g1 45 [.int .u64 (i : Int), .int .u64 (t : Int), .slice bd.A bd.l.length bd.c]) (by repeat first | exact .here _ _ | assumption | apply Pick.there)).pick (A := blkA g19 75 [.pointer none, .int .i64 0, .int .i64 0, .int .i64 0, .int .u64 0, .int .u64 0, .slice none 0 0, .bool false]) (by repeat first | exact .here _ _ | assumption | apply Pick.there)).pick (A := rowA 60 1 (some ⟨g20, 0, none⟩) 2 2 [.pointer none, .pointer (some ⟨g19, 0, none⟩)]) (by repeat first | exact .here _ _ | assumption | apply Pick.there))).front3⟩
    · intro hc5
      have hc5d := of_decide_eq_false hc5
      obtain rfl : j = 2 := by omega
      refine c_exit ?_
      refine ite_t rfl ?_
      refine c_seq ?_
      refine c_region ?_
      refine t_call Try.call32 (dnew_calls hS) rfl ?_
      rintro e w ⟨gd, rfl, hS⟩
      refine ⟨_, rfl, ?_⟩
      refine t_q (q_as (.pointer _) rfl) ?_
      refine t_nil ?_
      refine c_seq ?_
      refine c_region ?_
      refine t_q (q_mv (.pointer _) rfl) ?_
      refine t_call Try.call42 (arm_calls (n := 0) hS (by repeat first | exact .here _ _ | assumption | apply Pick.there)) rfl ?_
      rintro e w ⟨rfl, hS⟩
      refine ⟨_, rfl, ?_⟩
      refine t_nil ?_
      refine c_seq ?_
      refine c_region ?_
      refine t_q (q_mv (.pointer _) rfl) ?_
      refine t_call Try.call43 (syn_calls (i := 0) hS (by repeat first | exact .here _ _ | assumption | apply Pick.there) (show DGood { D0 with fuse := 0 } from ⟨DGood.zero.sync, DGood.zero.len, by decide, by decide⟩) (by decide)) rfl ?_
      rintro e w ⟨rfl, hS⟩
      refine ⟨_, rfl, ?_⟩
      refine t_nil ?_
      refine c_seq ?_
      refine c_region ?_
      refine t_q (q_mv (.pointer _) rfl) ?_
      refine t_call Try.call33 (open_gone (n := 0) hS (by repeat first | exact .here _ _ | assumption | apply Pick.there) (by rfl)) rfl ?_
      rintro e w ⟨rfl, hS⟩
      refine ⟨_, rfl, ?_⟩
      refine t_q (q_mv (.tuple _) rfl) ?_
      refine t_q (q_extract rfl rfl) ?_
      refine t_q (q_extract rfl rfl) ?_
      refine t_q (q_as (.pointer _) rfl) ?_
      refine t_q (q_as (.int _ _) rfl) ?_
      refine t_nil ?_
      refine c_seq ?_
      refine c_region ?_
      refine t_call Try.call33 (open_nil (W := w)) rfl ?_
      rintro e w ⟨rfl, hT⟩
      refine ⟨_, rfl, ?_⟩
      replace hS := hS.after hT
      refine t_q (q_mv (.tuple _) rfl) ?_
      refine t_q (q_extract rfl rfl) ?_
      refine t_q (q_extract rfl rfl) ?_
      refine t_q (q_as (.pointer _) rfl) ?_
      refine t_q (q_as (.int _ _) rfl) ?_
      refine t_nil ?_
      refine c_seq ?_
      refine c_region ?_
      refine t_q (q_mv (.pointer _) rfl) ?_
      refine t_q (q_eql_ptr_nil Try.runUnderlying60 rfl rfl) ?_
      refine t_q (q_mv (.bool _) rfl) ?_
      refine t_yes rfl rfl rfl ?_
      refine t_q (q_mv (.int _ _) rfl) ?_
      refine t_yes rfl rfl rfl ?_
      refine t_q (q_cast (v' := .bool true) (q_eql rfl rfl) (by rfl)) ?_
      refine t_q (q_pick_t rfl rfl) ?_
      refine t_q (q_mv (.bool _) rfl) ?_
      refine t_yes rfl rfl rfl ?_
      refine t_q (q_mv (.pointer _) rfl) ?_
      refine t_yes rfl rfl rfl ?_
      refine t_q (q_eql_ptr_nil Try.runUnderlying60 rfl rfl) ?_
      refine t_q (q_pick_t rfl rfl) ?_
      refine t_q (q_mv (.bool _) rfl) ?_
      refine t_yes rfl rfl rfl ?_
      refine t_q (q_mv (.int _ _) rfl) ?_
      refine t_yes rfl rfl rfl ?_
      refine t_q (q_cast (v' := .bool true) (q_eql rfl rfl) (by rfl)) ?_
      refine t_q (q_pick_t rfl rfl) ?_
      refine t_q (q_mv (.bool _) rfl) ?_
      refine t_yes rfl rfl rfl ?_
      refine t_call Try.call26 (alives_calls) rfl ?_
      rintro e w ⟨rfl, hT⟩
      refine ⟨_, rfl, ?_⟩
      replace hS := hS.after hT
      refine t_q (q_pick_t rfl rfl) ?_
      refine t_q (q_as (.bool _) rfl) ?_
      refine t_nil ?_
      refine c_ret ?_
      refine r_one rfl rfl ?_
      exact ⟨rfl, hS.nil⟩
end Go.Proofs.Ytlppgpidakfnlaa
