/- Whether a board is sound. -/
import Derived.Test.YtmgobaojioaioaaYf
import Derived.Test.YtmgobaojioaioaaWx
import Derived.Test.YtmgobaojioaioaaQ
namespace Go.Proofs.Ytmgobaojioaioaa
open Go Go.RowKit Go.Lib
variable {W : World}
def v3 (s : StV) (j : Nat) : Int := ([s.previous, s.pending, s.shadow] : List Int).getD j 0
theorem v3_at {s : StV} {j : Nat} (h : j < 3) : ([.int .i64 s.previous, .int .i64 s.pending, .int .i64 s.shadow] : List Value)[j]? = some (.int .i64 (v3 s j)) := by
  rcases (show j = 0 ∨ j = 1 ∨ j = 2 by omega) with rfl | rfl | rfl <;> rfl
def soundV (M : List RuV) (s : StV) : Bool := decide (((v3 s 0 = 0 ∨ vknownE M (v3 s 0) = 0) ∧ (v3 s 1 = 0 ∨ vknownE M (v3 s 1) = 0) ∧ (v3 s 2 = 0 ∨ vknownE M (v3 s 2) = 0)) ∧ vknownE M s.active = 0 ∧ s.pending ≠ s.active ∧ s.shadow ≠ s.active ∧ (s.at_ = 0 ↔ s.pending = 0))
theorem snd_no {M : List RuV} {s : StV} {j : Nat} (hj : j < 3) (h0 : v3 s j ≠ 0) (h1 : vknownE M (v3 s j) ≠ 0) : soundV M s = false := decide_eq_false fun h => by
  obtain ⟨⟨a0, a1, a2⟩, _⟩ := h
  rcases (show j = 0 ∨ j = 1 ∨ j = 2 by omega) with rfl | rfl | rfl
  · exact a0.elim h0 h1
  · exact a1.elim h0 h1
  · exact a2.elim h0 h1
theorem snd_all {M : List RuV} {s : StV} (h : ∀ i, i < 3 → v3 s i ≠ 0 → vknownE M (v3 s i) = 0) : soundV M s = decide (vknownE M s.active = 0 ∧ s.pending ≠ s.active ∧ s.shadow ≠ s.active ∧ (s.at_ = 0 ↔ s.pending = 0)) := by
  unfold soundV
  rw [decide_eq_decide]
  exact ⟨fun h1 => h1.2, fun h1 => ⟨⟨Decidable.or_iff_not_imp_left.2 (h 0 (by decide)), Decidable.or_iff_not_imp_left.2 (h 1 (by decide)), Decidable.or_iff_not_imp_left.2 (h 2 (by decide))⟩, h1⟩⟩
theorem at_known {Y : List RuV} {v i : Int} (hs : Srt (Y.map nf)) (h : AtP Y v i) : (i < 0 ∧ vknownE (Y.map nf) v = 51) ∨ (0 ≤ i ∧ vknownE (Y.map nf) v = 0) := by
  by_cases hi : i < 0
  · left
    refine ⟨hi, ?_⟩
    unfold vknownE
    rw [at_no h hi]
    rfl
  · right
    obtain ⟨j, _, _, _, hn⟩ := at_yes hs h hi
    refine ⟨by omega, ?_⟩
    unfold vknownE
    rw [hn]
    rfl
theorem evZ_rg : evZ.Rg := by simp [EvE.Rg, evZ]
attribute [local irreducible] blkA rowA rdsA mapA regA
set_option maxHeartbeats 2000000 in
set_option maxRecDepth 100000 in
theorem sound_calls {w : World} {R : List Asn} {g : Nat} {M : List RuV} {ps : List RdP} {s : StV} {n : Int} {a : Nat → Int} (hS : St W w (regA W g M ps :: rdsA ps :: R)) : Calls Try.prog 24 #[.agg (bdc s (some ⟨g, 0, none⟩) n a).toArray] w fun e w' => e = .returned (.bool (soundV M s)) ∧ St W w' (regA W g M ps :: rdsA ps :: R) := by
  refine calls_of_wpE (args := [_]) Try.func24 rfl rfl rfl ?_
  refine c_seq ?_
  refine c_region ?_
  refine t_box (v := (.agg _)) rfl rfl hS (fun g1 w hS => ?_)
  replace hS := hS.recast (show _ = blkA g1 34 [.int .i64 s.active, .int .i64 s.previous, .int .i64 s.pending, .int .u64 s.at_, .int .i64 s.shadow, .pointer (some ⟨g, 0, none⟩), .int .i64 n, .int .u64 (a 0), .int .u64 (a 1), .int .u64 (a 2), .int .u64 (a 3), .int .u64 (a 4), .int .u64 (a 5), .int .u64 (a 6)] from rfl)
  refine t_q (q_assign) ?_
  refine t_nil ?_
  refine c_seq ?_
  refine c_region ?_
  refine t_q (q_fieldAddr 0 Try.runUnderlying34 rfl Try.sizeOf28 (by decide) rfl rfl) ?_
  refine t_q (q_cast (v' := .agg s.cells.toArray) (q_load_sub Try.isAgg28 Try.sizeOf28 rfl (hS.blk (by repeat first | exact .here _ _ | assumption | apply Pick.there)) (by show 0 + 0 + 5 ≤ 14; decide)) (by rfl)) ?_
  refine t_alloc Try.zeroValue28 rfl hS (fun g3 w hS => ?_)
  refine t_store (v := (.agg _)) Try.sizeOf28 hS (by repeat first | exact .here _ _ | assumption | apply Pick.there) rfl rfl rfl rfl rfl rfl (fun w hS => ?_)
  replace hS := hS.recast (congrArg (blkA g3 28) (rset_full (vs := s.cells) rfl))
  replace hS := hS.recast (show _ = blkA g3 28 [.int .i64 s.active, .int .i64 s.previous, .int .i64 s.pending, .int .u64 s.at_, .int .i64 s.shadow] from rfl)
  refine t_nil ?_
  refine c_seq ?_
  refine c_seq ?_
  refine c_region ?_
  refine t_q (q_fieldAddr 1 Try.runUnderlying28 rfl Try.sizeOf3 (by decide) rfl rfl) ?_
  refine t_q (q_load1 Try.isAgg3 rfl (hS.cell (by repeat first | exact .here _ _ | assumption | apply Pick.there) rfl)) ?_
  refine t_q (q_fieldAddr 2 Try.runUnderlying28 rfl Try.sizeOf3 (by decide) rfl rfl) ?_
  refine t_q (q_load1 Try.isAgg3 rfl (hS.cell (by repeat first | exact .here _ _ | assumption | apply Pick.there) rfl)) ?_
  refine t_q (q_fieldAddr 4 Try.runUnderlying28 rfl Try.sizeOf3 (by decide) rfl rfl) ?_
  refine t_q (q_load1 Try.isAgg3 rfl (hS.cell (by repeat first | exact .here _ _ | assumption | apply Pick.there) rfl)) ?_
  refine t_q (q_build_arr [(0, 1), (1, 1), (2, 1)] [(.int _ _), (.int _ _), (.int _ _)] Try.zeroValue142 Try.runUnderlying142 Try.sizeOf3 rfl rfl rfl) ?_
  refine t_q (q_move) ?_
  refine t_nil ?_
  refine c_block ?_
  refine c_loop [2, 5, 15, 16, 17, 18, 19, 20, 21, 22, 23, 24, 25, 26] (fun k σ w => ∃ j : Nat, σ 15 = .int .i64 (j : Int) ∧ j ≤ 3 ∧ 3 - j ≤ k ∧ (∀ i, i < j → v3 s i ≠ 0 → vknownE M (v3 s i) = 0) ∧ St W w (blkA g3 28 [.int .i64 s.active, .int .i64 s.previous, .int .i64 s.pending, .int .u64 s.at_, .int .i64 s.shadow] :: blkA g1 34 [.int .i64 s.active, .int .i64 s.previous, .int .i64 s.pending, .int .u64 s.at_, .int .i64 s.shadow, .pointer (some ⟨g, 0, none⟩), .int .i64 n, .int .u64 (a 0), .int .u64 (a 1), .int .u64 (a 2), .int .u64 (a 3), .int .u64 (a 4), .int .u64 (a 5), .int .u64 (a 6)] :: regA W g M ps :: rdsA ps :: R)) (3) rfl (⟨0, rfl, by omega, by omega, (fun i h => absurd h (by omega)), ((((hS.pick (A := rdsA ps) (by repeat first | exact .here _ _ | assumption | apply Pick.there)).pick (A := regA W g M ps) (by repeat first | exact .here _ _ | assumption | apply Pick.there)).pick (A := blkA g1 34 [.int .i64 s.active, .int .i64 s.previous, .int .i64 s.pending, .int .u64 s.at_, .int .i64 s.shadow, .pointer (some ⟨g, 0, none⟩), .int .i64 n, .int .u64 (a 0), .int .u64 (a 1), .int .u64 (a 2), .int .u64 (a 3), .int .u64 (a 4), .int .u64 (a 5), .int .u64 (a 6)]) (by repeat first | exact .here _ _ | assumption | apply Pick.there)).pick (A := blkA g3 28 [.int .i64 s.active, .int .i64 s.previous, .int .i64 s.pending, .int .u64 s.at_, .int .i64 s.shadow]) (by repeat first | exact .here _ _ | assumption | apply Pick.there))⟩) ?_
  skip
  rintro k σ w ⟨j, h15, hj, hk, hall, hS⟩
  refine c_know 15 h15 ?_
  clear h15
  refine c_seq ?_
  refine c_region ?_
  refine t_q (q_lss rfl rfl) ?_
  refine t_nil ?_
  refine c_seq ?_
  refine c_cond rfl ?_ ?_
  · intro hc2
    have hc2d := of_decide_eq_true hc2
    refine c_skip ?_
    refine c_seq ?_
    refine c_block ?_
    refine c_seq ?_
    refine c_region ?_
    refine t_q (q_index_arr Try.runUnderlying142 Try.sizeOf3 Try.isAgg3 rfl rfl (by omega) (v3_at (by omega))) ?_
    refine t_q (q_as (.int _ _) rfl) ?_
    refine t_nil ?_
    refine c_seq ?_
    refine c_region ?_
    refine t_q (q_mv (.int _ _) rfl) ?_
    refine t_q (q_neq rfl rfl) ?_
    refine t_q (q_mv (.bool _) rfl) ?_
    refine t_case 20 rfl ?_ ?_
    · intro hg4
      have hg4d := of_decide_eq_true hg4
      refine t_yes rfl rfl hg4 ?_
      refine t_q (q_cast (v' := .agg (bdc s (some ⟨g, 0, none⟩) n a).toArray) (q_load_blk Try.isAgg34 Try.sizeOf34 rfl (hS.blk (by repeat first | exact .here _ _ | assumption | apply Pick.there)) rfl) (by rfl)) ?_
      refine t_yes rfl rfl hg4 ?_
      refine t_q (q_mv (.int _ _) rfl) ?_
      refine t_yes rfl rfl hg4 ?_
      refine t_call Try.call79 (known_calls (s := s) (n := n) (a := a) ((hS.pick (A := rdsA ps) (by repeat first | exact .here _ _ | assumption | apply Pick.there)).pick (A := regA W g M ps) (by repeat first | exact .here _ _ | assumption | apply Pick.there))) rfl ?_
      rintro e w ⟨rfl, hS⟩
      refine ⟨_, rfl, ?_⟩
      refine t_yes rfl rfl hg4 ?_
      refine t_q (q_neq rfl rfl) ?_
      refine t_q (q_pick_t rfl hg4) ?_
      refine t_nil ?_
      refine c_cond rfl ?_ ?_
      · intro hc7
        have hc7d := of_decide_eq_true hc7
        have hD := snd_no (M := M) (s := s) (j := j) (by omega) (by omega) (by omega)
        refine c_seq ?_
        refine c_region ?_
        refine t_q (q_assign) ?_
        refine t_nil ?_
        refine c_ret ?_
        refine r_one rfl rfl ?_
        first
          | (rw [hD]
             exact ⟨rfl, ((((hS.pick (A := blkA g3 28 _) (by repeat first | exact .here _ _ | assumption | apply Pick.there)).drop.pick (A := blkA g1 34 [.int .i64 s.active, .int .i64 s.previous, .int .i64 s.pending, .int .u64 s.at_, .int .i64 s.shadow, .pointer (some ⟨g, 0, none⟩), .int .i64 n, .int .u64 (a 0), .int .u64 (a 1), .int .u64 (a 2), .int .u64 (a 3), .int .u64 (a 4), .int .u64 (a 5), .int .u64 (a 6)]) (by repeat first | exact .here _ _ | assumption | apply Pick.there)).drop.pick (A := rdsA _) (by repeat first | exact .here _ _ | assumption | apply Pick.there)).pick (A := regA W g _ _) (by repeat first | exact .here _ _ | assumption | apply Pick.there))⟩)
          | (rw [hE]
             refine ⟨congrArg (fun b => Ending.returned (.bool b)) ?_, ((((hS.pick (A := blkA g3 28 _) (by repeat first | exact .here _ _ | assumption | apply Pick.there)).drop.pick (A := blkA g1 34 [.int .i64 s.active, .int .i64 s.previous, .int .i64 s.pending, .int .u64 s.at_, .int .i64 s.shadow, .pointer (some ⟨g, 0, none⟩), .int .i64 n, .int .u64 (a 0), .int .u64 (a 1), .int .u64 (a 2), .int .u64 (a 3), .int .u64 (a 4), .int .u64 (a 5), .int .u64 (a 6)]) (by repeat first | exact .here _ _ | assumption | apply Pick.there)).drop.pick (A := rdsA _) (by repeat first | exact .here _ _ | assumption | apply Pick.there)).pick (A := regA W g _ _) (by repeat first | exact .here _ _ | assumption | apply Pick.there))⟩
             first
               | exact (decide_eq_false (by omega)).symm
               | (rw [decide_eq_decide]; omega))
      · intro hc7
        have hc7d := of_decide_eq_false hc7
        have hj1 : v3 s j ≠ 0 → vknownE M (v3 s j) = 0 := fun h => by omega
        refine c_skip ?_
        refine c_region ?_
        refine t_q (q_add_i64 rfl rfl (by omega)) ?_
        refine t_q (q_mv (.int _ _) rfl) ?_
        refine t_nil ?_
        exact ⟨k - 1, by omega, j + 1, rfl, by omega, by omega, (fun i hi => by
          rcases Nat.lt_or_ge i j with h | h
          · exact hall i h
          · obtain rfl : i = j := by omega
            exact hj1), ((((hS.pick (A := rdsA ps) (by repeat first | exact .here _ _ | assumption | apply Pick.there)).pick (A := regA W g M ps) (by repeat first | exact .here _ _ | assumption | apply Pick.there)).pick (A := blkA g1 34 [.int .i64 s.active, .int .i64 s.previous, .int .i64 s.pending, .int .u64 s.at_, .int .i64 s.shadow, .pointer (some ⟨g, 0, none⟩), .int .i64 n, .int .u64 (a 0), .int .u64 (a 1), .int .u64 (a 2), .int .u64 (a 3), .int .u64 (a 4), .int .u64 (a 5), .int .u64 (a 6)]) (by repeat first | exact .here _ _ | assumption | apply Pick.there)).pick (A := blkA g3 28 [.int .i64 s.active, .int .i64 s.previous, .int .i64 s.pending, .int .u64 s.at_, .int .i64 s.shadow]) (by repeat first | exact .here _ _ | assumption | apply Pick.there))⟩
    · intro hg4
      have hg4d := of_decide_eq_false hg4
      refine t_no rfl rfl (by rw [hg4]; decide) ?_
      refine t_no rfl rfl (by rw [hg4]; decide) ?_
      refine t_no rfl rfl (by rw [hg4]; decide) ?_
      refine t_no rfl rfl (by rw [hg4]; decide) ?_
      refine t_q (q_pick_f rfl hg4) ?_
      refine t_nil ?_
      refine c_cond_f rfl rfl ?_
      have hj1 : v3 s j ≠ 0 → vknownE M (v3 s j) = 0 := fun h => by omega
      refine c_skip ?_
      refine c_region ?_
      refine t_q (q_add_i64 rfl rfl (by omega)) ?_
      refine t_q (q_mv (.int _ _) rfl) ?_
      refine t_nil ?_
      exact ⟨k - 1, by omega, j + 1, rfl, by omega, by omega, (fun i hi => by
        rcases Nat.lt_or_ge i j with h | h
        · exact hall i h
        · obtain rfl : i = j := by omega
          exact hj1), ((((hS.pick (A := rdsA ps) (by repeat first | exact .here _ _ | assumption | apply Pick.there)).pick (A := regA W g M ps) (by repeat first | exact .here _ _ | assumption | apply Pick.there)).pick (A := blkA g1 34 [.int .i64 s.active, .int .i64 s.previous, .int .i64 s.pending, .int .u64 s.at_, .int .i64 s.shadow, .pointer (some ⟨g, 0, none⟩), .int .i64 n, .int .u64 (a 0), .int .u64 (a 1), .int .u64 (a 2), .int .u64 (a 3), .int .u64 (a 4), .int .u64 (a 5), .int .u64 (a 6)]) (by repeat first | exact .here _ _ | assumption | apply Pick.there)).pick (A := blkA g3 28 [.int .i64 s.active, .int .i64 s.previous, .int .i64 s.pending, .int .u64 s.at_, .int .i64 s.shadow]) (by repeat first | exact .here _ _ | assumption | apply Pick.there))⟩
  · intro hc2
    have hc2d := of_decide_eq_false hc2
    have hE := snd_all (M := M) (s := s) fun i hi => hall i (by omega)
    refine c_exit ?_
    refine ite_t rfl ?_
    refine c_seq ?_
    refine c_region ?_
    refine t_q (q_cast (v' := .agg (bdc s (some ⟨g, 0, none⟩) n a).toArray) (q_load_blk Try.isAgg34 Try.sizeOf34 rfl (hS.blk (by repeat first | exact .here _ _ | assumption | apply Pick.there)) rfl) (by rfl)) ?_
    refine t_q (q_fieldAddr 0 Try.runUnderlying28 rfl Try.sizeOf3 (by decide) rfl rfl) ?_
    refine t_q (q_load1 Try.isAgg3 rfl (hS.cell (by repeat first | exact .here _ _ | assumption | apply Pick.there) rfl)) ?_
    refine t_call Try.call79 (known_calls (s := s) (n := n) (a := a) ((hS.pick (A := rdsA ps) (by repeat first | exact .here _ _ | assumption | apply Pick.there)).pick (A := regA W g M ps) (by repeat first | exact .here _ _ | assumption | apply Pick.there))) rfl ?_
    rintro e w ⟨rfl, hS⟩
    refine ⟨_, rfl, ?_⟩
    refine t_q (q_eql rfl rfl) ?_
    refine t_q (q_mv (.bool _) rfl) ?_
    refine t_case 32 rfl ?_ ?_
    · intro hg10
      have hg10d := of_decide_eq_true hg10
      refine t_yes rfl rfl hg10 ?_
      refine t_q (q_fieldAddr 2 Try.runUnderlying28 rfl Try.sizeOf3 (by decide) rfl rfl) ?_
      refine t_yes rfl rfl hg10 ?_
      refine t_q (q_load1 Try.isAgg3 rfl (hS.cell (by repeat first | exact .here _ _ | assumption | apply Pick.there) rfl)) ?_
      refine t_yes rfl rfl hg10 ?_
      refine t_q (q_fieldAddr 0 Try.runUnderlying28 rfl Try.sizeOf3 (by decide) rfl rfl) ?_
      refine t_yes rfl rfl hg10 ?_
      refine t_q (q_load1 Try.isAgg3 rfl (hS.cell (by repeat first | exact .here _ _ | assumption | apply Pick.there) rfl)) ?_
      refine t_yes rfl rfl hg10 ?_
      refine t_q (q_neq rfl rfl) ?_
      refine t_q (q_pick_t rfl hg10) ?_
      refine t_q (q_mv (.bool _) rfl) ?_
      refine t_case 39 rfl ?_ ?_
      · intro hg12
        have hg12d := of_decide_eq_true hg12
        refine t_yes rfl rfl hg12 ?_
        refine t_q (q_fieldAddr 4 Try.runUnderlying28 rfl Try.sizeOf3 (by decide) rfl rfl) ?_
        refine t_yes rfl rfl hg12 ?_
        refine t_q (q_load1 Try.isAgg3 rfl (hS.cell (by repeat first | exact .here _ _ | assumption | apply Pick.there) rfl)) ?_
        refine t_yes rfl rfl hg12 ?_
        refine t_q (q_fieldAddr 0 Try.runUnderlying28 rfl Try.sizeOf3 (by decide) rfl rfl) ?_
        refine t_yes rfl rfl hg12 ?_
        refine t_q (q_load1 Try.isAgg3 rfl (hS.cell (by repeat first | exact .here _ _ | assumption | apply Pick.there) rfl)) ?_
        refine t_yes rfl rfl hg12 ?_
        refine t_q (q_neq rfl rfl) ?_
        refine t_q (q_pick_t rfl hg12) ?_
        refine t_q (q_mv (.bool _) rfl) ?_
        refine t_case 46 rfl ?_ ?_
        · intro hg14
          have hg14d := of_decide_eq_true hg14
          refine t_yes rfl rfl hg14 ?_
          refine t_q (q_fieldAddr 3 Try.runUnderlying28 rfl Try.sizeOf26 (by decide) rfl rfl) ?_
          refine t_yes rfl rfl hg14 ?_
          refine t_q (q_load1 Try.isAgg26 rfl (hS.cell (by repeat first | exact .here _ _ | assumption | apply Pick.there) rfl)) ?_
          refine t_yes rfl rfl hg14 ?_
          refine t_q (q_eql rfl rfl) ?_
          refine t_yes rfl rfl hg14 ?_
          refine t_q (q_fieldAddr 2 Try.runUnderlying28 rfl Try.sizeOf3 (by decide) rfl rfl) ?_
          refine t_yes rfl rfl hg14 ?_
          refine t_q (q_load1 Try.isAgg3 rfl (hS.cell (by repeat first | exact .here _ _ | assumption | apply Pick.there) rfl)) ?_
          refine t_yes rfl rfl hg14 ?_
          refine t_q (q_eql rfl rfl) ?_
          refine t_yes rfl rfl hg14 ?_
          refine t_q (q_cast (v' := .bool (decide (s.at_ = 0 ↔ s.pending = 0))) (q_eql_bool Try.runUnderlying4 rfl rfl) (by by_cases h1 : s.at_ = 0 <;> by_cases h2 : s.pending = 0 <;> simp [h1, h2])) ?_
          refine t_q (q_pick_t rfl hg14) ?_
          refine t_q (q_as (.bool _) rfl) ?_
          refine t_nil ?_
          refine c_ret ?_
          refine r_one rfl rfl ?_
          first
            | (rw [hD]
               exact ⟨rfl, ((((hS.pick (A := blkA g3 28 _) (by repeat first | exact .here _ _ | assumption | apply Pick.there)).drop.pick (A := blkA g1 34 [.int .i64 s.active, .int .i64 s.previous, .int .i64 s.pending, .int .u64 s.at_, .int .i64 s.shadow, .pointer (some ⟨g, 0, none⟩), .int .i64 n, .int .u64 (a 0), .int .u64 (a 1), .int .u64 (a 2), .int .u64 (a 3), .int .u64 (a 4), .int .u64 (a 5), .int .u64 (a 6)]) (by repeat first | exact .here _ _ | assumption | apply Pick.there)).drop.pick (A := rdsA _) (by repeat first | exact .here _ _ | assumption | apply Pick.there)).pick (A := regA W g _ _) (by repeat first | exact .here _ _ | assumption | apply Pick.there))⟩)
            | (rw [hE]
               refine ⟨congrArg (fun b => Ending.returned (.bool b)) ?_, ((((hS.pick (A := blkA g3 28 _) (by repeat first | exact .here _ _ | assumption | apply Pick.there)).drop.pick (A := blkA g1 34 [.int .i64 s.active, .int .i64 s.previous, .int .i64 s.pending, .int .u64 s.at_, .int .i64 s.shadow, .pointer (some ⟨g, 0, none⟩), .int .i64 n, .int .u64 (a 0), .int .u64 (a 1), .int .u64 (a 2), .int .u64 (a 3), .int .u64 (a 4), .int .u64 (a 5), .int .u64 (a 6)]) (by repeat first | exact .here _ _ | assumption | apply Pick.there)).drop.pick (A := rdsA _) (by repeat first | exact .here _ _ | assumption | apply Pick.there)).pick (A := regA W g _ _) (by repeat first | exact .here _ _ | assumption | apply Pick.there))⟩
               first
                 | exact (decide_eq_false (by omega)).symm
                 | (rw [decide_eq_decide]; omega))
        · intro hg14
          have hg14d := of_decide_eq_false hg14
          refine t_no rfl rfl (by rw [hg14]; decide) ?_
          refine t_no rfl rfl (by rw [hg14]; decide) ?_
          refine t_no rfl rfl (by rw [hg14]; decide) ?_
          refine t_no rfl rfl (by rw [hg14]; decide) ?_
          refine t_no rfl rfl (by rw [hg14]; decide) ?_
          refine t_no rfl rfl (by rw [hg14]; decide) ?_
          refine t_no rfl rfl (by rw [hg14]; decide) ?_
          refine t_q (q_pick_f rfl hg14) ?_
          refine t_q (q_as (.bool _) rfl) ?_
          refine t_nil ?_
          refine c_ret ?_
          refine r_one rfl rfl ?_
          first
            | (rw [hD]
               exact ⟨rfl, ((((hS.pick (A := blkA g3 28 _) (by repeat first | exact .here _ _ | assumption | apply Pick.there)).drop.pick (A := blkA g1 34 [.int .i64 s.active, .int .i64 s.previous, .int .i64 s.pending, .int .u64 s.at_, .int .i64 s.shadow, .pointer (some ⟨g, 0, none⟩), .int .i64 n, .int .u64 (a 0), .int .u64 (a 1), .int .u64 (a 2), .int .u64 (a 3), .int .u64 (a 4), .int .u64 (a 5), .int .u64 (a 6)]) (by repeat first | exact .here _ _ | assumption | apply Pick.there)).drop.pick (A := rdsA _) (by repeat first | exact .here _ _ | assumption | apply Pick.there)).pick (A := regA W g _ _) (by repeat first | exact .here _ _ | assumption | apply Pick.there))⟩)
            | (rw [hE]
               refine ⟨congrArg (fun b => Ending.returned (.bool b)) ?_, ((((hS.pick (A := blkA g3 28 _) (by repeat first | exact .here _ _ | assumption | apply Pick.there)).drop.pick (A := blkA g1 34 [.int .i64 s.active, .int .i64 s.previous, .int .i64 s.pending, .int .u64 s.at_, .int .i64 s.shadow, .pointer (some ⟨g, 0, none⟩), .int .i64 n, .int .u64 (a 0), .int .u64 (a 1), .int .u64 (a 2), .int .u64 (a 3), .int .u64 (a 4), .int .u64 (a 5), .int .u64 (a 6)]) (by repeat first | exact .here _ _ | assumption | apply Pick.there)).drop.pick (A := rdsA _) (by repeat first | exact .here _ _ | assumption | apply Pick.there)).pick (A := regA W g _ _) (by repeat first | exact .here _ _ | assumption | apply Pick.there))⟩
               first
                 | exact (decide_eq_false (by omega)).symm
                 | (rw [decide_eq_decide]; omega))
      · intro hg12
        have hg12d := of_decide_eq_false hg12
        refine t_no rfl rfl (by rw [hg12]; decide) ?_
        refine t_no rfl rfl (by rw [hg12]; decide) ?_
        refine t_no rfl rfl (by rw [hg12]; decide) ?_
        refine t_no rfl rfl (by rw [hg12]; decide) ?_
        refine t_no rfl rfl (by rw [hg12]; decide) ?_
        refine t_q (q_pick_f rfl hg12) ?_
        refine t_q (q_mv (.bool _) rfl) ?_
        refine t_no rfl rfl (by decide) ?_
        refine t_no rfl rfl (by decide) ?_
        refine t_no rfl rfl (by decide) ?_
        refine t_no rfl rfl (by decide) ?_
        refine t_no rfl rfl (by decide) ?_
        refine t_no rfl rfl (by decide) ?_
        refine t_no rfl rfl (by decide) ?_
        refine t_q (q_pick_f rfl rfl) ?_
        refine t_q (q_as (.bool _) rfl) ?_
        refine t_nil ?_
        refine c_ret ?_
        refine r_one rfl rfl ?_
        first
          | (rw [hD]
             exact ⟨rfl, ((((hS.pick (A := blkA g3 28 _) (by repeat first | exact .here _ _ | assumption | apply Pick.there)).drop.pick (A := blkA g1 34 [.int .i64 s.active, .int .i64 s.previous, .int .i64 s.pending, .int .u64 s.at_, .int .i64 s.shadow, .pointer (some ⟨g, 0, none⟩), .int .i64 n, .int .u64 (a 0), .int .u64 (a 1), .int .u64 (a 2), .int .u64 (a 3), .int .u64 (a 4), .int .u64 (a 5), .int .u64 (a 6)]) (by repeat first | exact .here _ _ | assumption | apply Pick.there)).drop.pick (A := rdsA _) (by repeat first | exact .here _ _ | assumption | apply Pick.there)).pick (A := regA W g _ _) (by repeat first | exact .here _ _ | assumption | apply Pick.there))⟩)
          | (rw [hE]
             refine ⟨congrArg (fun b => Ending.returned (.bool b)) ?_, ((((hS.pick (A := blkA g3 28 _) (by repeat first | exact .here _ _ | assumption | apply Pick.there)).drop.pick (A := blkA g1 34 [.int .i64 s.active, .int .i64 s.previous, .int .i64 s.pending, .int .u64 s.at_, .int .i64 s.shadow, .pointer (some ⟨g, 0, none⟩), .int .i64 n, .int .u64 (a 0), .int .u64 (a 1), .int .u64 (a 2), .int .u64 (a 3), .int .u64 (a 4), .int .u64 (a 5), .int .u64 (a 6)]) (by repeat first | exact .here _ _ | assumption | apply Pick.there)).drop.pick (A := rdsA _) (by repeat first | exact .here _ _ | assumption | apply Pick.there)).pick (A := regA W g _ _) (by repeat first | exact .here _ _ | assumption | apply Pick.there))⟩
             first
               | exact (decide_eq_false (by omega)).symm
               | (rw [decide_eq_decide]; omega))
    · intro hg10
      have hg10d := of_decide_eq_false hg10
      refine t_no rfl rfl (by rw [hg10]; decide) ?_
      refine t_no rfl rfl (by rw [hg10]; decide) ?_
      refine t_no rfl rfl (by rw [hg10]; decide) ?_
      refine t_no rfl rfl (by rw [hg10]; decide) ?_
      refine t_no rfl rfl (by rw [hg10]; decide) ?_
      refine t_q (q_pick_f rfl hg10) ?_
      refine t_q (q_mv (.bool _) rfl) ?_
      refine t_no rfl rfl (by decide) ?_
      refine t_no rfl rfl (by decide) ?_
      refine t_no rfl rfl (by decide) ?_
      refine t_no rfl rfl (by decide) ?_
      refine t_no rfl rfl (by decide) ?_
      refine t_q (q_pick_f rfl rfl) ?_
      refine t_q (q_mv (.bool _) rfl) ?_
      refine t_no rfl rfl (by decide) ?_
      refine t_no rfl rfl (by decide) ?_
      refine t_no rfl rfl (by decide) ?_
      refine t_no rfl rfl (by decide) ?_
      refine t_no rfl rfl (by decide) ?_
      refine t_no rfl rfl (by decide) ?_
      refine t_no rfl rfl (by decide) ?_
      refine t_q (q_pick_f rfl rfl) ?_
      refine t_q (q_as (.bool _) rfl) ?_
      refine t_nil ?_
      refine c_ret ?_
      refine r_one rfl rfl ?_
      first
        | (rw [hD]
           exact ⟨rfl, ((((hS.pick (A := blkA g3 28 _) (by repeat first | exact .here _ _ | assumption | apply Pick.there)).drop.pick (A := blkA g1 34 [.int .i64 s.active, .int .i64 s.previous, .int .i64 s.pending, .int .u64 s.at_, .int .i64 s.shadow, .pointer (some ⟨g, 0, none⟩), .int .i64 n, .int .u64 (a 0), .int .u64 (a 1), .int .u64 (a 2), .int .u64 (a 3), .int .u64 (a 4), .int .u64 (a 5), .int .u64 (a 6)]) (by repeat first | exact .here _ _ | assumption | apply Pick.there)).drop.pick (A := rdsA _) (by repeat first | exact .here _ _ | assumption | apply Pick.there)).pick (A := regA W g _ _) (by repeat first | exact .here _ _ | assumption | apply Pick.there))⟩)
        | (rw [hE]
           refine ⟨congrArg (fun b => Ending.returned (.bool b)) ?_, ((((hS.pick (A := blkA g3 28 _) (by repeat first | exact .here _ _ | assumption | apply Pick.there)).drop.pick (A := blkA g1 34 [.int .i64 s.active, .int .i64 s.previous, .int .i64 s.pending, .int .u64 s.at_, .int .i64 s.shadow, .pointer (some ⟨g, 0, none⟩), .int .i64 n, .int .u64 (a 0), .int .u64 (a 1), .int .u64 (a 2), .int .u64 (a 3), .int .u64 (a 4), .int .u64 (a 5), .int .u64 (a 6)]) (by repeat first | exact .here _ _ | assumption | apply Pick.there)).drop.pick (A := rdsA _) (by repeat first | exact .here _ _ | assumption | apply Pick.there)).pick (A := regA W g _ _) (by repeat first | exact .here _ _ | assumption | apply Pick.there))⟩
           first
             | exact (decide_eq_false (by omega)).symm
             | (rw [decide_eq_decide]; omega))
end Go.Proofs.Ytmgobaojioaioaa
