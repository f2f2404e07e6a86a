/- Whether a board is sound. -/
import Derived.Test.YtmgobaojioaioaaYf
import Derived.Test.YtmgobaojioaioaaWx
import Derived.Test.YtmgobaojioaioaaQ
namespace Go.Proofs.Ytmgobaojioaioaa
open Go Go.RowKit Go.Lib
variable {W : World}
def v3 (s : StV) (j : Nat) : Int := ([s.previous, s.pending, s.shadow] : List Int).getD j 0
theorem v3_at {s : StV} {j : Nat} (h : j < 3) : ([.int .i64 s.previous, .int .i64 s.pending, .int .i64 s.shadow] : List Value)[j]? = some (.int .i64 (v3 s j)) := by
  rcases (show j = 0 ∨ j = 1 ∨ j = 2 by omega) with rfl | rfl | rfl <;> rfl
def soundV (M : List RuV) (s : StV) : Bool := decide (((v3 s 0 = 0 ∨ vknownE M (v3 s 0) = 0) ∧ (v3 s 1 = 0 ∨ vknownE M (v3 s 1) = 0) ∧ (v3 s 2 = 0 ∨ vknownE M (v3 s 2) = 0)) ∧ vknownE M s.active = 0 ∧ s.pending ≠ s.active ∧ s.shadow ≠ s.active ∧ (s.at_ = 0 ↔ s.pending = 0))
theorem snd_no {M : List RuV} {s : StV} {j : Nat} (hj : j < 3) (h0 : v3 s j ≠ 0) (h1 : vknownE M (v3 s j) ≠ 0) : soundV M s = false := decide_eq_false fun h => by
  obtain ⟨⟨a0, a1, a2⟩, _⟩ := h
  rcases (show j = 0 ∨ j = 1 ∨ j = 2 by omega) with rfl | rfl | rfl
  · exact a0.elim h0 h1
  · exact a1.elim h0 h1
  · exact a2.elim h0 h1
theorem snd_all {M : List RuV} {s : StV} (h : ∀ i, i < 3 → v3 s i ≠ 0 → vknownE M (v3 s i) = 0) : soundV M s = decide (vknownE M s.active = 0 ∧ s.pending ≠ s.active ∧ s.shadow ≠ s.active ∧ (s.at_ = 0 ↔ s.pending = 0)) := by
  unfold soundV
  rw [decide_eq_decide]
  exact ⟨fun h1 => h1.2, fun h1 => ⟨⟨Decidable.or_iff_not_imp_left.2 (h 0 (by decide)), Decidable.or_iff_not_imp_left.2 (h 1 (by decide)), Decidable.or_iff_not_imp_left.2 (h 2 (by decide))⟩, h1⟩⟩
theorem at_known {Y : List RuV} {v i : Int} (hs : Srt (Y.map nf)) (h : AtP Y v i) : (i < 0 ∧ vknownE (Y.map nf) v = 51) ∨ (0 ≤ i ∧ vknownE (Y.map nf) v = 0) := by
  by_cases hi : i < 0
  · left
    refine ⟨hi, ?_⟩
    unfold vknownE
    rw [at_no h hi]
    rfl
  · right
    obtain ⟨j, _, _, _, hn⟩ := at_yes hs h hi
    refine ⟨by omega, ?_⟩
    unfold vknownE
    rw [hn]
    rfl
theorem tcs_lits6 {n : Int} {s : Nat → Int} (hn : -9223372036854775808 ≤ n ∧ n ≤ 9223372036854775807) (hs : Sb s) : Try.prog.keyLits 3 32 (tcs n s) = some (Lit.int .i64 n :: (sl s).map (Lit.int .u64)) := by
  have h2 : Try.prog.keyLits 2 30 ((sl s).map (Value.int .u64)) = some ((sl s).map (Lit.int .u64)) := keyLits_ints Try.underlying30 Try.underlying26 (by kernel_rfl) (by kernel_rfl) rfl (sl_wf hs)
  have h1 : Try.prog.keyLits 2 3 [.int .i64 n] = some [.int .i64 n] := keyLits_int1 Try.underlying3 (wf_i hn)
  have c3 : Try.prog.cellsOf 3 = 1 := by kernel_rfl
  have c25 : Try.prog.cellsOf 30 = 7 := by kernel_rfl
  have c27 : Try.prog.cellsOf 32 = 8 := by kernel_rfl
  show Try.prog.keyLits (2 + 1) 32 _ = _
  unfold Program.keyLits
  simp only [Try.underlying32]
  rw [if_pos ⟨by rw [c27]; rfl, by simp⟩]
  simp only [List.mapM_cons, List.mapM_nil, c3, c25]
  have e1 : ((tcs n s).drop 0).take 1 = [.int .i64 n] := rfl
  have e2 : ((tcs n s).drop 1).take 7 = (sl s).map (Value.int .u64) := rfl
  rw [e1, e2, h1, h2]
  rfl
theorem tcs_formed6 {n : Int} {s : Nat → Int} : Value.formed Try.prog 32 (.agg (tcs n s).toArray) = true := by
  have c27 : Try.prog.cellsOf 32 = 8 := by kernel_rfl
  simp [Value.formed, Try.underlying32, c27, tcs]
theorem evZ_rg : evZ.Rg := by simp [EvE.Rg, evZ]
set_option maxRecDepth 100000 in
theorem run_bd0 {w : World} {e : StV} (he : e.Rg) {n : Int} {a : Nat → Int} (hn : -9223372036854775808 ≤ n ∧ n ≤ 9223372036854775807) (hs : Sb a) : (Op.equal 34 (.agg (bdc e none n a).toArray) (.agg (bdc e none n a).toArray)).run Try.prog w = .ok true w := by
  have hS : Try.prog.underlying 34 = some (.struct (Try.prog.fieldsOf 34)) := by kernel_rfl
  have hp : Try.prog.stoodInHeld 34 = false := by kernel_rfl
  show (Op.equalIn (9999 + 1) 34 _ _).run Try.prog w = _
  rw [run_equalIn_struct w 9999 34 _ _ hS hp]
  have p1 : (part 28 (bdc e none n a).toArray 0).run Try.prog w = .ok (.agg e.cells.toArray) w := by simp [part, Try.isAgg28, Try.sizeOf28, bdc, StV.cells]
  have p2 : (part 29 (bdc e none n a).toArray 5).run Try.prog w = .ok (.pointer none) w := by simp [part, Try.isAgg29, Try.sizeOf29, bdc, StV.cells]
  have p3 : (part 32 (bdc e none n a).toArray 6).run Try.prog w = .ok (.agg (tcs n a).toArray) w := by simp [part, Try.isAgg32, Try.sizeOf32, bdc, StV.cells, tcs]
  have e1 : (Op.equalIn 9999 28 (.agg e.cells.toArray) (.agg e.cells.toArray)).run Try.prog w = .ok true w := by
    obtain ⟨r, hr, hiff⟩ := run_equalIn_deep 9997 2 28 (by kernel_rfl) w 2 2 (.agg e.cells.toArray) (.agg e.cells.toArray) _ _ sv_formed sv_formed (by simpa [Value.cells] using sv_lits he) (by simpa [Value.cells] using sv_lits he)
    rw [hiff.2 rfl] at hr
    exact hr
  have e2 : (Op.equalIn 9999 29 (.pointer none) (.pointer none)).run Try.prog w = .ok true w := by
    have h : ∀ d, (Op.equalIn (d + 1) 29 (.pointer none) (.pointer none)).run Try.prog w = .ok true w := fun d => by simp [Op.equalIn, run_underlying Try.underlying29]
    exact h 9998
  have e3 : (Op.equalIn 9999 32 (.agg (tcs n a).toArray) (.agg (tcs n a).toArray)).run Try.prog w = .ok true w := by
    obtain ⟨r, hr, hiff⟩ := run_equalIn_deep 9996 3 32 (by kernel_rfl) w 3 3 (.agg (tcs n a).toArray) (.agg (tcs n a).toArray) _ _ tcs_formed6 tcs_formed6 (by simpa [Value.cells] using tcs_lits6 hn hs) (by simpa [Value.cells] using tcs_lits6 hn hs)
    rw [hiff.2 rfl] at hr
    exact hr
  generalize 9999 = d at e1 e2 e3 ⊢
  simp only [Program.fieldsOf, Try.underlying34]
  simp [Op.eqFields, p1, p2, p3, e1, e2, e3]
theorem q_eql_bd0 {ρ : Env} {w : World} {ty yt : TypeId} {x y : Operand} {e : StV} {n : Int} {a : Nat → Int} (hx : ev ρ x = .agg (bdc e none n a).toArray) (hy : ev ρ y = .agg (bdc e none n a).toArray) (he : e.Rg) (hn : -9223372036854775808 ≤ n ∧ n ≤ 9223372036854775807) (hs : Sb a) : qv Try.prog (.binOp .eql 34 x y yt) ty ρ w (.bool true) :=
  q_eql_of hx hy (by simp [eqGuard, run_program, (by kernel_rfl : Try.prog.eqGuardType Try.prog.depth 34 = false)]) rfl (run_bd0 he hn hs)
attribute [local irreducible] blkA rowA rdsA mapA regA
set_option maxHeartbeats 2000000 in
set_option maxRecDepth 100000 in
theorem sound_calls {w : World} {R : List Asn} {g : Nat} {M : List RuV} {ps : List RdP} {s : StV} {n : Int} {a : Nat → Int} (hS : St W w (regA W g M ps :: rdsA ps :: R)) : Calls Try.prog 24 #[.agg (bdc s (some ⟨g, 0, none⟩) n a).toArray] w fun e w' => e = .returned (.bool (soundV M s)) ∧ St W w' (regA W g M ps :: rdsA ps :: R) := by
  refine calls_of_wpE (args := [_]) Try.func24 rfl rfl rfl ?_
  refine c_seq ?_
  refine c_region ?_
  refine t_box (v := (.agg _)) rfl rfl hS (fun g1 w hS => ?_)
  replace hS := hS.recast (show _ = blkA g1 34 [.int .i64 s.active, .int .i64 s.previous, .int .i64 s.pending, .int .u64 s.at_, .int .i64 s.shadow, .pointer (some ⟨g, 0, none⟩), .int .i64 n, .int .u64 (a 0), .int .u64 (a 1), .int .u64 (a 2), .int .u64 (a 3), .int .u64 (a 4), .int .u64 (a 5), .int .u64 (a 6)] from rfl)
  refine t_q (q_assign) ?_
  refine t_nil ?_
  refine c_seq ?_
  refine c_region ?_
  refine t_q (q_fieldAddr 0 Try.runUnderlying34 rfl Try.sizeOf28 (by decide) rfl rfl) ?_
  refine t_q (q_cast (v' := .agg s.cells.toArray) (q_load_sub Try.isAgg28 Try.sizeOf28 rfl (hS.blk (by repeat first | exact .here _ _ | assumption | apply Pick.there)) (by show 0 + 0 + 5 ≤ 14; decide)) (by rfl)) ?_
  refine t_alloc Try.zeroValue28 rfl hS (fun g3 w hS => ?_)
  refine t_store (v := (.agg _)) Try.sizeOf28 hS (by repeat first | exact .here _ _ | assumption | apply Pick.there) rfl rfl rfl rfl rfl rfl (fun w hS => ?_)
  replace hS := hS.recast (congrArg (blkA g3 28) (rset_full (vs := s.cells) rfl))
  replace hS := hS.recast (show _ = blkA g3 28 [.int .i64 s.active, .int .i64 s.previous, .int .i64 s.pending, .int .u64 s.at_, .int .i64 s.shadow] from rfl)
  refine t_nil ?_
  refine c_seq ?_
  refine c_seq ?_
  refine c_region ?_
  refine t_q (q_fieldAddr 1 Try.runUnderlying28 rfl Try.sizeOf3 (by decide) rfl rfl) ?_
  refine t_q (q_load1 Try.isAgg3 rfl (hS.cell (by repeat first | exact .here _ _ | assumption | apply Pick.there) rfl)) ?_
  refine t_q (q_fieldAddr 2 Try.runUnderlying28 rfl Try.sizeOf3 (by decide) rfl rfl) ?_
  refine t_q (q_load1 Try.isAgg3 rfl (hS.cell (by repeat first | exact .here _ _ | assumption | apply Pick.there) rfl)) ?_
  refine t_q (q_fieldAddr 4 Try.runUnderlying28 rfl Try.sizeOf3 (by decide) rfl rfl) ?_
  refine t_q (q_load1 Try.isAgg3 rfl (hS.cell (by repeat first | exact .here _ _ | assumption | apply Pick.there) rfl)) ?_
  refine t_q (q_build_arr [(0, 1), (1, 1), (2, 1)] [(.int _ _), (.int _ _), (.int _ _)] Try.zeroValue142 Try.runUnderlying142 Try.sizeOf3 rfl rfl rfl) ?_
  refine t_q (q_move) ?_
  refine t_nil ?_
  refine c_block ?_
  refine c_loop [2, 5, 15, 16, 17, 18, 19, 20, 21, 22, 23, 24, 25, 26] (fun k σ w => ∃ j : Nat, σ 15 = .int .i64 (j : Int) ∧ j ≤ 3 ∧ 3 - j ≤ k ∧ (∀ i, i < j → v3 s i ≠ 0 → vknownE M (v3 s i) = 0) ∧ St W w (blkA g3 28 [.int .i64 s.active, .int .i64 s.previous, .int .i64 s.pending, .int .u64 s.at_, .int .i64 s.shadow] :: blkA g1 34 [.int .i64 s.active, .int .i64 s.previous, .int .i64 s.pending, .int .u64 s.at_, .int .i64 s.shadow, .pointer (some ⟨g, 0, none⟩), .int .i64 n, .int .u64 (a 0), .int .u64 (a 1), .int .u64 (a 2), .int .u64 (a 3), .int .u64 (a 4), .int .u64 (a 5), .int .u64 (a 6)] :: regA W g M ps :: rdsA ps :: R)) (3) rfl (⟨0, rfl, by omega, by omega, (fun i h => absurd h (by omega)), ((((hS.pick (A := rdsA ps) (by repeat first | exact .here _ _ | assumption | apply Pick.there)).pick (A := regA W g M ps) (by repeat first | exact .here _ _ | assumption | apply Pick.there)).pick (A := blkA g1 34 [.int .i64 s.active, .int .i64 s.previous, .int .i64 s.pending, .int .u64 s.at_, .int .i64 s.shadow, .pointer (some ⟨g, 0, none⟩), .int .i64 n, .int .u64 (a 0), .int .u64 (a 1), .int .u64 (a 2), .int .u64 (a 3), .int .u64 (a 4), .int .u64 (a 5), .int .u64 (a 6)]) (by repeat first | exact .here _ _ | assumption | apply Pick.there)).pick (A := blkA g3 28 [.int .i64 s.active, .int .i64 s.previous, .int .i64 s.pending, .int .u64 s.at_, .int .i64 s.shadow]) (by repeat first | exact .here _ _ | assumption | apply Pick.there))⟩) ?_
  skip
  rintro k σ w ⟨j, h15, hj, hk, hall, hS⟩
  refine c_know 15 h15 ?_
  clear h15
  refine c_seq ?_
  refine c_region ?_
  refine t_q (q_lss rfl rfl) ?_
  refine t_nil ?_
  refine c_seq ?_
  refine c_cond rfl ?_ ?_
  · intro hc2
    have hc2d := of_decide_eq_true hc2
    refine c_skip ?_
    refine c_seq ?_
    refine c_block ?_
    refine c_seq ?_
    refine c_region ?_
    refine t_q (q_index_arr Try.runUnderlying142 Try.sizeOf3 Try.isAgg3 rfl rfl (by omega) (v3_at (by omega))) ?_
    refine t_q (q_as (.int _ _) rfl) ?_
    refine t_nil ?_
    refine c_seq ?_
    refine c_region ?_
    refine t_q (q_mv (.int _ _) rfl) ?_
    refine t_q (q_neq rfl rfl) ?_
    refine t_q (q_mv (.bool _) rfl) ?_
    refine t_case 20 rfl ?_ ?_
    · intro hg4
      have hg4d := of_decide_eq_true hg4
      refine t_yes rfl rfl hg4 ?_
      refine t_q (q_cast (v' := .agg (bdc s (some ⟨g, 0, none⟩) n a).toArray) (q_load_blk Try.isAgg34 Try.sizeOf34 rfl (hS.blk (by repeat first | exact .here _ _ | assumption | apply Pick.there)) rfl) (by rfl)) ?_
      refine t_yes rfl rfl hg4 ?_
      refine t_q (q_mv (.int _ _) rfl) ?_
      refine t_yes rfl rfl hg4 ?_
      refine t_call Try.call79 (known_calls (s := s) (n := n) (a := a) ((hS.pick (A := rdsA ps) (by repeat first | exact .here _ _ | assumption | apply Pick.there)).pick (A := regA W g M ps) (by repeat first | exact .here _ _ | assumption | apply Pick.there))) rfl ?_
      rintro e w ⟨rfl, hS⟩
      refine ⟨_, rfl, ?_⟩
      refine t_yes rfl rfl hg4 ?_
      refine t_q (q_neq rfl rfl) ?_
      refine t_q (q_pick_t rfl hg4) ?_
      refine t_nil ?_
      refine c_cond rfl ?_ ?_
      · intro hc7
        have hc7d := of_decide_eq_true hc7
        have hD := snd_no (M := M) (s := s) (j := j) (by omega) (by omega) (by omega)
        refine c_seq ?_
        refine c_region ?_
        refine t_q (q_assign) ?_
        refine t_nil ?_
        refine c_ret ?_
        refine r_one rfl rfl ?_
        first
          | (rw [hD]
             exact ⟨rfl, ((((hS.pick (A := blkA g3 28 _) (by repeat first | exact .here _ _ | assumption | apply Pick.there)).drop.pick (A := blkA g1 34 [.int .i64 s.active, .int .i64 s.previous, .int .i64 s.pending, .int .u64 s.at_, .int .i64 s.shadow, .pointer (some ⟨g, 0, none⟩), .int .i64 n, .int .u64 (a 0), .int .u64 (a 1), .int .u64 (a 2), .int .u64 (a 3), .int .u64 (a 4), .int .u64 (a 5), .int .u64 (a 6)]) (by repeat first | exact .here _ _ | assumption | apply Pick.there)).drop.pick (A := rdsA _) (by repeat first | exact .here _ _ | assumption | apply Pick.there)).pick (A := regA W g _ _) (by repeat first | exact .here _ _ | assumption | apply Pick.there))⟩)
          | (rw [hE]
             refine ⟨congrArg (fun b => Ending.returned (.bool b)) ?_, ((((hS.pick (A := blkA g3 28 _) (by repeat first | exact .here _ _ | assumption | apply Pick.there)).drop.pick (A := blkA g1 34 [.int .i64 s.active, .int .i64 s.previous, .int .i64 s.pending, .int .u64 s.at_, .int .i64 s.shadow, .pointer (some ⟨g, 0, none⟩), .int .i64 n, .int .u64 (a 0), .int .u64 (a 1), .int .u64 (a 2), .int .u64 (a 3), .int .u64 (a 4), .int .u64 (a 5), .int .u64 (a 6)]) (by repeat first | exact .here _ _ | assumption | apply Pick.there)).drop.pick (A := rdsA _) (by repeat first | exact .here _ _ | assumption | apply Pick.there)).pick (A := regA W g _ _) (by repeat first | exact .here _ _ | assumption | apply Pick.there))⟩
             first
               | exact (decide_eq_false (by omega)).symm
               | (rw [decide_eq_decide]; omega))
      · intro hc7
        have hc7d := of_decide_eq_false hc7
        have hj1 : v3 s j ≠ 0 → vknownE M (v3 s j) = 0 := fun h => by omega
        refine c_skip ?_
        refine c_region ?_
        refine t_q (q_add_i64 rfl rfl (by omega)) ?_
        refine t_q (q_mv (.int _ _) rfl) ?_
        refine t_nil ?_
        exact ⟨k - 1, by omega, j + 1, rfl, by omega, by omega, (fun i hi => by
          rcases Nat.lt_or_ge i j with h | h
          · exact hall i h
          · obtain rfl : i = j := by omega
            exact hj1), ((((hS.pick (A := rdsA ps) (by repeat first | exact .here _ _ | assumption | apply Pick.there)).pick (A := regA W g M ps) (by repeat first | exact .here _ _ | assumption | apply Pick.there)).pick (A := blkA g1 34 [.int .i64 s.active, .int .i64 s.previous, .int .i64 s.pending, .int .u64 s.at_, .int .i64 s.shadow, .pointer (some ⟨g, 0, none⟩), .int .i64 n, .int .u64 (a 0), .int .u64 (a 1), .int .u64 (a 2), .int .u64 (a 3), .int .u64 (a 4), .int .u64 (a 5), .int .u64 (a 6)]) (by repeat first | exact .here _ _ | assumption | apply Pick.there)).pick (A := blkA g3 28 [.int .i64 s.active, .int .i64 s.previous, .int .i64 s.pending, .int .u64 s.at_, .int .i64 s.shadow]) (by repeat first | exact .here _ _ | assumption | apply Pick.there))⟩
    · intro hg4
      have hg4d := of_decide_eq_false hg4
      refine t_no rfl rfl (by rw [hg4]; decide) ?_
      refine t_no rfl rfl (by rw [hg4]; decide) ?_
      refine t_no rfl rfl (by rw [hg4]; decide) ?_
      refine t_no rfl rfl (by rw [hg4]; decide) ?_
      refine t_q (q_pick_f rfl hg4) ?_
      refine t_nil ?_
      refine c_cond_f rfl rfl ?_
      have hj1 : v3 s j ≠ 0 → vknownE M (v3 s j) = 0 := fun h => by omega
      refine c_skip ?_
      refine c_region ?_
      refine t_q (q_add_i64 rfl rfl (by omega)) ?_
      refine t_q (q_mv (.int _ _) rfl) ?_
      refine t_nil ?_
      exact ⟨k - 1, by omega, j + 1, rfl, by omega, by omega, (fun i hi => by
        rcases Nat.lt_or_ge i j with h | h
        · exact hall i h
        · obtain rfl : i = j := by omega
          exact hj1), ((((hS.pick (A := rdsA ps) (by repeat first | exact .here _ _ | assumption | apply Pick.there)).pick (A := regA W g M ps) (by repeat first | exact .here _ _ | assumption | apply Pick.there)).pick (A := blkA g1 34 [.int .i64 s.active, .int .i64 s.previous, .int .i64 s.pending, .int .u64 s.at_, .int .i64 s.shadow, .pointer (some ⟨g, 0, none⟩), .int .i64 n, .int .u64 (a 0), .int .u64 (a 1), .int .u64 (a 2), .int .u64 (a 3), .int .u64 (a 4), .int .u64 (a 5), .int .u64 (a 6)]) (by repeat first | exact .here _ _ | assumption | apply Pick.there)).pick (A := blkA g3 28 [.int .i64 s.active, .int .i64 s.previous, .int .i64 s.pending, .int .u64 s.at_, .int .i64 s.shadow]) (by repeat first | exact .here _ _ | assumption | apply Pick.there))⟩
  · intro hc2
    have hc2d := of_decide_eq_false hc2
    have hE := snd_all (M := M) (s := s) fun i hi => hall i (by omega)
    refine c_exit ?_
    refine ite_t rfl ?_
    refine c_seq ?_
    refine c_region ?_
    refine t_q (q_cast (v' := .agg (bdc s (some ⟨g, 0, none⟩) n a).toArray) (q_load_blk Try.isAgg34 Try.sizeOf34 rfl (hS.blk (by repeat first | exact .here _ _ | assumption | apply Pick.there)) rfl) (by rfl)) ?_
    refine t_q (q_fieldAddr 0 Try.runUnderlying28 rfl Try.sizeOf3 (by decide) rfl rfl) ?_
    refine t_q (q_load1 Try.isAgg3 rfl (hS.cell (by repeat first | exact .here _ _ | assumption | apply Pick.there) rfl)) ?_
    refine t_call Try.call79 (known_calls (s := s) (n := n) (a := a) ((hS.pick (A := rdsA ps) (by repeat first | exact .here _ _ | assumption | apply Pick.there)).pick (A := regA W g M ps) (by repeat first | exact .here _ _ | assumption | apply Pick.there))) rfl ?_
    rintro e w ⟨rfl, hS⟩
    refine ⟨_, rfl, ?_⟩
    refine t_q (q_eql rfl rfl) ?_
    refine t_q (q_mv (.bool _) rfl) ?_
    refine t_case 32 rfl ?_ ?_
    · intro hg10
      have hg10d := of_decide_eq_true hg10
      refine t_yes rfl rfl hg10 ?_
      refine t_q (q_fieldAddr 2 Try.runUnderlying28 rfl Try.sizeOf3 (by decide) rfl rfl) ?_
      refine t_yes rfl rfl hg10 ?_
      refine t_q (q_load1 Try.isAgg3 rfl (hS.cell (by repeat first | exact .here _ _ | assumption | apply Pick.there) rfl)) ?_
      refine t_yes rfl rfl hg10 ?_
      refine t_q (q_fieldAddr 0 Try.runUnderlying28 rfl Try.sizeOf3 (by decide) rfl rfl) ?_
      refine t_yes rfl rfl hg10 ?_
      refine t_q (q_load1 Try.isAgg3 rfl (hS.cell (by repeat first | exact .here _ _ | assumption | apply Pick.there) rfl)) ?_
      refine t_yes rfl rfl hg10 ?_
      refine t_q (q_neq rfl rfl) ?_
      refine t_q (q_pick_t rfl hg10) ?_
      refine t_q (q_mv (.bool _) rfl) ?_
      refine t_case 39 rfl ?_ ?_
      · intro hg12
        have hg12d := of_decide_eq_true hg12
        refine t_yes rfl rfl hg12 ?_
        refine t_q (q_fieldAddr 4 Try.runUnderlying28 rfl Try.sizeOf3 (by decide) rfl rfl) ?_
        refine t_yes rfl rfl hg12 ?_
        refine t_q (q_load1 Try.isAgg3 rfl (hS.cell (by repeat first | exact .here _ _ | assumption | apply Pick.there) rfl)) ?_
        refine t_yes rfl rfl hg12 ?_
        refine t_q (q_fieldAddr 0 Try.runUnderlying28 rfl Try.sizeOf3 (by decide) rfl rfl) ?_
        refine t_yes rfl rfl hg12 ?_
        refine t_q (q_load1 Try.isAgg3 rfl (hS.cell (by repeat first | exact .here _ _ | assumption | apply Pick.there) rfl)) ?_
        refine t_yes rfl rfl hg12 ?_
        refine t_q (q_neq rfl rfl) ?_
        refine t_q (q_pick_t rfl hg12) ?_
        refine t_q (q_mv (.bool _) rfl) ?_
        refine t_case 46 rfl ?_ ?_
        · intro hg14
          have hg14d := of_decide_eq_true hg14
          refine t_yes rfl rfl hg14 ?_
          refine t_q (q_fieldAddr 3 Try.runUnderlying28 rfl Try.sizeOf26 (by decide) rfl rfl) ?_
          refine t_yes rfl rfl hg14 ?_
          refine t_q (q_load1 Try.isAgg26 rfl (hS.cell (by repeat first | exact .here _ _ | assumption | apply Pick.there) rfl)) ?_
          refine t_yes rfl rfl hg14 ?_
          refine t_q (q_eql rfl rfl) ?_
          refine t_yes rfl rfl hg14 ?_
          refine t_q (q_fieldAddr 2 Try.runUnderlying28 rfl Try.sizeOf3 (by decide) rfl rfl) ?_
          refine t_yes rfl rfl hg14 ?_
          refine t_q (q_load1 Try.isAgg3 rfl (hS.cell (by repeat first | exact .here _ _ | assumption | apply Pick.there) rfl)) ?_
          refine t_yes rfl rfl hg14 ?_
          refine t_q (q_eql rfl rfl) ?_
          refine t_yes rfl rfl hg14 ?_
          refine t_q (q_cast (v' := .bool (decide (s.at_ = 0 ↔ s.pending = 0))) (q_eql_bool Try.runUnderlying4 rfl rfl) (by by_cases h1 : s.at_ = 0 <;> by_cases h2 : s.pending = 0 <;> simp [h1, h2])) ?_
          refine t_q (q_pick_t rfl hg14) ?_
          refine t_q (q_as (.bool _) rfl) ?_
          refine t_nil ?_
          refine c_ret ?_
          refine r_one rfl rfl ?_
          first
            | (rw [hD]
               exact ⟨rfl, ((((hS.pick (A := blkA g3 28 _) (by repeat first | exact .here _ _ | assumption | apply Pick.there)).drop.pick (A := blkA g1 34 [.int .i64 s.active, .int .i64 s.previous, .int .i64 s.pending, .int .u64 s.at_, .int .i64 s.shadow, .pointer (some ⟨g, 0, none⟩), .int .i64 n, .int .u64 (a 0), .int .u64 (a 1), .int .u64 (a 2), .int .u64 (a 3), .int .u64 (a 4), .int .u64 (a 5), .int .u64 (a 6)]) (by repeat first | exact .here _ _ | assumption | apply Pick.there)).drop.pick (A := rdsA _) (by repeat first | exact .here _ _ | assumption | apply Pick.there)).pick (A := regA W g _ _) (by repeat first | exact .here _ _ | assumption | apply Pick.there))⟩)
            | (rw [hE]
               refine ⟨congrArg (fun b => Ending.returned (.bool b)) ?_, ((((hS.pick (A := blkA g3 28 _) (by repeat first | exact .here _ _ | assumption | apply Pick.there)).drop.pick (A := blkA g1 34 [.int .i64 s.active, .int .i64 s.previous, .int .i64 s.pending, .int .u64 s.at_, .int .i64 s.shadow, .pointer (some ⟨g, 0, none⟩), .int .i64 n, .int .u64 (a 0), .int .u64 (a 1), .int .u64 (a 2), .int .u64 (a 3), .int .u64 (a 4), .int .u64 (a 5), .int .u64 (a 6)]) (by repeat first | exact .here _ _ | assumption | apply Pick.there)).drop.pick (A := rdsA _) (by repeat first | exact .here _ _ | assumption | apply Pick.there)).pick (A := regA W g _ _) (by repeat first | exact .here _ _ | assumption | apply Pick.there))⟩
               first
                 | exact (decide_eq_false (by omega)).symm
                 | (rw [decide_eq_decide]; omega))
        · intro hg14
          have hg14d := of_decide_eq_false hg14
          refine t_no rfl rfl (by rw [hg14]; decide) ?_
          refine t_no rfl rfl (by rw [hg14]; decide) ?_
          refine t_no rfl rfl (by rw [hg14]; decide) ?_
          refine t_no rfl rfl (by rw [hg14]; decide) ?_
          refine t_no rfl rfl (by rw [hg14]; decide) ?_
          refine t_no rfl rfl (by rw [hg14]; decide) ?_
          refine t_no rfl rfl (by rw [hg14]; decide) ?_
          refine t_q (q_pick_f rfl hg14) ?_
          refine t_q (q_as (.bool _) rfl) ?_
          refine t_nil ?_
          refine c_ret ?_
          refine r_one rfl rfl ?_
          first
            | (rw [hD]
               exact ⟨rfl, ((((hS.pick (A := blkA g3 28 _) (by repeat first | exact .here _ _ | assumption | apply Pick.there)).drop.pick (A := blkA g1 34 [.int .i64 s.active, .int .i64 s.previous, .int .i64 s.pending, .int .u64 s.at_, .int .i64 s.shadow, .pointer (some ⟨g, 0, none⟩), .int .i64 n, .int .u64 (a 0), .int .u64 (a 1), .int .u64 (a 2), .int .u64 (a 3), .int .u64 (a 4), .int .u64 (a 5), .int .u64 (a 6)]) (by repeat first | exact .here _ _ | assumption | apply Pick.there)).drop.pick (A := rdsA _) (by repeat first | exact .here _ _ | assumption | apply Pick.there)).pick (A := regA W g _ _) (by repeat first | exact .here _ _ | assumption | apply Pick.there))⟩)
            | (rw [hE]
               refine ⟨congrArg (fun b => Ending.returned (.bool b)) ?_, ((((hS.pick (A := blkA g3 28 _) (by repeat first | exact .here _ _ | assumption | apply Pick.there)).drop.pick (A := blkA g1 34 [.int .i64 s.active, .int .i64 s.previous, .int .i64 s.pending, .int .u64 s.at_, .int .i64 s.shadow, .pointer (some ⟨g, 0, none⟩), .int .i64 n, .int .u64 (a 0), .int .u64 (a 1), .int .u64 (a 2), .int .u64 (a 3), .int .u64 (a 4), .int .u64 (a 5), .int .u64 (a 6)]) (by repeat first | exact .here _ _ | assumption | apply Pick.there)).drop.pick (A := rdsA _) (by repeat first | exact .here _ _ | assumption | apply Pick.there)).pick (A := regA W g _ _) (by repeat first | exact .here _ _ | assumption | apply Pick.there))⟩
               first
                 | exact (decide_eq_false (by omega)).symm
                 | (rw [decide_eq_decide]; omega))
      · intro hg12
        have hg12d := of_decide_eq_false hg12
        refine t_no rfl rfl (by rw [hg12]; decide) ?_
        refine t_no rfl rfl (by rw [hg12]; decide) ?_
        refine t_no rfl rfl (by rw [hg12]; decide) ?_
        refine t_no rfl rfl (by rw [hg12]; decide) ?_
        refine t_no rfl rfl (by rw [hg12]; decide) ?_
        refine t_q (q_pick_f rfl hg12) ?_
        refine t_q (q_mv (.bool _) rfl) ?_
        refine t_no rfl rfl (by decide) ?_
        refine t_no rfl rfl (by decide) ?_
        refine t_no rfl rfl (by decide) ?_
        refine t_no rfl rfl (by decide) ?_
        refine t_no rfl rfl (by decide) ?_
        refine t_no rfl rfl (by decide) ?_
        refine t_no rfl rfl (by decide) ?_
        refine t_q (q_pick_f rfl rfl) ?_
        refine t_q (q_as (.bool _) rfl) ?_
        refine t_nil ?_
        refine c_ret ?_
        refine r_one rfl rfl ?_
        first
          | (rw [hD]
             exact ⟨rfl, ((((hS.pick (A := blkA g3 28 _) (by repeat first | exact .here _ _ | assumption | apply Pick.there)).drop.pick (A := blkA g1 34 [.int .i64 s.active, .int .i64 s.previous, .int .i64 s.pending, .int .u64 s.at_, .int .i64 s.shadow, .pointer (some ⟨g, 0, none⟩), .int .i64 n, .int .u64 (a 0), .int .u64 (a 1), .int .u64 (a 2), .int .u64 (a 3), .int .u64 (a 4), .int .u64 (a 5), .int .u64 (a 6)]) (by repeat first | exact .here _ _ | assumption | apply Pick.there)).drop.pick (A := rdsA _) (by repeat first | exact .here _ _ | assumption | apply Pick.there)).pick (A := regA W g _ _) (by repeat first | exact .here _ _ | assumption | apply Pick.there))⟩)
          | (rw [hE]
             refine ⟨congrArg (fun b => Ending.returned (.bool b)) ?_, ((((hS.pick (A := blkA g3 28 _) (by repeat first | exact .here _ _ | assumption | apply Pick.there)).drop.pick (A := blkA g1 34 [.int .i64 s.active, .int .i64 s.previous, .int .i64 s.pending, .int .u64 s.at_, .int .i64 s.shadow, .pointer (some ⟨g, 0, none⟩), .int .i64 n, .int .u64 (a 0), .int .u64 (a 1), .int .u64 (a 2), .int .u64 (a 3), .int .u64 (a 4), .int .u64 (a 5), .int .u64 (a 6)]) (by repeat first | exact .here _ _ | assumption | apply Pick.there)).drop.pick (A := rdsA _) (by repeat first | exact .here _ _ | assumption | apply Pick.there)).pick (A := regA W g _ _) (by repeat first | exact .here _ _ | assumption | apply Pick.there))⟩
             first
               | exact (decide_eq_false (by omega)).symm
               | (rw [decide_eq_decide]; omega))
    · intro hg10
      have hg10d := of_decide_eq_false hg10
      refine t_no rfl rfl (by rw [hg10]; decide) ?_
      refine t_no rfl rfl (by rw [hg10]; decide) ?_
      refine t_no rfl rfl (by rw [hg10]; decide) ?_
      refine t_no rfl rfl (by rw [hg10]; decide) ?_
      refine t_no rfl rfl (by rw [hg10]; decide) ?_
      refine t_q (q_pick_f rfl hg10) ?_
      refine t_q (q_mv (.bool _) rfl) ?_
      refine t_no rfl rfl (by decide) ?_
      refine t_no rfl rfl (by decide) ?_
      refine t_no rfl rfl (by decide) ?_
      refine t_no rfl rfl (by decide) ?_
      refine t_no rfl rfl (by decide) ?_
      refine t_q (q_pick_f rfl rfl) ?_
      refine t_q (q_mv (.bool _) rfl) ?_
      refine t_no rfl rfl (by decide) ?_
      refine t_no rfl rfl (by decide) ?_
      refine t_no rfl rfl (by decide) ?_
      refine t_no rfl rfl (by decide) ?_
      refine t_no rfl rfl (by decide) ?_
      refine t_no rfl rfl (by decide) ?_
      refine t_no rfl rfl (by decide) ?_
      refine t_q (q_pick_f rfl rfl) ?_
      refine t_q (q_as (.bool _) rfl) ?_
      refine t_nil ?_
      refine c_ret ?_
      refine r_one rfl rfl ?_
      first
        | (rw [hD]
           exact ⟨rfl, ((((hS.pick (A := blkA g3 28 _) (by repeat first | exact .here _ _ | assumption | apply Pick.there)).drop.pick (A := blkA g1 34 [.int .i64 s.active, .int .i64 s.previous, .int .i64 s.pending, .int .u64 s.at_, .int .i64 s.shadow, .pointer (some ⟨g, 0, none⟩), .int .i64 n, .int .u64 (a 0), .int .u64 (a 1), .int .u64 (a 2), .int .u64 (a 3), .int .u64 (a 4), .int .u64 (a 5), .int .u64 (a 6)]) (by repeat first | exact .here _ _ | assumption | apply Pick.there)).drop.pick (A := rdsA _) (by repeat first | exact .here _ _ | assumption | apply Pick.there)).pick (A := regA W g _ _) (by repeat first | exact .here _ _ | assumption | apply Pick.there))⟩)
        | (rw [hE]
           refine ⟨congrArg (fun b => Ending.returned (.bool b)) ?_, ((((hS.pick (A := blkA g3 28 _) (by repeat first | exact .here _ _ | assumption | apply Pick.there)).drop.pick (A := blkA g1 34 [.int .i64 s.active, .int .i64 s.previous, .int .i64 s.pending, .int .u64 s.at_, .int .i64 s.shadow, .pointer (some ⟨g, 0, none⟩), .int .i64 n, .int .u64 (a 0), .int .u64 (a 1), .int .u64 (a 2), .int .u64 (a 3), .int .u64 (a 4), .int .u64 (a 5), .int .u64 (a 6)]) (by repeat first | exact .here _ _ | assumption | apply Pick.there)).drop.pick (A := rdsA _) (by repeat first | exact .here _ _ | assumption | apply Pick.there)).pick (A := regA W g _ _) (by repeat first | exact .here _ _ | assumption | apply Pick.there))⟩
           first
             | exact (decide_eq_false (by omega)).symm
             | (rw [decide_eq_decide]; omega))
set_option maxHeartbeats 2000000 in
set_option maxRecDepth 100000 in
theorem qsound_calls {w : World} {R : List Asn} {q : Nat} {A : Option Addr} {c : Nat} {Y : List RuV} {s : StV} {n : Int} (hS : St W w (blkA q 141 [.slice A Y.length c] :: rowA 47 9 A Y.length c (Y.flatMap RuV.cells) :: R)) (hs : Srt (Y.map nf)) (hY16 : Y.length ≤ 16) : Calls Try.prog 25 #[.agg (([.int .i64 s.active, .int .i64 s.previous, .int .i64 s.pending, .int .u64 s.at_, .int .i64 s.shadow, .pointer (some ⟨q, 0, none⟩), .int .i64 n, .slice none 0 0] : List Value)).toArray] w fun e w' => e = .returned (.bool (soundV (Y.map nf) s)) ∧ St W w' (blkA q 141 [.slice A Y.length c] :: rowA 47 9 A Y.length c (Y.flatMap RuV.cells) :: R) := by
  refine calls_of_wpE (args := [_]) Try.func25 rfl rfl rfl ?_
  refine c_seq ?_
  refine c_region ?_
  refine t_box (v := (.agg _)) rfl rfl hS (fun g1 w hS => ?_)
  replace hS := hS.recast (show _ = blkA g1 41 [.int .i64 s.active, .int .i64 s.previous, .int .i64 s.pending, .int .u64 s.at_, .int .i64 s.shadow, .pointer (some ⟨q, 0, none⟩), .int .i64 n, .slice none 0 0] from rfl)
  refine t_q (q_assign) ?_
  refine t_nil ?_
  refine c_seq ?_
  refine c_region ?_
  refine t_q (q_fieldAddr 0 Try.runUnderlying41 rfl Try.sizeOf35 (by decide) rfl rfl) ?_
  refine t_q (q_cast (v' := .agg s.cells.toArray) (q_load_sub Try.isAgg35 Try.sizeOf35 rfl (hS.blk (by repeat first | exact .here _ _ | assumption | apply Pick.there)) (by show 0 + 0 + 5 ≤ 8; decide)) (by rfl)) ?_
  refine t_alloc Try.zeroValue35 rfl hS (fun g3 w hS => ?_)
  refine t_store (v := (.agg _)) Try.sizeOf35 hS (by repeat first | exact .here _ _ | assumption | apply Pick.there) rfl rfl rfl rfl rfl rfl (fun w hS => ?_)
  replace hS := hS.recast (congrArg (blkA g3 35) (rset_full (vs := s.cells) rfl))
  replace hS := hS.recast (show _ = blkA g3 35 [.int .i64 s.active, .int .i64 s.previous, .int .i64 s.pending, .int .u64 s.at_, .int .i64 s.shadow] from rfl)
  refine t_nil ?_
  refine c_seq ?_
  refine c_seq ?_
  refine c_region ?_
  refine t_q (q_fieldAddr 1 Try.runUnderlying35 rfl Try.sizeOf3 (by decide) rfl rfl) ?_
  refine t_q (q_load1 Try.isAgg3 rfl (hS.cell (by repeat first | exact .here _ _ | assumption | apply Pick.there) rfl)) ?_
  refine t_q (q_fieldAddr 2 Try.runUnderlying35 rfl Try.sizeOf3 (by decide) rfl rfl) ?_
  refine t_q (q_load1 Try.isAgg3 rfl (hS.cell (by repeat first | exact .here _ _ | assumption | apply Pick.there) rfl)) ?_
  refine t_q (q_fieldAddr 4 Try.runUnderlying35 rfl Try.sizeOf3 (by decide) rfl rfl) ?_
  refine t_q (q_load1 Try.isAgg3 rfl (hS.cell (by repeat first | exact .here _ _ | assumption | apply Pick.there) rfl)) ?_
  refine t_build_ints [_, _, _] Try.runUnderlying59 Try.sizeOf3 Try.zeroValue3 rfl rfl (by decide) hS (fun g14 w hS => ?_)
  replace hS := hS.recast (show _ = rowA 3 1 (some ⟨g14, 0, none⟩) 3 3 (([s.previous, s.pending, s.shadow] : List Int).map (Value.int .i64)) from rfl)
  refine t_q (q_len_slice Try.runUnderlying59 rfl) ?_
  refine t_q (q_move) ?_
  refine t_nil ?_
  refine c_block ?_
  refine c_loop [2, 5, 16, 17, 18, 19, 20, 21, 22, 23, 24, 25, 26, 27, 28, 29] (fun k σ w => ∃ j : Nat, σ 16 = .int .i64 (j : Int) ∧ j ≤ 3 ∧ 3 - j ≤ k ∧ (∀ i, i < j → v3 s i ≠ 0 → vknownE (Y.map nf) (v3 s i) = 0) ∧ St W w (rowA 3 1 (some ⟨g14, 0, none⟩) 3 3 (([s.previous, s.pending, s.shadow] : List Int).map (Value.int .i64)) :: blkA g3 35 [.int .i64 s.active, .int .i64 s.previous, .int .i64 s.pending, .int .u64 s.at_, .int .i64 s.shadow] :: blkA g1 41 [.int .i64 s.active, .int .i64 s.previous, .int .i64 s.pending, .int .u64 s.at_, .int .i64 s.shadow, .pointer (some ⟨q, 0, none⟩), .int .i64 n, .slice none 0 0] :: blkA q 141 [.slice A Y.length c] :: rowA 47 9 A Y.length c (Y.flatMap RuV.cells) :: R)) (3) rfl (⟨0, rfl, by omega, by omega, (fun i h => absurd h (by omega)), (((((hS.pick (A := rowA 47 9 A Y.length c (Y.flatMap RuV.cells)) (by repeat first | exact .here _ _ | assumption | apply Pick.there)).pick (A := blkA q 141 [.slice A Y.length c]) (by repeat first | exact .here _ _ | assumption | apply Pick.there)).pick (A := blkA g1 41 [.int .i64 s.active, .int .i64 s.previous, .int .i64 s.pending, .int .u64 s.at_, .int .i64 s.shadow, .pointer (some ⟨q, 0, none⟩), .int .i64 n, .slice none 0 0]) (by repeat first | exact .here _ _ | assumption | apply Pick.there)).pick (A := blkA g3 35 [.int .i64 s.active, .int .i64 s.previous, .int .i64 s.pending, .int .u64 s.at_, .int .i64 s.shadow]) (by repeat first | exact .here _ _ | assumption | apply Pick.there)).pick (A := rowA 3 1 (some ⟨g14, 0, none⟩) 3 3 (([s.previous, s.pending, s.shadow] : List Int).map (Value.int .i64))) (by repeat first | exact .here _ _ | assumption | apply Pick.there))⟩) ?_
  skip
  rintro k σ w ⟨j, h16, hj, hk, hall, hS⟩
  refine c_know 16 h16 ?_
  clear h16
  refine c_seq ?_
  refine c_region ?_
  refine t_q (q_lss rfl rfl) ?_
  refine t_nil ?_
  refine c_seq ?_
  refine c_cond rfl ?_ ?_
  · intro hc2
    have hc2d := of_decide_eq_true hc2
    refine c_skip ?_
    refine c_seq ?_
    refine c_block ?_
    refine c_seq ?_
    refine c_region ?_
    first | refine t_index_nat Try.runUnderlying59 Try.sizeOf3 ((hS.rowInts (ns := ([s.previous, s.pending, s.shadow] : List Int)) (by repeat first | exact .here _ _ | assumption | apply Pick.there) rfl)) rfl rfl (by show j < 3; omega) (fun ad3 hl3 hx3 => ?_) | refine t_index Try.runUnderlying59 Try.sizeOf3 ((hS.rowInts (ns := ([s.previous, s.pending, s.shadow] : List Int)) (by repeat first | exact .here _ _ | assumption | apply Pick.there) rfl)) rfl rfl (by show j < 3; omega) (fun ad3 hl3 hx3 => ?_)
    refine t_q (q_cast (v' := .int .i64 (v3 s j)) (q_load1 Try.isAgg3 rfl (hx3 0 _ rfl)) (by rfl)) ?_
    refine t_q (q_as (.int _ _) rfl) ?_
    refine t_nil ?_
    refine c_seq ?_
    refine c_region ?_
    refine t_q (q_mv (.int _ _) rfl) ?_
    refine t_q (q_neq rfl rfl) ?_
    refine t_q (q_mv (.bool _) rfl) ?_
    refine t_case 22 rfl ?_ ?_
    · intro hg5
      have hg5d := of_decide_eq_true hg5
      refine t_yes rfl rfl hg5 ?_
      refine t_q (q_fieldAddr 5 Try.runUnderlying41 rfl Try.sizeOf36 (by decide) rfl rfl) ?_
      refine t_yes rfl rfl hg5 ?_
      refine t_q (q_load1 Try.isAgg36 rfl (hS.cell (by repeat first | exact .here _ _ | assumption | apply Pick.there) rfl)) ?_
      refine t_yes rfl rfl hg5 ?_
      refine t_q (q_mv (.int _ _) rfl) ?_
      refine t_yes rfl rfl hg5 ?_
      refine t_call Try.call78 (qgat_calls ((hS.pick (A := rowA 47 9 A Y.length c (Y.flatMap RuV.cells)) (by repeat first | exact .here _ _ | assumption | apply Pick.there)).pick (A := blkA q 141 [.slice A Y.length c]) (by repeat first | exact .here _ _ | assumption | apply Pick.there)) hY16) rfl ?_
      rintro e w ⟨i, rfl, hat, hS⟩
      refine ⟨_, rfl, ?_⟩
      have hkn := at_known hs hat
      refine t_yes rfl rfl hg5 ?_
      refine t_q (q_lss rfl rfl) ?_
      refine t_q (q_pick_t rfl hg5) ?_
      refine t_nil ?_
      refine c_cond rfl ?_ ?_
      · intro hc8
        have hc8d := of_decide_eq_true hc8
        have hD := snd_no (M := Y.map nf) (s := s) (j := j) (by omega) (by omega) (by omega)
        refine c_seq ?_
        refine c_region ?_
        refine t_q (q_assign) ?_
        refine t_nil ?_
        refine c_ret ?_
        refine r_one rfl rfl ?_
        first
          | (rw [hD]
             exact ⟨rfl, (((((hS.pick (A := rowA 3 1 (some ⟨g14, 0, none⟩) 3 3 (([s.previous, s.pending, s.shadow] : List Int).map (Value.int .i64))) (by repeat first | exact .here _ _ | assumption | apply Pick.there)).drop.pick (A := blkA g3 35 _) (by repeat first | exact .here _ _ | assumption | apply Pick.there)).drop.pick (A := blkA g1 41 [.int .i64 s.active, .int .i64 s.previous, .int .i64 s.pending, .int .u64 s.at_, .int .i64 s.shadow, .pointer (some ⟨q, 0, none⟩), .int .i64 n, .slice none 0 0]) (by repeat first | exact .here _ _ | assumption | apply Pick.there)).drop.pick (A := rowA 47 9 A Y.length c (Y.flatMap RuV.cells)) (by repeat first | exact .here _ _ | assumption | apply Pick.there)).pick (A := blkA q 141 [.slice A Y.length c]) (by repeat first | exact .here _ _ | assumption | apply Pick.there))⟩)
          | (rw [hE]
             refine ⟨congrArg (fun b => Ending.returned (.bool b)) ?_, (((((hS.pick (A := rowA 3 1 (some ⟨g14, 0, none⟩) 3 3 (([s.previous, s.pending, s.shadow] : List Int).map (Value.int .i64))) (by repeat first | exact .here _ _ | assumption | apply Pick.there)).drop.pick (A := blkA g3 35 _) (by repeat first | exact .here _ _ | assumption | apply Pick.there)).drop.pick (A := blkA g1 41 [.int .i64 s.active, .int .i64 s.previous, .int .i64 s.pending, .int .u64 s.at_, .int .i64 s.shadow, .pointer (some ⟨q, 0, none⟩), .int .i64 n, .slice none 0 0]) (by repeat first | exact .here _ _ | assumption | apply Pick.there)).drop.pick (A := rowA 47 9 A Y.length c (Y.flatMap RuV.cells)) (by repeat first | exact .here _ _ | assumption | apply Pick.there)).pick (A := blkA q 141 [.slice A Y.length c]) (by repeat first | exact .here _ _ | assumption | apply Pick.there))⟩
             first
               | exact (decide_eq_false (by omega)).symm
               | (rw [decide_eq_decide]; omega))
      · intro hc8
        have hc8d := of_decide_eq_false hc8
        have hj1 : v3 s j ≠ 0 → vknownE (Y.map nf) (v3 s j) = 0 := fun h => by omega
        refine c_skip ?_
        refine c_region ?_
        refine t_q (q_add_i64 rfl rfl (by omega)) ?_
        refine t_q (q_mv (.int _ _) rfl) ?_
        refine t_nil ?_
        exact ⟨k - 1, by omega, j + 1, rfl, by omega, by omega, (fun i hi => by
          rcases Nat.lt_or_ge i j with h | h
          · exact hall i h
          · obtain rfl : i = j := by omega
            exact hj1), (((((hS.pick (A := rowA 47 9 A Y.length c (Y.flatMap RuV.cells)) (by repeat first | exact .here _ _ | assumption | apply Pick.there)).pick (A := blkA q 141 [.slice A Y.length c]) (by repeat first | exact .here _ _ | assumption | apply Pick.there)).pick (A := blkA g1 41 [.int .i64 s.active, .int .i64 s.previous, .int .i64 s.pending, .int .u64 s.at_, .int .i64 s.shadow, .pointer (some ⟨q, 0, none⟩), .int .i64 n, .slice none 0 0]) (by repeat first | exact .here _ _ | assumption | apply Pick.there)).pick (A := blkA g3 35 [.int .i64 s.active, .int .i64 s.previous, .int .i64 s.pending, .int .u64 s.at_, .int .i64 s.shadow]) (by repeat first | exact .here _ _ | assumption | apply Pick.there)).pick (A := rowA 3 1 (some ⟨g14, 0, none⟩) 3 3 (([s.previous, s.pending, s.shadow] : List Int).map (Value.int .i64))) (by repeat first | exact .here _ _ | assumption | apply Pick.there))⟩
    · intro hg5
      have hg5d := of_decide_eq_false hg5
      refine t_no rfl rfl (by rw [hg5]; decide) ?_
      refine t_no rfl rfl (by rw [hg5]; decide) ?_
      refine t_no rfl rfl (by rw [hg5]; decide) ?_
      refine t_no rfl rfl (by rw [hg5]; decide) ?_
      refine t_no rfl rfl (by rw [hg5]; decide) ?_
      refine t_q (q_pick_f rfl hg5) ?_
      refine t_nil ?_
      refine c_cond_f rfl rfl ?_
      have hj1 : v3 s j ≠ 0 → vknownE (Y.map nf) (v3 s j) = 0 := fun h => by omega
      refine c_skip ?_
      refine c_region ?_
      refine t_q (q_add_i64 rfl rfl (by omega)) ?_
      refine t_q (q_mv (.int _ _) rfl) ?_
      refine t_nil ?_
      exact ⟨k - 1, by omega, j + 1, rfl, by omega, by omega, (fun i hi => by
        rcases Nat.lt_or_ge i j with h | h
        · exact hall i h
        · obtain rfl : i = j := by omega
          exact hj1), (((((hS.pick (A := rowA 47 9 A Y.length c (Y.flatMap RuV.cells)) (by repeat first | exact .here _ _ | assumption | apply Pick.there)).pick (A := blkA q 141 [.slice A Y.length c]) (by repeat first | exact .here _ _ | assumption | apply Pick.there)).pick (A := blkA g1 41 [.int .i64 s.active, .int .i64 s.previous, .int .i64 s.pending, .int .u64 s.at_, .int .i64 s.shadow, .pointer (some ⟨q, 0, none⟩), .int .i64 n, .slice none 0 0]) (by repeat first | exact .here _ _ | assumption | apply Pick.there)).pick (A := blkA g3 35 [.int .i64 s.active, .int .i64 s.previous, .int .i64 s.pending, .int .u64 s.at_, .int .i64 s.shadow]) (by repeat first | exact .here _ _ | assumption | apply Pick.there)).pick (A := rowA 3 1 (some ⟨g14, 0, none⟩) 3 3 (([s.previous, s.pending, s.shadow] : List Int).map (Value.int .i64))) (by repeat first | exact .here _ _ | assumption | apply Pick.there))⟩
  · intro hc2
    have hc2d := of_decide_eq_false hc2
    have hE := snd_all (M := Y.map nf) (s := s) fun i hi => hall i (by omega)
    refine c_exit ?_
    refine ite_t rfl ?_
    refine c_seq ?_
    refine c_region ?_
    refine t_q (q_fieldAddr 5 Try.runUnderlying41 rfl Try.sizeOf36 (by decide) rfl rfl) ?_
    refine t_q (q_load1 Try.isAgg36 rfl (hS.cell (by repeat first | exact .here _ _ | assumption | apply Pick.there) rfl)) ?_
    refine t_q (q_fieldAddr 0 Try.runUnderlying35 rfl Try.sizeOf3 (by decide) rfl rfl) ?_
    refine t_q (q_load1 Try.isAgg3 rfl (hS.cell (by repeat first | exact .here _ _ | assumption | apply Pick.there) rfl)) ?_
    refine t_call Try.call78 (qgat_calls ((hS.pick (A := rowA 47 9 A Y.length c (Y.flatMap RuV.cells)) (by repeat first | exact .here _ _ | assumption | apply Pick.there)).pick (A := blkA q 141 [.slice A Y.length c]) (by repeat first | exact .here _ _ | assumption | apply Pick.there)) hY16) rfl ?_
    rintro e w ⟨i, rfl, hat, hS⟩
    refine ⟨_, rfl, ?_⟩
    have hkn := at_known hs hat
    refine t_q (q_geq rfl rfl) ?_
    refine t_q (q_mv (.bool _) rfl) ?_
    refine t_case 36 rfl ?_ ?_
    · intro hg11
      have hg11d := of_decide_eq_true hg11
      refine t_yes rfl rfl hg11 ?_
      refine t_q (q_fieldAddr 2 Try.runUnderlying35 rfl Try.sizeOf3 (by decide) rfl rfl) ?_
      refine t_yes rfl rfl hg11 ?_
      refine t_q (q_load1 Try.isAgg3 rfl (hS.cell (by repeat first | exact .here _ _ | assumption | apply Pick.there) rfl)) ?_
      refine t_yes rfl rfl hg11 ?_
      refine t_q (q_fieldAddr 0 Try.runUnderlying35 rfl Try.sizeOf3 (by decide) rfl rfl) ?_
      refine t_yes rfl rfl hg11 ?_
      refine t_q (q_load1 Try.isAgg3 rfl (hS.cell (by repeat first | exact .here _ _ | assumption | apply Pick.there) rfl)) ?_
      refine t_yes rfl rfl hg11 ?_
      refine t_q (q_neq rfl rfl) ?_
      refine t_q (q_pick_t rfl hg11) ?_
      refine t_q (q_mv (.bool _) rfl) ?_
      refine t_case 43 rfl ?_ ?_
      · intro hg13
        have hg13d := of_decide_eq_true hg13
        refine t_yes rfl rfl hg13 ?_
        refine t_q (q_fieldAddr 4 Try.runUnderlying35 rfl Try.sizeOf3 (by decide) rfl rfl) ?_
        refine t_yes rfl rfl hg13 ?_
        refine t_q (q_load1 Try.isAgg3 rfl (hS.cell (by repeat first | exact .here _ _ | assumption | apply Pick.there) rfl)) ?_
        refine t_yes rfl rfl hg13 ?_
        refine t_q (q_fieldAddr 0 Try.runUnderlying35 rfl Try.sizeOf3 (by decide) rfl rfl) ?_
        refine t_yes rfl rfl hg13 ?_
        refine t_q (q_load1 Try.isAgg3 rfl (hS.cell (by repeat first | exact .here _ _ | assumption | apply Pick.there) rfl)) ?_
        refine t_yes rfl rfl hg13 ?_
        refine t_q (q_neq rfl rfl) ?_
        refine t_q (q_pick_t rfl hg13) ?_
        refine t_q (q_mv (.bool _) rfl) ?_
        refine t_case 50 rfl ?_ ?_
        · intro hg15
          have hg15d := of_decide_eq_true hg15
          refine t_yes rfl rfl hg15 ?_
          refine t_q (q_fieldAddr 3 Try.runUnderlying35 rfl Try.sizeOf26 (by decide) rfl rfl) ?_
          refine t_yes rfl rfl hg15 ?_
          refine t_q (q_load1 Try.isAgg26 rfl (hS.cell (by repeat first | exact .here _ _ | assumption | apply Pick.there) rfl)) ?_
          refine t_yes rfl rfl hg15 ?_
          refine t_q (q_eql rfl rfl) ?_
          refine t_yes rfl rfl hg15 ?_
          refine t_q (q_fieldAddr 2 Try.runUnderlying35 rfl Try.sizeOf3 (by decide) rfl rfl) ?_
          refine t_yes rfl rfl hg15 ?_
          refine t_q (q_load1 Try.isAgg3 rfl (hS.cell (by repeat first | exact .here _ _ | assumption | apply Pick.there) rfl)) ?_
          refine t_yes rfl rfl hg15 ?_
          refine t_q (q_eql rfl rfl) ?_
          refine t_yes rfl rfl hg15 ?_
          refine t_q (q_cast (v' := .bool (decide (s.at_ = 0 ↔ s.pending = 0))) (q_eql_bool Try.runUnderlying4 rfl rfl) (by by_cases h1 : s.at_ = 0 <;> by_cases h2 : s.pending = 0 <;> simp [h1, h2])) ?_
          refine t_q (q_pick_t rfl hg15) ?_
          refine t_q (q_as (.bool _) rfl) ?_
          refine t_nil ?_
          refine c_ret ?_
          refine r_one rfl rfl ?_
          first
            | (rw [hD]
               exact ⟨rfl, (((((hS.pick (A := rowA 3 1 (some ⟨g14, 0, none⟩) 3 3 (([s.previous, s.pending, s.shadow] : List Int).map (Value.int .i64))) (by repeat first | exact .here _ _ | assumption | apply Pick.there)).drop.pick (A := blkA g3 35 _) (by repeat first | exact .here _ _ | assumption | apply Pick.there)).drop.pick (A := blkA g1 41 [.int .i64 s.active, .int .i64 s.previous, .int .i64 s.pending, .int .u64 s.at_, .int .i64 s.shadow, .pointer (some ⟨q, 0, none⟩), .int .i64 n, .slice none 0 0]) (by repeat first | exact .here _ _ | assumption | apply Pick.there)).drop.pick (A := rowA 47 9 A Y.length c (Y.flatMap RuV.cells)) (by repeat first | exact .here _ _ | assumption | apply Pick.there)).pick (A := blkA q 141 [.slice A Y.length c]) (by repeat first | exact .here _ _ | assumption | apply Pick.there))⟩)
            | (rw [hE]
               refine ⟨congrArg (fun b => Ending.returned (.bool b)) ?_, (((((hS.pick (A := rowA 3 1 (some ⟨g14, 0, none⟩) 3 3 (([s.previous, s.pending, s.shadow] : List Int).map (Value.int .i64))) (by repeat first | exact .here _ _ | assumption | apply Pick.there)).drop.pick (A := blkA g3 35 _) (by repeat first | exact .here _ _ | assumption | apply Pick.there)).drop.pick (A := blkA g1 41 [.int .i64 s.active, .int .i64 s.previous, .int .i64 s.pending, .int .u64 s.at_, .int .i64 s.shadow, .pointer (some ⟨q, 0, none⟩), .int .i64 n, .slice none 0 0]) (by repeat first | exact .here _ _ | assumption | apply Pick.there)).drop.pick (A := rowA 47 9 A Y.length c (Y.flatMap RuV.cells)) (by repeat first | exact .here _ _ | assumption | apply Pick.there)).pick (A := blkA q 141 [.slice A Y.length c]) (by repeat first | exact .here _ _ | assumption | apply Pick.there))⟩
               first
                 | exact (decide_eq_false (by omega)).symm
                 | (rw [decide_eq_decide]; omega))
        · intro hg15
          have hg15d := of_decide_eq_false hg15
          refine t_no rfl rfl (by rw [hg15]; decide) ?_
          refine t_no rfl rfl (by rw [hg15]; decide) ?_
          refine t_no rfl rfl (by rw [hg15]; decide) ?_
          refine t_no rfl rfl (by rw [hg15]; decide) ?_
          refine t_no rfl rfl (by rw [hg15]; decide) ?_
          refine t_no rfl rfl (by rw [hg15]; decide) ?_
          refine t_no rfl rfl (by rw [hg15]; decide) ?_
          refine t_q (q_pick_f rfl hg15) ?_
          refine t_q (q_as (.bool _) rfl) ?_
          refine t_nil ?_
          refine c_ret ?_
          refine r_one rfl rfl ?_
          first
            | (rw [hD]
               exact ⟨rfl, (((((hS.pick (A := rowA 3 1 (some ⟨g14, 0, none⟩) 3 3 (([s.previous, s.pending, s.shadow] : List Int).map (Value.int .i64))) (by repeat first | exact .here _ _ | assumption | apply Pick.there)).drop.pick (A := blkA g3 35 _) (by repeat first | exact .here _ _ | assumption | apply Pick.there)).drop.pick (A := blkA g1 41 [.int .i64 s.active, .int .i64 s.previous, .int .i64 s.pending, .int .u64 s.at_, .int .i64 s.shadow, .pointer (some ⟨q, 0, none⟩), .int .i64 n, .slice none 0 0]) (by repeat first | exact .here _ _ | assumption | apply Pick.there)).drop.pick (A := rowA 47 9 A Y.length c (Y.flatMap RuV.cells)) (by repeat first | exact .here _ _ | assumption | apply Pick.there)).pick (A := blkA q 141 [.slice A Y.length c]) (by repeat first | exact .here _ _ | assumption | apply Pick.there))⟩)
            | (rw [hE]
               refine ⟨congrArg (fun b => Ending.returned (.bool b)) ?_, (((((hS.pick (A := rowA 3 1 (some ⟨g14, 0, none⟩) 3 3 (([s.previous, s.pending, s.shadow] : List Int).map (Value.int .i64))) (by repeat first | exact .here _ _ | assumption | apply Pick.there)).drop.pick (A := blkA g3 35 _) (by repeat first | exact .here _ _ | assumption | apply Pick.there)).drop.pick (A := blkA g1 41 [.int .i64 s.active, .int .i64 s.previous, .int .i64 s.pending, .int .u64 s.at_, .int .i64 s.shadow, .pointer (some ⟨q, 0, none⟩), .int .i64 n, .slice none 0 0]) (by repeat first | exact .here _ _ | assumption | apply Pick.there)).drop.pick (A := rowA 47 9 A Y.length c (Y.flatMap RuV.cells)) (by repeat first | exact .here _ _ | assumption | apply Pick.there)).pick (A := blkA q 141 [.slice A Y.length c]) (by repeat first | exact .here _ _ | assumption | apply Pick.there))⟩
               first
                 | exact (decide_eq_false (by omega)).symm
                 | (rw [decide_eq_decide]; omega))
      · intro hg13
        have hg13d := of_decide_eq_false hg13
        refine t_no rfl rfl (by rw [hg13]; decide) ?_
        refine t_no rfl rfl (by rw [hg13]; decide) ?_
        refine t_no rfl rfl (by rw [hg13]; decide) ?_
        refine t_no rfl rfl (by rw [hg13]; decide) ?_
        refine t_no rfl rfl (by rw [hg13]; decide) ?_
        refine t_q (q_pick_f rfl hg13) ?_
        refine t_q (q_mv (.bool _) rfl) ?_
        refine t_no rfl rfl (by decide) ?_
        refine t_no rfl rfl (by decide) ?_
        refine t_no rfl rfl (by decide) ?_
        refine t_no rfl rfl (by decide) ?_
        refine t_no rfl rfl (by decide) ?_
        refine t_no rfl rfl (by decide) ?_
        refine t_no rfl rfl (by decide) ?_
        refine t_q (q_pick_f rfl rfl) ?_
        refine t_q (q_as (.bool _) rfl) ?_
        refine t_nil ?_
        refine c_ret ?_
        refine r_one rfl rfl ?_
        first
          | (rw [hD]
             exact ⟨rfl, (((((hS.pick (A := rowA 3 1 (some ⟨g14, 0, none⟩) 3 3 (([s.previous, s.pending, s.shadow] : List Int).map (Value.int .i64))) (by repeat first | exact .here _ _ | assumption | apply Pick.there)).drop.pick (A := blkA g3 35 _) (by repeat first | exact .here _ _ | assumption | apply Pick.there)).drop.pick (A := blkA g1 41 [.int .i64 s.active, .int .i64 s.previous, .int .i64 s.pending, .int .u64 s.at_, .int .i64 s.shadow, .pointer (some ⟨q, 0, none⟩), .int .i64 n, .slice none 0 0]) (by repeat first | exact .here _ _ | assumption | apply Pick.there)).drop.pick (A := rowA 47 9 A Y.length c (Y.flatMap RuV.cells)) (by repeat first | exact .here _ _ | assumption | apply Pick.there)).pick (A := blkA q 141 [.slice A Y.length c]) (by repeat first | exact .here _ _ | assumption | apply Pick.there))⟩)
          | (rw [hE]
             refine ⟨congrArg (fun b => Ending.returned (.bool b)) ?_, (((((hS.pick (A := rowA 3 1 (some ⟨g14, 0, none⟩) 3 3 (([s.previous, s.pending, s.shadow] : List Int).map (Value.int .i64))) (by repeat first | exact .here _ _ | assumption | apply Pick.there)).drop.pick (A := blkA g3 35 _) (by repeat first | exact .here _ _ | assumption | apply Pick.there)).drop.pick (A := blkA g1 41 [.int .i64 s.active, .int .i64 s.previous, .int .i64 s.pending, .int .u64 s.at_, .int .i64 s.shadow, .pointer (some ⟨q, 0, none⟩), .int .i64 n, .slice none 0 0]) (by repeat first | exact .here _ _ | assumption | apply Pick.there)).drop.pick (A := rowA 47 9 A Y.length c (Y.flatMap RuV.cells)) (by repeat first | exact .here _ _ | assumption | apply Pick.there)).pick (A := blkA q 141 [.slice A Y.length c]) (by repeat first | exact .here _ _ | assumption | apply Pick.there))⟩
             first
               | exact (decide_eq_false (by omega)).symm
               | (rw [decide_eq_decide]; omega))
    · intro hg11
      have hg11d := of_decide_eq_false hg11
      refine t_no rfl rfl (by rw [hg11]; decide) ?_
      refine t_no rfl rfl (by rw [hg11]; decide) ?_
      refine t_no rfl rfl (by rw [hg11]; decide) ?_
      refine t_no rfl rfl (by rw [hg11]; decide) ?_
      refine t_no rfl rfl (by rw [hg11]; decide) ?_
      refine t_q (q_pick_f rfl hg11) ?_
      refine t_q (q_mv (.bool _) rfl) ?_
      refine t_no rfl rfl (by decide) ?_
      refine t_no rfl rfl (by decide) ?_
      refine t_no rfl rfl (by decide) ?_
      refine t_no rfl rfl (by decide) ?_
      refine t_no rfl rfl (by decide) ?_
      refine t_q (q_pick_f rfl rfl) ?_
      refine t_q (q_mv (.bool _) rfl) ?_
      refine t_no rfl rfl (by decide) ?_
      refine t_no rfl rfl (by decide) ?_
      refine t_no rfl rfl (by decide) ?_
      refine t_no rfl rfl (by decide) ?_
      refine t_no rfl rfl (by decide) ?_
      refine t_no rfl rfl (by decide) ?_
      refine t_no rfl rfl (by decide) ?_
      refine t_q (q_pick_f rfl rfl) ?_
      refine t_q (q_as (.bool _) rfl) ?_
      refine t_nil ?_
      refine c_ret ?_
      refine r_one rfl rfl ?_
      first
        | (rw [hD]
           exact ⟨rfl, (((((hS.pick (A := rowA 3 1 (some ⟨g14, 0, none⟩) 3 3 (([s.previous, s.pending, s.shadow] : List Int).map (Value.int .i64))) (by repeat first | exact .here _ _ | assumption | apply Pick.there)).drop.pick (A := blkA g3 35 _) (by repeat first | exact .here _ _ | assumption | apply Pick.there)).drop.pick (A := blkA g1 41 [.int .i64 s.active, .int .i64 s.previous, .int .i64 s.pending, .int .u64 s.at_, .int .i64 s.shadow, .pointer (some ⟨q, 0, none⟩), .int .i64 n, .slice none 0 0]) (by repeat first | exact .here _ _ | assumption | apply Pick.there)).drop.pick (A := rowA 47 9 A Y.length c (Y.flatMap RuV.cells)) (by repeat first | exact .here _ _ | assumption | apply Pick.there)).pick (A := blkA q 141 [.slice A Y.length c]) (by repeat first | exact .here _ _ | assumption | apply Pick.there))⟩)
        | (rw [hE]
           refine ⟨congrArg (fun b => Ending.returned (.bool b)) ?_, (((((hS.pick (A := rowA 3 1 (some ⟨g14, 0, none⟩) 3 3 (([s.previous, s.pending, s.shadow] : List Int).map (Value.int .i64))) (by repeat first | exact .here _ _ | assumption | apply Pick.there)).drop.pick (A := blkA g3 35 _) (by repeat first | exact .here _ _ | assumption | apply Pick.there)).drop.pick (A := blkA g1 41 [.int .i64 s.active, .int .i64 s.previous, .int .i64 s.pending, .int .u64 s.at_, .int .i64 s.shadow, .pointer (some ⟨q, 0, none⟩), .int .i64 n, .slice none 0 0]) (by repeat first | exact .here _ _ | assumption | apply Pick.there)).drop.pick (A := rowA 47 9 A Y.length c (Y.flatMap RuV.cells)) (by repeat first | exact .here _ _ | assumption | apply Pick.there)).pick (A := blkA q 141 [.slice A Y.length c]) (by repeat first | exact .here _ _ | assumption | apply Pick.there))⟩
           first
             | exact (decide_eq_false (by omega)).symm
             | (rw [decide_eq_decide]; omega))
set_option maxRecDepth 100000 in
theorem known_nil {s : StV} {n : Int} {a : Nat → Int} {v : Int} : Calls Try.prog 79 #[.agg (bdc s none n a).toArray, .int .i64 v] W fun e w' => e = .returned (.int .i64 51) ∧ St W w' [] := by
  have hS := St.init W
  refine calls_of_wpE (args := [_, _]) Try.func79 rfl rfl rfl ?_
  refine c_seq ?_
  refine c_region ?_
  refine t_box (v := (.agg _)) rfl rfl hS (fun g2 w hS => ?_)
  replace hS := hS.recast (show _ = blkA g2 34 [.int .i64 s.active, .int .i64 s.previous, .int .i64 s.pending, .int .u64 s.at_, .int .i64 s.shadow, .pointer none, .int .i64 n, .int .u64 (a 0), .int .u64 (a 1), .int .u64 (a 2), .int .u64 (a 3), .int .u64 (a 4), .int .u64 (a 5), .int .u64 (a 6)] from rfl)
  refine t_q (q_assign) ?_
  refine t_nil ?_
  refine c_seq ?_
  refine c_seq ?_
  refine c_region ?_
  refine t_q (q_fieldAddr 5 Try.runUnderlying34 rfl Try.sizeOf29 (by decide) rfl rfl) ?_
  refine t_q (q_load1 Try.isAgg29 rfl (hS.cell (by repeat first | exact .here _ _ | assumption | apply Pick.there) rfl)) ?_
  refine t_q (q_mv (.int _ _) rfl) ?_
  refine t_call Try.call59 (rgget_none (p := none) (.inl rfl)) rfl ?_
  rintro e w ⟨rfl, hT⟩
  refine ⟨_, rfl, ?_⟩
  replace hS := hS.after hT
  refine t_q (q_mv (.tuple _) rfl) ?_
  refine t_q (q_extract rfl rfl) ?_
  refine t_q (q_extract rfl rfl) ?_
  refine t_alloc Try.zeroValue47 rfl hS (fun g5 w hS => ?_)
  refine t_store (v := (.agg _)) Try.sizeOf47 hS (by repeat first | exact .here _ _ | assumption | apply Pick.there) rfl rfl rfl rfl rfl rfl (fun w hS => ?_)
  replace hS := hS.recast (congrArg (blkA g5 47) (rset_full (vs := ruZ.cells) rfl))
  refine t_q (q_as (.bool _) rfl) ?_
  refine t_nil ?_
  refine c_seq ?_
  refine c_region ?_
  refine t_q (q_mv (.bool _) rfl) ?_
  refine t_q (q_not rfl) ?_
  refine t_nil ?_
  refine c_cond_t rfl rfl ?_
  refine c_seq ?_
  refine c_region ?_
  refine t_q (q_assign) ?_
  refine t_nil ?_
  refine c_ret ?_
  refine r_one rfl rfl ?_
  exact ⟨rfl, hS.nil⟩
set_option maxHeartbeats 2000000 in
set_option maxRecDepth 100000 in
theorem sound_nil {s : StV} {n : Int} {a : Nat → Int} : Calls Try.prog 24 #[.agg (bdc s none n a).toArray] W fun e w' => e = .returned (.bool false) ∧ St W w' [] := by
  have hS := St.init W
  refine calls_of_wpE (args := [_]) Try.func24 rfl rfl rfl ?_
  refine c_seq ?_
  refine c_region ?_
  refine t_box (v := (.agg _)) rfl rfl hS (fun g1 w hS => ?_)
  replace hS := hS.recast (show _ = blkA g1 34 [.int .i64 s.active, .int .i64 s.previous, .int .i64 s.pending, .int .u64 s.at_, .int .i64 s.shadow, .pointer none, .int .i64 n, .int .u64 (a 0), .int .u64 (a 1), .int .u64 (a 2), .int .u64 (a 3), .int .u64 (a 4), .int .u64 (a 5), .int .u64 (a 6)] from rfl)
  refine t_q (q_assign) ?_
  refine t_nil ?_
  refine c_seq ?_
  refine c_region ?_
  refine t_q (q_fieldAddr 0 Try.runUnderlying34 rfl Try.sizeOf28 (by decide) rfl rfl) ?_
  refine t_q (q_cast (v' := .agg s.cells.toArray) (q_load_sub Try.isAgg28 Try.sizeOf28 rfl (hS.blk (by repeat first | exact .here _ _ | assumption | apply Pick.there)) (by show 0 + 0 + 5 ≤ 14; decide)) (by rfl)) ?_
  refine t_alloc Try.zeroValue28 rfl hS (fun g3 w hS => ?_)
  refine t_store (v := (.agg _)) Try.sizeOf28 hS (by repeat first | exact .here _ _ | assumption | apply Pick.there) rfl rfl rfl rfl rfl rfl (fun w hS => ?_)
  replace hS := hS.recast (congrArg (blkA g3 28) (rset_full (vs := s.cells) rfl))
  replace hS := hS.recast (show _ = blkA g3 28 [.int .i64 s.active, .int .i64 s.previous, .int .i64 s.pending, .int .u64 s.at_, .int .i64 s.shadow] from rfl)
  refine t_nil ?_
  refine c_seq ?_
  refine c_seq ?_
  refine c_region ?_
  refine t_q (q_fieldAddr 1 Try.runUnderlying28 rfl Try.sizeOf3 (by decide) rfl rfl) ?_
  refine t_q (q_load1 Try.isAgg3 rfl (hS.cell (by repeat first | exact .here _ _ | assumption | apply Pick.there) rfl)) ?_
  refine t_q (q_fieldAddr 2 Try.runUnderlying28 rfl Try.sizeOf3 (by decide) rfl rfl) ?_
  refine t_q (q_load1 Try.isAgg3 rfl (hS.cell (by repeat first | exact .here _ _ | assumption | apply Pick.there) rfl)) ?_
  refine t_q (q_fieldAddr 4 Try.runUnderlying28 rfl Try.sizeOf3 (by decide) rfl rfl) ?_
  refine t_q (q_load1 Try.isAgg3 rfl (hS.cell (by repeat first | exact .here _ _ | assumption | apply Pick.there) rfl)) ?_
  refine t_q (q_build_arr [(0, 1), (1, 1), (2, 1)] [(.int _ _), (.int _ _), (.int _ _)] Try.zeroValue142 Try.runUnderlying142 Try.sizeOf3 rfl rfl rfl) ?_
  refine t_q (q_move) ?_
  refine t_nil ?_
  refine c_block ?_
  refine c_loop [2, 5, 15, 16, 17, 18, 19, 20, 21, 22, 23, 24, 25, 26] (fun k σ w => ∃ j : Nat, σ 15 = .int .i64 (j : Int) ∧ j ≤ 3 ∧ 3 - j ≤ k ∧ St W w [blkA g3 28 [.int .i64 s.active, .int .i64 s.previous, .int .i64 s.pending, .int .u64 s.at_, .int .i64 s.shadow], blkA g1 34 [.int .i64 s.active, .int .i64 s.previous, .int .i64 s.pending, .int .u64 s.at_, .int .i64 s.shadow, .pointer none, .int .i64 n, .int .u64 (a 0), .int .u64 (a 1), .int .u64 (a 2), .int .u64 (a 3), .int .u64 (a 4), .int .u64 (a 5), .int .u64 (a 6)]]) (3) rfl (⟨0, rfl, by omega, by omega, hS⟩) ?_
  skip
  rintro k σ w ⟨j, h15, hj, hk, hS⟩
  refine c_know 15 h15 ?_
  clear h15
  refine c_seq ?_
  refine c_region ?_
  refine t_q (q_lss rfl rfl) ?_
  refine t_nil ?_
  refine c_seq ?_
  refine c_cond rfl ?_ ?_
  · intro hc2
    have hc2d := of_decide_eq_true hc2
    refine c_skip ?_
    refine c_seq ?_
    refine c_block ?_
    refine c_seq ?_
    refine c_region ?_
    refine t_q (q_index_arr Try.runUnderlying142 Try.sizeOf3 Try.isAgg3 rfl rfl (by omega) (v3_at (by omega))) ?_
    refine t_q (q_as (.int _ _) rfl) ?_
    refine t_nil ?_
    refine c_seq ?_
    refine c_region ?_
    refine t_q (q_mv (.int _ _) rfl) ?_
    refine t_q (q_neq rfl rfl) ?_
    refine t_q (q_mv (.bool _) rfl) ?_
    refine t_case 20 rfl ?_ ?_
    · intro hg4
      have hg4d := of_decide_eq_true hg4
      refine t_yes rfl rfl hg4 ?_
      refine t_q (q_cast (v' := .agg (bdc s none n a).toArray) (q_load_blk Try.isAgg34 Try.sizeOf34 rfl (hS.blk (by repeat first | exact .here _ _ | assumption | apply Pick.there)) rfl) (by rfl)) ?_
      refine t_yes rfl rfl hg4 ?_
      refine t_q (q_mv (.int _ _) rfl) ?_
      refine t_yes rfl rfl hg4 ?_
      refine t_call Try.call79 (known_nil (s := s) (n := n) (a := a)) rfl ?_
      rintro e w ⟨rfl, hT⟩
      refine ⟨_, rfl, ?_⟩
      replace hS := hS.after hT
      refine t_yes rfl rfl hg4 ?_
      refine t_q (q_cast (v' := .bool true) (q_neq rfl rfl) (by rfl)) ?_
      refine t_q (q_pick_t rfl hg4) ?_
      refine t_nil ?_
      refine c_cond_t rfl rfl ?_
      refine c_seq ?_
      refine c_region ?_
      refine t_q (q_assign) ?_
      refine t_nil ?_
      refine c_ret ?_
      refine r_one rfl rfl ?_
      exact ⟨rfl, hS.nil⟩
    · intro hg4
      have hg4d := of_decide_eq_false hg4
      refine t_no rfl rfl (by rw [hg4]; decide) ?_
      refine t_no rfl rfl (by rw [hg4]; decide) ?_
      refine t_no rfl rfl (by rw [hg4]; decide) ?_
      refine t_no rfl rfl (by rw [hg4]; decide) ?_
      refine t_q (q_pick_f rfl hg4) ?_
      refine t_nil ?_
      refine c_cond_f rfl rfl ?_
      refine c_skip ?_
      refine c_region ?_
      refine t_q (q_add_i64 rfl rfl (by omega)) ?_
      refine t_q (q_mv (.int _ _) rfl) ?_
      refine t_nil ?_
      exact ⟨k - 1, by omega, j + 1, rfl, by omega, by omega, hS⟩
  · intro hc2
    have hc2d := of_decide_eq_false hc2
    refine c_exit ?_
    refine ite_t rfl ?_
    refine c_seq ?_
    refine c_region ?_
    refine t_q (q_cast (v' := .agg (bdc s none n a).toArray) (q_load_blk Try.isAgg34 Try.sizeOf34 rfl (hS.blk (by repeat first | exact .here _ _ | assumption | apply Pick.there)) rfl) (by rfl)) ?_
    refine t_q (q_fieldAddr 0 Try.runUnderlying28 rfl Try.sizeOf3 (by decide) rfl rfl) ?_
    refine t_q (q_load1 Try.isAgg3 rfl (hS.cell (by repeat first | exact .here _ _ | assumption | apply Pick.there) rfl)) ?_
    refine t_call Try.call79 (known_nil (s := s) (n := n) (a := a)) rfl ?_
    rintro e w ⟨rfl, hT⟩
    refine ⟨_, rfl, ?_⟩
    replace hS := hS.after hT
    refine t_q (q_cast (v' := .bool false) (q_eql rfl rfl) (by rfl)) ?_
    refine t_q (q_mv (.bool _) rfl) ?_
    refine t_no rfl rfl (by decide) ?_
    refine t_no rfl rfl (by decide) ?_
    refine t_no rfl rfl (by decide) ?_
    refine t_no rfl rfl (by decide) ?_
    refine t_no rfl rfl (by decide) ?_
    refine t_q (q_pick_f rfl rfl) ?_
    refine t_q (q_mv (.bool _) rfl) ?_
    refine t_no rfl rfl (by decide) ?_
    refine t_no rfl rfl (by decide) ?_
    refine t_no rfl rfl (by decide) ?_
    refine t_no rfl rfl (by decide) ?_
    refine t_no rfl rfl (by decide) ?_
    refine t_q (q_pick_f rfl rfl) ?_
    refine t_q (q_mv (.bool _) rfl) ?_
    refine t_no rfl rfl (by decide) ?_
    refine t_no rfl rfl (by decide) ?_
    refine t_no rfl rfl (by decide) ?_
    refine t_no rfl rfl (by decide) ?_
    refine t_no rfl rfl (by decide) ?_
    refine t_no rfl rfl (by decide) ?_
    refine t_no rfl rfl (by decide) ?_
    refine t_q (q_pick_f rfl rfl) ?_
    refine t_q (q_as (.bool _) rfl) ?_
    refine t_nil ?_
    refine c_ret ?_
    refine r_one rfl rfl ?_
    exact ⟨rfl, hS.nil⟩
set_option maxRecDepth 100000 in
theorem apply_nil {s : StV} {n : Int} {a : Nat → Int} {c : CmdV} {i : Int} : Calls Try.prog 20 #[.agg (bdc s none n a).toArray, .agg c.cells.toArray, .int .u64 i] W fun e w' => e = .returned (.tuple #[.agg (bdc s none n a).toArray, .agg evZ.cells.toArray, .int .i64 1]) ∧ St W w' [] := by
  have hS := St.init W
  refine calls_of_wpE (args := [_, _, _]) Try.func20 rfl rfl rfl ?_
  refine c_seq ?_
  refine c_region ?_
  refine t_box (v := (.agg _)) rfl rfl hS (fun g3 w hS => ?_)
  replace hS := hS.recast (show _ = blkA g3 34 [.int .i64 s.active, .int .i64 s.previous, .int .i64 s.pending, .int .u64 s.at_, .int .i64 s.shadow, .pointer none, .int .i64 n, .int .u64 (a 0), .int .u64 (a 1), .int .u64 (a 2), .int .u64 (a 3), .int .u64 (a 4), .int .u64 (a 5), .int .u64 (a 6)] from rfl)
  refine t_box (v := (.agg _)) rfl rfl hS (fun g4 w hS => ?_)
  replace hS := hS.recast (show _ = blkA g4 49 [.int .i64 c.kind, .int .u64 c.client, .int .u64 c.req, .int .i64 c.account, .int .u64 c.id, .int .i64 c.side, .int .i64 c.typ, .int .i64 c.asset, .int .i64 c.price, .int .i64 c.qty, .int .i64 c.version, .int .i64 c.replica, .int .u64 c.at_, .int .i64 c.rules.version, .slice c.rules.ticks.A c.rules.ticks.l.length c.rules.ticks.c, .int .i64 c.rules.lot, .int .i64 c.rules.band, .slice c.rules.fees.A c.rules.fees.l.length c.rules.fees.c, .int .i64 c.rules.round, .int .i64 c.rules.priority, .int .i64 c.rules.self, .int .i64 c.rules.layout] from rfl)
  refine t_alloc Try.zeroValue34 rfl hS (fun g6 w hS => ?_)
  refine t_alloc Try.zeroValue55 rfl hS (fun g7 w hS => ?_)
  refine t_q (q_assign) ?_
  refine t_nil ?_
  refine c_seq ?_
  refine c_seq ?_
  refine c_region ?_
  refine t_q (q_fieldAddr 5 Try.runUnderlying34 rfl Try.sizeOf29 (by decide) rfl rfl) ?_
  refine t_q (q_load1 Try.isAgg29 rfl (hS.cell (by repeat first | exact .here _ _ | assumption | apply Pick.there) rfl)) ?_
  refine t_q (q_eql_ptr_nil Try.runUnderlying29 rfl rfl) ?_
  refine t_nil ?_
  refine c_cond_t rfl rfl ?_
  refine c_seq ?_
  refine c_region ?_
  refine t_q (q_cast (v' := .agg (bdc s none n a).toArray) (q_load_blk Try.isAgg34 Try.sizeOf34 rfl (hS.blk (by repeat first | exact .here _ _ | assumption | apply Pick.there)) rfl) (by rfl)) ?_
  refine t_q (q_build (qs := [(0, 1), (1, 1), (2, 1), (3, 1), (4, 1), (5, 1), (6, 1), (7, 1), (8, 1), (9, 1), (10, 1), (11, 1)]) [(.int _ _), (.int _ _), (.int _ _), (.int _ _), (.int _ _), (.int _ _), (.int _ _), (.int _ _), (.int _ _), (.int _ _), (.int _ _), (.int _ _)] Try.zeroValue55 Try.runUnderlying55 ⟨rfl, Try.sizeOf3, rfl, Try.sizeOf3, rfl, Try.sizeOf26, rfl, Try.sizeOf26, rfl, Try.sizeOf3, rfl, Try.sizeOf2, rfl, Try.sizeOf2, rfl, Try.sizeOf2, rfl, Try.sizeOf2, rfl, Try.sizeOf53, rfl, Try.sizeOf3, rfl, Try.sizeOf26, trivial⟩ rfl rfl) ?_
  refine t_store (v := (.agg _)) Try.sizeOf34 hS (by repeat first | exact .here _ _ | assumption | apply Pick.there) rfl rfl rfl rfl rfl rfl (fun w hS => ?_)
  replace hS := hS.recast (congrArg (blkA g6 34) (rset_full (vs := bdc s none n a) rfl))
  refine t_store (v := (.agg _)) Try.sizeOf55 hS (by repeat first | exact .here _ _ | assumption | apply Pick.there) rfl rfl rfl rfl rfl rfl (fun w hS => ?_)
  replace hS := hS.recast (congrArg (blkA g7 55) (rset_full (vs := evZ.cells) rfl))
  refine t_q (q_assign) ?_
  refine t_nil ?_
  refine c_ret ?_
  refine r_three rfl (res1_cellN Try.isAgg34 Try.sizeOf34 rfl (hS.blk (by repeat first | exact .here _ _ | assumption | apply Pick.there)) rfl) (res1_cellN Try.isAgg55 Try.sizeOf55 rfl (hS.blk (by repeat first | exact .here _ _ | assumption | apply Pick.there)) rfl) rfl ?_
  exact ⟨rfl, hS.nil⟩
end Go.Proofs.Ytmgobaojioaioaa
