/- What counts turns at the agreed entry, or by a rollback: the walk. -/
import Derived.Test.YtmgobaojioaioaaYg
import Derived.Test.YtmgobaojioaioaaYj
namespace Go.Proofs.Ytmgobaojioaioaa
open Go Go.RowKit Go.Lib
variable {W : World}
/-- whatever counts, or is to count, is supported by all -/
structure Agr (s : StV) (n : Int) (a : Nat → Int) : Prop where
  act : s.active ≠ 1 → allT n a s.active = true
  sha : 1 < s.shadow → allT n a s.shadow = true
  pen : s.pending ≠ 0 → allT n a s.pending = true
  pre : s.previous ≠ 0 → s.previous ≠ 1 → allT n a s.previous = true
theorem agr0 {n : Int} {a : Nat → Int} : Agr ⟨1, 0, 0, 0, 0⟩ n a := ⟨fun h => absurd rfl h, fun h => absurd h (by show ¬ (1 : Int) < 0; decide), fun h => absurd rfl h, fun h => absurd rfl h⟩
theorem allT_add {n v r u : Int} {a : Nat → Int} (hs : Sb a) (h : allT n a v = true) : allT n (addT a r u) v = true := by
  unfold allT at h ⊢
  simp only [Bool.and_eq_true, decide_eq_true_eq] at h ⊢
  refine ⟨h.1, h.2.1, fun i hi => ?_⟩
  have h3 := h.2.2 i hi
  unfold addT upd1
  by_cases hir : i = r.toNat
  · have hv : (if i = r.toNat then orT a u r.toNat else a i) = orT a u i := by rw [if_pos hir, ← hir]
    show (((if i = r.toNat then orT a u r.toNat else a i).toNat ||| bitN v : Nat) : Int) = _
    rw [hv]
    have h4 : (a i).toNat ||| bitN v = (a i).toNat := by
      have h5 : (((a i).toNat ||| bitN v : Nat) : Int) = a i := h3
      have := (hs i).1
      omega
    show ((((((a i).toNat ||| bitN u : Nat) : Int)).toNat ||| bitN v : Nat) : Int) = (((a i).toNat ||| bitN u : Nat) : Int)
    rw [Int.toNat_natCast, Nat.or_assoc, Nat.or_comm (bitN u), ← Nat.or_assoc, h4]
  · have hv : (if i = r.toNat then orT a u r.toNat else a i) = a i := if_neg hir
    show (((if i = r.toNat then orT a u r.toNat else a i).toNat ||| bitN v : Nat) : Int) = _
    rw [hv]
    exact h3
theorem Agr.add {s : StV} {n r u : Int} {a : Nat → Int} (h : Agr s n a) (hs : Sb a) : Agr s n (addT a r u) := ⟨fun h1 => allT_add hs (h.act h1), fun h1 => allT_add hs (h.sha h1), fun h1 => allT_add hs (h.pen h1), fun h1 h2 => allT_add hs (h.pre h1 h2)⟩
theorem step_agr {s : StV} {n : Int} {a : Nat → Int} (h : Agr s n a) (i : Int) : Agr (stepV s i).1 n a := by
  by_cases hc : s.pending = 0 ∨ s.at_ ≠ i
  · rw [stepV_no hc]; exact h
  · rw [stepV_yes hc]
    have hp : s.pending ≠ 0 := fun h => hc (.inl h)
    exact ⟨fun _ => h.pen hp, fun h1 => absurd h1 (by show ¬ (1 : Int) < 0; decide), fun h1 => absurd rfl h1, fun _ h1 => h.act h1⟩
theorem step_fact {s : StV} {n : Int} {a : Nat → Int} (h : Agr s n a) {i : Int} (hne : (stepV s i).1.active ≠ s.active) : s.pending = (stepV s i).1.active ∧ s.at_ = i ∧ allT n a (stepV s i).1.active = true := by
  by_cases hc : s.pending = 0 ∨ s.at_ ≠ i
  · rw [stepV_no hc] at hne; exact absurd rfl hne
  · rw [stepV_yes hc]
    exact ⟨rfl, by omega, h.pen fun h => hc (.inl h)⟩
theorem ap_agr {s : StV} {M : List RuV} {n : Int} {a : Nat → Int} {c : CmdV} {i : Int} (h : Agr s n a) (hs : Sb a) : Agr (apS s M n a c i) n (apA s M n a c i) := by
  unfold apS apA
  by_cases h0 : (apV s M n a c i).e = 0
  · rw [if_pos h0, if_pos h0]
    by_cases h9 : c.kind = 9
    · rw [ap_9 h9]; exact h
    by_cases h10 : c.kind = 10
    · by_cases hk : vknownE M c.version = 0
      · rw [ap_10a h10 hk]
        show Agr s n (if _ then addT a c.replica c.version else a)
        split
        · exact h.add hs
        · exact h
      · rw [ap_10b h10 hk]; exact h
    by_cases h11 : c.kind = 11
    · by_cases hk : vreadyE M s c.version s.shadow = 0 ∧ allT n a c.version = false
      · rw [ap_11a h11 hk.1 hk.2] at h0; cases h0
      · rw [ap_11b h11 hk] at h0 ⊢
        have h1 : vreadyE M s c.version s.shadow = 0 := h0
        refine ⟨h.act, fun _ => ?_, h.pen, h.pre⟩
        by_cases hb : allT n a c.version = true
        · exact hb
        · rw [Bool.not_eq_true] at hb
          exact absurd ⟨h1, hb⟩ hk
    by_cases h12 : c.kind = 12
    · rw [ap_12 h12]
      exact ⟨h.act, fun h1 => absurd h1 (by show ¬ (1 : Int) < 0; decide), h.pen, h.pre⟩
    by_cases h13 : c.kind = 13
    · rw [ap_13 h13] at h0 ⊢
      have h1 : vschedE M s n a c.version c.at_ i = 0 := h0
      refine ⟨h.act, h.sha, fun _ => ?_, h.pre⟩
      unfold vschedE at h1
      by_cases hb : allT n a c.version = true
      · exact hb
      · exfalso
        rw [Bool.not_eq_true] at hb
        rw [hb] at h1
        split at h1
        · rename_i h2; exact h2 h1
        · split at h1
          · cases h1
          · split at h1
            · cases h1
            · simp at h1
    by_cases h14 : c.kind = 14
    · rw [ap_14 h14] at h0 ⊢
      by_cases hp : s.pending ≠ 0
      · rw [backV_1 hp]
        exact ⟨h.act, h.sha, fun h1 => absurd rfl h1, h.pre⟩
      · by_cases hq : s.previous = 0
        · rw [backV_2 hp hq] at h0; cases h0
        · rw [backV_3 hp hq]
          exact ⟨fun h1 => h.pre hq h1, fun h1 => absurd h1 (by show ¬ (1 : Int) < 0; decide), fun h1 => absurd rfl h1, fun h1 => absurd rfl h1⟩
    · rw [ap_0 (by omega)]; exact h
  · rw [if_neg h0, if_neg h0]; exact h
theorem apA_b {s : StV} {M : List RuV} {n : Int} {a : Nat → Int} {c : CmdV} {i : Int} (hs : Sb a) : Sb (apA s M n a c i) := by
  unfold apA
  by_cases h0 : (apV s M n a c i).e = 0
  · rw [if_pos h0]
    by_cases h10 : c.kind = 10
    · by_cases hk : vknownE M c.version = 0
      · rw [ap_10a h10 hk]
        show Sb (if _ then addT a c.replica c.version else a)
        split
        · exact addT_b hs _ _
        · exact hs
      · rw [ap_10b h10 hk]; exact hs
    · by_cases h9 : c.kind = 9
      · rw [ap_9 h9]; exact hs
      · unfold apV
        rw [if_neg h9, if_neg h10]
        by_cases h11 : c.kind = 11
        · rw [if_pos h11]; exact hs
        rw [if_neg h11]
        by_cases h12 : c.kind = 12
        · rw [if_pos h12]; exact hs
        rw [if_neg h12]
        by_cases h13 : c.kind = 13
        · rw [if_pos h13]; exact hs
        rw [if_neg h13]
        by_cases h14 : c.kind = 14
        · rw [if_pos h14]; exact hs
        rw [if_neg h14]; exact hs
  · rw [if_neg h0]; exact hs
theorem ap_fact {s : StV} {M : List RuV} {n : Int} {a : Nat → Int} {c : CmdV} {i : Int} (hne : (apS s M n a c i).active ≠ s.active) : c.kind = 14 ∧ (apV s M n a c i).e = 0 ∧ s.previous = (apS s M n a c i).active ∧ (apE s M n a c i).version = (apS s M n a c i).active := by
  unfold apS at hne
  by_cases h0 : (apV s M n a c i).e = 0
  · rw [if_pos h0] at hne
    by_cases h14 : c.kind = 14
    · unfold apS apE
      rw [if_pos h0, if_pos h0]
      rw [ap_14 h14] at h0 hne ⊢
      by_cases hp : s.pending ≠ 0
      · rw [backV_1 hp] at hne; exact absurd rfl hne
      · by_cases hq : s.previous = 0
        · rw [backV_2 hp hq] at h0; cases h0
        · rw [backV_3 hp hq]
          exact ⟨h14, rfl, rfl, rfl⟩
    · exfalso
      refine hne ?_
      unfold apV
      rw [if_neg h14]
      repeat' split
      all_goals rfl
  · rw [if_neg h0] at hne; exact absurd rfl hne
attribute [local irreducible] blkA rowA rdsA mapA regA
set_option maxHeartbeats 4000000 in
set_option maxRecDepth 100000 in
theorem VersionAgreed_calls {m : Int} {A0 : Option Addr} {c0 : Nat} {l : List CmdV} (hl : Rd W 22 A0 l.length (fun i => (l.getD i default).cells)) (hm : l.length ≤ 9223372036854775807) (hok : ∀ o ∈ l, o.Ok W) : Calls Try.prog 3 #[.int .i64 m, .slice A0 l.length c0] W fun e w' => e = .returned (.bool true) ∧ St W w' [] := by
  have hS := St.init W
  obtain ⟨n, hn0⟩ : ∃ n : Int, n = 1 + (m % 18446744073709551616) % 4 := ⟨_, rfl⟩
  have hn : 1 ≤ n ∧ n ≤ 4 := by omega
  refine calls_of_wpE (args := [_, _]) Try.func3 rfl rfl rfl ?_
  refine c_seq ?_
  refine c_region ?_
  refine t_q (q_assign) ?_
  refine t_nil ?_
  refine c_seq ?_
  refine c_seq ?_
  refine c_region ?_
  refine t_q (q_mv (.slice _ _ _) rfl) ?_
  refine t_call Try.call15 (vlight_calls (Rd.st hl hS) hm) rfl ?_
  rintro e w ⟨rfl, hT⟩
  refine ⟨_, rfl, ?_⟩
  replace hS := hS.after hT
  refine t_q (q_not rfl) ?_
  refine t_nil ?_
  refine c_cond rfl ?_ ?_
  · intro hc2
    refine c_seq ?_
    refine c_region ?_
    refine t_call Try.call16 (vlives_calls) rfl ?_
    rintro e w ⟨rfl, hT⟩
    refine ⟨_, rfl, ?_⟩
    replace hS := hS.after hT
    refine t_q (q_as (.bool _) rfl) ?_
    refine t_nil ?_
    refine c_ret ?_
    refine r_one rfl rfl ?_
    exact ⟨rfl, hS.nil⟩
  · intro hc2
    have hLC := bnf (by assumption : (!lightC l) = false)
    have hl60 := lightC_len hLC
    refine c_skip ?_
    refine c_seq ?_
    refine c_region ?_
    refine t_q (q_mv (.int _ _) rfl) ?_
    first | refine t_q (q_conv_u64 Try.runUnderlying3 Try.runUnderlying25 rfl (by omega)) ?_ | refine t_q (q_convm_u64 Try.runUnderlying3 Try.runUnderlying25 rfl) ?_
    refine t_q (q_rem_n rfl rfl (by omega) (by omega)) ?_
    refine t_q (q_conv_i64 Try.runUnderlying25 Try.runUnderlying3 rfl (by omega)) ?_
    refine t_q (q_cast (v' := .int .i64 n) (q_add_i64 rfl rfl (by omega)) (by rw [hn0])) ?_
    refine t_q (q_as (.int _ _) rfl) ?_
    refine t_nil ?_
    refine c_seq ?_
    refine c_region ?_
    refine t_q (q_mv (.int _ _) rfl) ?_
    refine t_call Try.call17 (begin_calls (n := n) hS (by omega)) rfl ?_
    rintro e w ⟨g, q, Aq, cq, ps0, y0, rfl, hy0, hb0, hS⟩
    refine ⟨_, rfl, ?_⟩
    refine t_q (q_mv (.tuple _) rfl) ?_
    refine t_q (q_extract rfl rfl) ?_
    refine t_q (q_extract rfl rfl) ?_
    refine t_alloc Try.zeroValue34 rfl hS (fun g5 w hS => ?_)
    refine t_alloc Try.zeroValue41 rfl hS (fun g6 w hS => ?_)
    refine t_store (v := (.agg _)) Try.sizeOf34 hS (by repeat first | exact .here _ _ | assumption | apply Pick.there) rfl rfl rfl rfl rfl rfl (fun w hS => ?_)
    replace hS := hS.recast (congrArg (blkA g5 34) (rset_full (vs := bdc (⟨1, 0, 0, 0, 0⟩ : StV) (some ⟨g, 0, none⟩) n (fun _ => 0)) rfl))
    replace hS := hS.recast (show blkA g5 34 _ = blkA g5 34 [.int .i64 (⟨1, 0, 0, 0, 0⟩ : StV).active, .int .i64 (⟨1, 0, 0, 0, 0⟩ : StV).previous, .int .i64 (⟨1, 0, 0, 0, 0⟩ : StV).pending, .int .u64 (⟨1, 0, 0, 0, 0⟩ : StV).at_, .int .i64 (⟨1, 0, 0, 0, 0⟩ : StV).shadow, .pointer (some ⟨g, 0, none⟩), .int .i64 n, .int .u64 ((fun _ => 0) 0), .int .u64 ((fun _ => 0) 1), .int .u64 ((fun _ => 0) 2), .int .u64 ((fun _ => 0) 3), .int .u64 ((fun _ => 0) 4), .int .u64 ((fun _ => 0) 5), .int .u64 ((fun _ => 0) 6)] from rfl)
    refine t_store (v := (.agg _)) Try.sizeOf41 hS (by repeat first | exact .here _ _ | assumption | apply Pick.there) rfl rfl rfl rfl rfl rfl (fun w hS => ?_)
    replace hS := hS.drop
    refine t_nil ?_
    refine c_seq ?_
    refine c_seq ?_
    refine c_region ?_
    refine t_q (q_mv (.slice _ _ _) rfl) ?_
    refine t_q (q_len_slice Try.runUnderlying22 rfl) ?_
    refine t_q (q_move) ?_
    refine t_nil ?_
    refine c_block ?_
    refine c_loop [4, 7, 8, 9, 10, 11, 12, 13, 30, 31, 32, 33, 34, 35, 36, 37, 38, 39, 40, 41, 42, 43, 44, 45, 46, 47, 48, 49, 50, 51, 52, 53, 54, 55, 56, 57, 58, 59, 60, 61, 62, 63, 64, 65, 66, 67, 68, 69, 70, 71, 72, 73, 74, 75, 76, 77, 78, 79, 80, 81, 82, 83, 84, 85, 86, 87, 88, 89, 90, 91, 92, 93, 94, 95, 96, 97, 98, 99, 100, 101, 102, 103, 104, 105, 106, 107, 108, 109, 110, 111, 112, 113, 114, 115, 116, 117, 118, 119, 120, 121, 122, 123, 124, 125, 126, 127, 128, 129, 130, 131, 132, 133, 134, 135, 136, 137, 138, 139, 140, 141, 142, 143, 144, 145, 146] (fun k σ w => ∃ (j : Nat) (s : StV) (M : List RuV) (a : Nat → Int) (ps : List RdP), σ 30 = .int .i64 (j : Int) ∧ j ≤ l.length ∧ l.length - j ≤ k ∧ Agr s n a ∧ Sb a ∧ St W w [blkA g5 34 [.int .i64 s.active, .int .i64 s.previous, .int .i64 s.pending, .int .u64 s.at_, .int .i64 s.shadow, .pointer (some ⟨g, 0, none⟩), .int .i64 n, .int .u64 (a 0), .int .u64 (a 1), .int .u64 (a 2), .int .u64 (a 3), .int .u64 (a 4), .int .u64 (a 5), .int .u64 (a 6)], regA W g M ps, rdsA ps]) (l.length) rfl (⟨0, (⟨1, 0, 0, 0, 0⟩ : StV), [(bas 1 none 0 none 0)], (fun _ => 0), ps0, rfl, by omega, by omega, agr0, sb0, ((((hS.pick (A := rdsA _) (by repeat first | exact .here _ _ | assumption | apply Pick.there)).pick (A := regA W g _ _) (by repeat first | exact .here _ _ | assumption | apply Pick.there)).pick (A := blkA g5 34 [.int .i64 (⟨1, 0, 0, 0, 0⟩ : StV).active, .int .i64 (⟨1, 0, 0, 0, 0⟩ : StV).previous, .int .i64 (⟨1, 0, 0, 0, 0⟩ : StV).pending, .int .u64 (⟨1, 0, 0, 0, 0⟩ : StV).at_, .int .i64 (⟨1, 0, 0, 0, 0⟩ : StV).shadow, .pointer (some ⟨g, 0, none⟩), .int .i64 n, .int .u64 ((fun _ => 0) 0), .int .u64 ((fun _ => 0) 1), .int .u64 ((fun _ => 0) 2), .int .u64 ((fun _ => 0) 3), .int .u64 ((fun _ => 0) 4), .int .u64 ((fun _ => 0) 5), .int .u64 ((fun _ => 0) 6)]) (by repeat first | exact .here _ _ | assumption | apply Pick.there))).front3⟩) ?_
    skip
    rintro k σ w ⟨j, s, M, a, ps, h30, hj, hk, hA, hsb, hS⟩
    refine c_know 30 h30 ?_
    clear h30
    refine c_seq ?_
    refine c_region ?_
    refine t_q (q_lss rfl rfl) ?_
    refine t_nil ?_
    refine c_seq ?_
    refine c_cond rfl ?_ ?_
    · intro hc8
      have hc8d := of_decide_eq_true hc8
      have hgj := lightC_gd hLC hok (j := j) (by omega)
      have hcat := (hok _ (getD_mem (d := default) (show j < l.length by omega))).at_
      refine c_skip ?_
      refine c_seq ?_
      refine c_block ?_
      refine c_seq ?_
      refine c_region ?_
      refine t_q (q_mv (.int _ _) rfl) ?_
      first | refine t_index_nat Try.runUnderlying22 Try.sizeOf49 (Rd.st hl hS) rfl rfl (by omega) (fun ad9 hl9 hx9 => ?_) | refine t_index Try.runUnderlying22 Try.sizeOf49 (Rd.st hl hS) rfl rfl (by omega) (fun ad9 hl9 hx9 => ?_)
      refine t_q (q_loadN Try.isAgg49 Try.sizeOf49 rfl hl9 hx9) ?_
      refine t_alloc Try.zeroValue49 rfl hS (fun g8 w hS => ?_)
      refine t_q (q_as (.int _ _) rfl) ?_
      refine t_store (v := (.agg _)) Try.sizeOf49 hS (by repeat first | exact .here _ _ | assumption | apply Pick.there) rfl rfl rfl rfl rfl rfl (fun w hS => ?_)
      replace hS := hS.recast (congrArg (blkA g8 49) (setN_full (vs := (l.getD j default).cells) (cmd_len (l.getD j default)).symm))
      replace hS := hS.recast (show _ = blkA g8 49 [.int .i64 (l.getD j default).kind, .int .u64 (l.getD j default).client, .int .u64 (l.getD j default).req, .int .i64 (l.getD j default).account, .int .u64 (l.getD j default).id, .int .i64 (l.getD j default).side, .int .i64 (l.getD j default).typ, .int .i64 (l.getD j default).asset, .int .i64 (l.getD j default).price, .int .i64 (l.getD j default).qty, .int .i64 (l.getD j default).version, .int .i64 (l.getD j default).replica, .int .u64 (l.getD j default).at_, .int .i64 (l.getD j default).rules.version, .slice (l.getD j default).rules.ticks.A (l.getD j default).rules.ticks.l.length (l.getD j default).rules.ticks.c, .int .i64 (l.getD j default).rules.lot, .int .i64 (l.getD j default).rules.band, .slice (l.getD j default).rules.fees.A (l.getD j default).rules.fees.l.length (l.getD j default).rules.fees.c, .int .i64 (l.getD j default).rules.round, .int .i64 (l.getD j default).rules.priority, .int .i64 (l.getD j default).rules.self, .int .i64 (l.getD j default).rules.layout] from rfl)
      refine t_nil ?_
      refine c_seq ?_
      refine c_region ?_
      refine t_q (q_mv (.int _ _) rfl) ?_
      refine t_q (q_add_i64 rfl rfl (by omega)) ?_
      first | refine t_q (q_conv_u64 Try.runUnderlying3 Try.runUnderlying26 rfl (by omega)) ?_ | refine t_q (q_convm_u64 Try.runUnderlying3 Try.runUnderlying26 rfl) ?_
      refine t_q (q_as (.int _ _) rfl) ?_
      refine t_nil ?_
      refine c_seq ?_
      refine c_region ?_
      refine t_q (q_fieldAddr 0 Try.runUnderlying34 rfl Try.sizeOf28 (by decide) rfl rfl) ?_
      refine t_q (q_cast (v' := .agg s.cells.toArray) (q_load_sub Try.isAgg28 Try.sizeOf28 rfl (hS.blk (by repeat first | exact .here _ _ | assumption | apply Pick.there)) (by show 0 + 0 + 5 ≤ 14; decide)) (by rfl)) ?_
      refine t_alloc Try.zeroValue28 rfl hS (fun g10 w hS => ?_)
      refine t_store (v := (.agg _)) Try.sizeOf28 hS (by repeat first | exact .here _ _ | assumption | apply Pick.there) rfl rfl rfl rfl rfl rfl (fun w hS => ?_)
      replace hS := hS.recast (congrArg (blkA g10 28) (rset_full (vs := s.cells) rfl))
      replace hS := hS.recast (show _ = blkA g10 28 [.int .i64 s.active, .int .i64 s.previous, .int .i64 s.pending, .int .u64 s.at_, .int .i64 s.shadow] from rfl)
      refine t_nil ?_
      refine c_seq ?_
      refine c_region ?_
      refine t_q (q_cast (v' := .agg s.cells.toArray) (q_load_blk Try.isAgg28 Try.sizeOf28 rfl (hS.blk (by repeat first | exact .here _ _ | assumption | apply Pick.there)) rfl) (by rfl)) ?_
      refine t_q (q_mv (.int _ _) rfl) ?_
      refine t_call Try.call18 (step_calls (x := s) (i := ((j : Int) + 1))) rfl ?_
      rintro e w ⟨rfl, hT⟩
      refine ⟨_, rfl, ?_⟩
      replace hS := hS.after hT
      obtain ⟨s1, hs1⟩ : ∃ x, x = (stepV s ((j : Int) + 1)).1 := ⟨_, rfl⟩
      rw [← hs1]
      have hA1 : Agr s1 n a := by rw [hs1]; exact step_agr hA _
      have hst : s1.active ≠ s.active → s.pending = s1.active ∧ s.at_ = ((j : Int) + 1) ∧ allT n a s1.active = true := by rw [hs1]; exact step_fact hA
      refine t_q (q_mv (.tuple _) rfl) ?_
      refine t_q (q_extract rfl rfl) ?_
      refine t_q (q_extract rfl rfl) ?_
      refine t_q (q_fieldAddr 0 Try.runUnderlying34 rfl Try.sizeOf28 (by decide) rfl rfl) ?_
      refine t_store (v := (.agg _)) Try.sizeOf28 hS (by repeat first | exact .here _ _ | assumption | apply Pick.there) rfl rfl rfl rfl rfl rfl (fun w hS => ?_)
      replace hS := hS.recast (show blkA g5 34 _ = blkA g5 34 [.int .i64 s1.active, .int .i64 s1.previous, .int .i64 s1.pending, .int .u64 s1.at_, .int .i64 s1.shadow, .pointer (some ⟨g, 0, none⟩), .int .i64 n, .int .u64 (a 0), .int .u64 (a 1), .int .u64 (a 2), .int .u64 (a 3), .int .u64 (a 4), .int .u64 (a 5), .int .u64 (a 6)] from rfl)
      refine t_nil ?_
      refine c_seq ?_
      refine c_seq ?_
      refine c_region ?_
      refine t_q (q_fieldAddr 0 Try.runUnderlying34 rfl Try.sizeOf28 (by decide) rfl rfl) ?_
      refine t_q (q_fieldAddr 0 Try.runUnderlying28 rfl Try.sizeOf3 (by decide) rfl rfl) ?_
      refine t_q (q_load1 Try.isAgg3 rfl (hS.cell (by repeat first | exact .here _ _ | assumption | apply Pick.there) rfl)) ?_
      refine t_q (q_fieldAddr 0 Try.runUnderlying28 rfl Try.sizeOf3 (by decide) rfl rfl) ?_
      refine t_q (q_load1 Try.isAgg3 rfl (hS.cell (by repeat first | exact .here _ _ | assumption | apply Pick.there) rfl)) ?_
      refine t_q (q_neq rfl rfl) ?_
      refine t_q (q_mv (.bool _) rfl) ?_
      refine t_case 53 rfl ?_ ?_
      · intro hg14
        have hg14d := of_decide_eq_true hg14
        refine t_yes rfl rfl hg14 ?_
        refine t_q (q_fieldAddr 2 Try.runUnderlying28 rfl Try.sizeOf3 (by decide) rfl rfl) ?_
        refine t_yes rfl rfl hg14 ?_
        refine t_q (q_load1 Try.isAgg3 rfl (hS.cell (by repeat first | exact .here _ _ | assumption | apply Pick.there) rfl)) ?_
        refine t_yes rfl rfl hg14 ?_
        refine t_q (q_fieldAddr 0 Try.runUnderlying34 rfl Try.sizeOf28 (by decide) rfl rfl) ?_
        refine t_yes rfl rfl hg14 ?_
        refine t_q (q_fieldAddr 0 Try.runUnderlying28 rfl Try.sizeOf3 (by decide) rfl rfl) ?_
        refine t_yes rfl rfl hg14 ?_
        refine t_q (q_load1 Try.isAgg3 rfl (hS.cell (by repeat first | exact .here _ _ | assumption | apply Pick.there) rfl)) ?_
        refine t_yes rfl rfl hg14 ?_
        refine t_q (q_neq rfl rfl) ?_
        refine t_yes rfl rfl hg14 ?_
        refine t_q (q_mv (.bool _) rfl) ?_
        refine t_case 60 rfl ?_ ?_
        · intro hg16
          have hg16d := of_decide_eq_true hg16
          refine t_no rfl rfl (by rw [hg16]; decide) ?_
          refine t_no rfl rfl (by rw [hg16]; decide) ?_
          refine t_no rfl rfl (by rw [hg16]; decide) ?_
          refine t_no rfl rfl (by rw [hg16]; decide) ?_
          refine t_yes rfl rfl hg14 ?_
          refine t_q (q_pick_t rfl hg16) ?_
          refine t_yes rfl rfl hg14 ?_
          refine t_q (q_mv (.bool _) rfl) ?_
          refine t_no rfl rfl (by decide) ?_
          refine t_no rfl rfl (by decide) ?_
          refine t_no rfl rfl (by decide) ?_
          refine t_no rfl rfl (by decide) ?_
          refine t_no rfl rfl (by decide) ?_
          refine t_no rfl rfl (by decide) ?_
          refine t_no rfl rfl (by decide) ?_
          refine t_yes rfl rfl hg14 ?_
          refine t_q (q_pick_t rfl rfl) ?_
          refine t_q (q_pick_t rfl hg14) ?_
          refine t_nil ?_
          refine c_cond_t rfl rfl ?_
          exfalso
          obtain ⟨h1, h2, h3⟩ := hst (by omega)
          first
            | omega
            | (have h4 := bnt (by assumption : (!allT n a s1.active) = true)
               rw [h3] at h4
               cases h4)
        · intro hg16
          have hg16d := of_decide_eq_false hg16
          refine t_yes rfl rfl hg16 ?_
          refine t_q (q_fieldAddr 3 Try.runUnderlying28 rfl Try.sizeOf26 (by decide) rfl rfl) ?_
          refine t_yes rfl rfl hg16 ?_
          refine t_q (q_load1 Try.isAgg26 rfl (hS.cell (by repeat first | exact .here _ _ | assumption | apply Pick.there) rfl)) ?_
          refine t_yes rfl rfl hg16 ?_
          refine t_q (q_mv (.int _ _) rfl) ?_
          refine t_yes rfl rfl hg16 ?_
          refine t_q (q_neq rfl rfl) ?_
          refine t_yes rfl rfl hg14 ?_
          refine t_q (q_pick_f rfl hg16) ?_
          refine t_yes rfl rfl hg14 ?_
          refine t_q (q_mv (.bool _) rfl) ?_
          refine t_case 66 rfl ?_ ?_
          · intro hg18
            have hg18d := of_decide_eq_true hg18
            refine t_no rfl rfl (by rw [hg18]; decide) ?_
            refine t_no rfl rfl (by rw [hg18]; decide) ?_
            refine t_no rfl rfl (by rw [hg18]; decide) ?_
            refine t_no rfl rfl (by rw [hg18]; decide) ?_
            refine t_no rfl rfl (by rw [hg18]; decide) ?_
            refine t_no rfl rfl (by rw [hg18]; decide) ?_
            refine t_no rfl rfl (by rw [hg18]; decide) ?_
            refine t_yes rfl rfl hg14 ?_
            refine t_q (q_pick_t rfl hg18) ?_
            refine t_q (q_pick_t rfl hg14) ?_
            refine t_nil ?_
            refine c_cond_t rfl rfl ?_
            exfalso
            obtain ⟨h1, h2, h3⟩ := hst (by omega)
            first
              | omega
              | (have h4 := bnt (by assumption : (!allT n a s1.active) = true)
                 rw [h3] at h4
                 cases h4)
          · intro hg18
            have hg18d := of_decide_eq_false hg18
            refine t_yes rfl rfl hg18 ?_
            refine t_q (q_fieldAddr 6 Try.runUnderlying34 rfl Try.sizeOf32 (by decide) rfl rfl) ?_
            refine t_yes rfl rfl hg18 ?_
            refine t_q (q_cast (v' := .agg (tcs n a).toArray) (q_load_sub Try.isAgg32 Try.sizeOf32 rfl (hS.blk (by repeat first | exact .here _ _ | assumption | apply Pick.there)) (by show 0 + 6 + 8 ≤ 14; decide)) (by rfl)) ?_
            refine t_yes rfl rfl hg18 ?_
            refine t_q (q_fieldAddr 0 Try.runUnderlying34 rfl Try.sizeOf28 (by decide) rfl rfl) ?_
            refine t_yes rfl rfl hg18 ?_
            refine t_q (q_fieldAddr 0 Try.runUnderlying28 rfl Try.sizeOf3 (by decide) rfl rfl) ?_
            refine t_yes rfl rfl hg18 ?_
            refine t_q (q_load1 Try.isAgg3 rfl (hS.cell (by repeat first | exact .here _ _ | assumption | apply Pick.there) rfl)) ?_
            refine t_yes rfl rfl hg18 ?_
            refine t_call Try.call19 (all_calls (n := n) (v := s1.active) (s := a) (by omega) hsb) rfl ?_
            rintro e w ⟨rfl, hT⟩
            refine ⟨_, rfl, ?_⟩
            replace hS := hS.after hT
            refine t_yes rfl rfl hg18 ?_
            refine t_q (q_not rfl) ?_
            refine t_yes rfl rfl hg14 ?_
            refine t_q (q_pick_f rfl hg18) ?_
            refine t_q (q_pick_t rfl hg14) ?_
            refine t_nil ?_
            refine c_cond rfl ?_ ?_
            · intro hc20
              exfalso
              obtain ⟨h1, h2, h3⟩ := hst (by omega)
              first
                | omega
                | (have h4 := bnt (by assumption : (!allT n a s1.active) = true)
                   rw [h3] at h4
                   cases h4)
            · intro hc20
              refine c_skip ?_
              refine c_seq ?_
              refine c_region ?_
              refine t_q (q_fieldAddr 0 Try.runUnderlying34 rfl Try.sizeOf28 (by decide) rfl rfl) ?_
              refine t_q (q_cast (v' := .agg s1.cells.toArray) (q_load_sub Try.isAgg28 Try.sizeOf28 rfl (hS.blk (by repeat first | exact .here _ _ | assumption | apply Pick.there)) (by show 0 + 0 + 5 ≤ 14; decide)) (by rfl)) ?_
              refine t_store (v := (.agg _)) Try.sizeOf28 hS (by repeat first | exact .here _ _ | assumption | apply Pick.there) rfl rfl rfl rfl rfl rfl (fun w hS => ?_)
              replace hS := hS.recast (congrArg (blkA g10 28) (rset_full (vs := s1.cells) rfl))
              replace hS := hS.recast (show _ = blkA g10 28 [.int .i64 s1.active, .int .i64 s1.previous, .int .i64 s1.pending, .int .u64 s1.at_, .int .i64 s1.shadow] from rfl)
              refine t_nil ?_
              refine c_seq ?_
              refine c_region ?_
              refine t_q (q_cast (v' := .agg (bdc s1 (some ⟨g, 0, none⟩) n a).toArray) (q_load_blk Try.isAgg34 Try.sizeOf34 rfl (hS.blk (by repeat first | exact .here _ _ | assumption | apply Pick.there)) rfl) (by rfl)) ?_
              refine t_q (q_cast (v' := .agg (l.getD j default).cells.toArray) (q_load_blk Try.isAgg49 Try.sizeOf49 rfl (hS.blk (by repeat first | exact .here _ _ | assumption | apply Pick.there)) rfl) (by rfl)) ?_
              refine t_q (q_mv (.int _ _) rfl) ?_
              refine t_call Try.call20 (apply_calls (s := s1) (M := M) (n := n) (a := a) (c := (l.getD j default)) (i := ((j : Int) + 1)) ((hS.pick (A := rdsA _) (by repeat first | exact .here _ _ | assumption | apply Pick.there)).pick (A := regA W g _ _) (by repeat first | exact .here _ _ | assumption | apply Pick.there)) (by omega) hsb (RuBy.base hgj) hcat (by omega)) rfl ?_
              rintro e w ⟨ps2, rfl, hsp2, hS⟩
              refine ⟨_, rfl, ?_⟩
              obtain ⟨s2, hs2⟩ : ∃ x, x = apS s1 M n a (l.getD j default) ((j : Int) + 1) := ⟨_, rfl⟩
              obtain ⟨a2, ha2⟩ : ∃ x, x = apA s1 M n a (l.getD j default) ((j : Int) + 1) := ⟨_, rfl⟩
              obtain ⟨v2, hv2⟩ : ∃ x, x = apE s1 M n a (l.getD j default) ((j : Int) + 1) := ⟨_, rfl⟩
              obtain ⟨e2, he2⟩ : ∃ x, x = (apV s1 M n a (l.getD j default) ((j : Int) + 1)).e := ⟨_, rfl⟩
              rw [← hs2, ← ha2, ← hv2, ← he2]
              have hA2 : Agr s2 n a2 := by rw [hs2, ha2]; exact ap_agr hA1 hsb
              have hsb2 : Sb a2 := by rw [ha2]; exact apA_b hsb
              have hap : s2.active ≠ s1.active → (l.getD j default).kind = 14 ∧ e2 = 0 ∧ s1.previous = s2.active ∧ v2.version = s2.active := by rw [hs2, he2, hv2]; exact ap_fact
              refine t_q (q_mv (.tuple _) rfl) ?_
              refine t_q (q_extract rfl rfl) ?_
              refine t_q (q_extract rfl rfl) ?_
              refine t_q (q_extract rfl rfl) ?_
              refine t_alloc Try.zeroValue34 rfl hS (fun g11 w hS => ?_)
              refine t_alloc Try.zeroValue55 rfl hS (fun g12 w hS => ?_)
              refine t_store (v := (.agg _)) Try.sizeOf34 hS (by repeat first | exact .here _ _ | assumption | apply Pick.there) rfl rfl rfl rfl rfl rfl (fun w hS => ?_)
              replace hS := hS.recast (congrArg (blkA g11 34) (rset_full (vs := bdc s2 (some ⟨g, 0, none⟩) n a2) rfl))
              replace hS := hS.recast (show blkA g11 34 _ = blkA g11 34 [.int .i64 s2.active, .int .i64 s2.previous, .int .i64 s2.pending, .int .u64 s2.at_, .int .i64 s2.shadow, .pointer (some ⟨g, 0, none⟩), .int .i64 n, .int .u64 (a2 0), .int .u64 (a2 1), .int .u64 (a2 2), .int .u64 (a2 3), .int .u64 (a2 4), .int .u64 (a2 5), .int .u64 (a2 6)] from rfl)
              refine t_store (v := (.agg _)) Try.sizeOf55 hS (by repeat first | exact .here _ _ | assumption | apply Pick.there) rfl rfl rfl rfl rfl rfl (fun w hS => ?_)
              replace hS := hS.recast (congrArg (blkA g12 55) (rset_full (vs := v2.cells) rfl))
              replace hS := hS.recast (show _ = blkA g12 55 [.int .i64 v2.kind, .int .i64 v2.account, .int .u64 v2.id, .int .u64 v2.other, .int .i64 v2.side, .int .i64 v2.price, .int .i64 v2.qty, .int .i64 v2.fee, .int .i64 v2.fee2, .int .i64 v2.code, .int .i64 v2.version, .int .u64 v2.index] from rfl)
              refine t_q (q_as (.int _ _) rfl) ?_
              refine t_nil ?_
              refine c_seq ?_
              refine c_region ?_
              refine t_q (q_cast (v' := .agg (bdc s2 (some ⟨g, 0, none⟩) n a2).toArray) (q_load_blk Try.isAgg34 Try.sizeOf34 rfl (hS.blk (by repeat first | exact .here _ _ | assumption | apply Pick.there)) rfl) (by rfl)) ?_
              refine t_store (v := (.agg _)) Try.sizeOf34 hS (by repeat first | exact .here _ _ | assumption | apply Pick.there) rfl rfl rfl rfl rfl rfl (fun w hS => ?_)
              replace hS := hS.recast (congrArg (blkA g5 34) (rset_full (vs := bdc s2 (some ⟨g, 0, none⟩) n a2) rfl))
              replace hS := hS.recast (show blkA g5 34 _ = blkA g5 34 [.int .i64 s2.active, .int .i64 s2.previous, .int .i64 s2.pending, .int .u64 s2.at_, .int .i64 s2.shadow, .pointer (some ⟨g, 0, none⟩), .int .i64 n, .int .u64 (a2 0), .int .u64 (a2 1), .int .u64 (a2 2), .int .u64 (a2 3), .int .u64 (a2 4), .int .u64 (a2 5), .int .u64 (a2 6)] from rfl)
              refine t_nil ?_
              refine c_seq ?_
              refine c_seq ?_
              refine c_region ?_
              refine t_q (q_fieldAddr 0 Try.runUnderlying34 rfl Try.sizeOf28 (by decide) rfl rfl) ?_
              refine t_q (q_fieldAddr 0 Try.runUnderlying28 rfl Try.sizeOf3 (by decide) rfl rfl) ?_
              refine t_q (q_load1 Try.isAgg3 rfl (hS.cell (by repeat first | exact .here _ _ | assumption | apply Pick.there) rfl)) ?_
              refine t_q (q_fieldAddr 0 Try.runUnderlying28 rfl Try.sizeOf3 (by decide) rfl rfl) ?_
              refine t_q (q_load1 Try.isAgg3 rfl (hS.cell (by repeat first | exact .here _ _ | assumption | apply Pick.there) rfl)) ?_
              refine t_q (q_neq rfl rfl) ?_
              refine t_q (q_mv (.bool _) rfl) ?_
              refine t_case 93 rfl ?_ ?_
              · intro hg26
                have hg26d := of_decide_eq_true hg26
                refine t_yes rfl rfl hg26 ?_
                refine t_q (q_fieldAddr 0 Try.runUnderlying49 rfl Try.sizeOf3 (by decide) rfl rfl) ?_
                refine t_yes rfl rfl hg26 ?_
                refine t_q (q_load1 Try.isAgg3 rfl (hS.cell (by repeat first | exact .here _ _ | assumption | apply Pick.there) rfl)) ?_
                refine t_yes rfl rfl hg26 ?_
                refine t_q (q_neq rfl rfl) ?_
                refine t_yes rfl rfl hg26 ?_
                refine t_q (q_mv (.bool _) rfl) ?_
                refine t_case 97 rfl ?_ ?_
                · intro hg28
                  have hg28d := of_decide_eq_true hg28
                  refine t_no rfl rfl (by rw [hg28]; decide) ?_
                  refine t_no rfl rfl (by rw [hg28]; decide) ?_
                  refine t_yes rfl rfl hg26 ?_
                  refine t_q (q_pick_t rfl hg28) ?_
                  refine t_yes rfl rfl hg26 ?_
                  refine t_q (q_mv (.bool _) rfl) ?_
                  refine t_no rfl rfl (by decide) ?_
                  refine t_no rfl rfl (by decide) ?_
                  refine t_no rfl rfl (by decide) ?_
                  refine t_no rfl rfl (by decide) ?_
                  refine t_no rfl rfl (by decide) ?_
                  refine t_no rfl rfl (by decide) ?_
                  refine t_yes rfl rfl hg26 ?_
                  refine t_q (q_pick_t rfl rfl) ?_
                  refine t_yes rfl rfl hg26 ?_
                  refine t_q (q_mv (.bool _) rfl) ?_
                  refine t_no rfl rfl (by decide) ?_
                  refine t_no rfl rfl (by decide) ?_
                  refine t_no rfl rfl (by decide) ?_
                  refine t_no rfl rfl (by decide) ?_
                  refine t_no rfl rfl (by decide) ?_
                  refine t_no rfl rfl (by decide) ?_
                  refine t_yes rfl rfl hg26 ?_
                  refine t_q (q_pick_t rfl rfl) ?_
                  refine t_q (q_pick_t rfl hg26) ?_
                  refine t_nil ?_
                  refine c_cond_t rfl rfl ?_
                  exfalso
                  obtain ⟨h1, h2, h3, h4⟩ := hap (by omega)
                  omega
                · intro hg28
                  have hg28d := of_decide_eq_false hg28
                  refine t_yes rfl rfl hg28 ?_
                  refine t_q (q_mv (.int _ _) rfl) ?_
                  refine t_yes rfl rfl hg28 ?_
                  refine t_q (q_neq rfl rfl) ?_
                  refine t_yes rfl rfl hg26 ?_
                  refine t_q (q_pick_f rfl hg28) ?_
                  refine t_yes rfl rfl hg26 ?_
                  refine t_q (q_mv (.bool _) rfl) ?_
                  refine t_case 101 rfl ?_ ?_
                  · intro hg30
                    have hg30d := of_decide_eq_true hg30
                    refine t_no rfl rfl (by rw [hg30]; decide) ?_
                    refine t_no rfl rfl (by rw [hg30]; decide) ?_
                    refine t_no rfl rfl (by rw [hg30]; decide) ?_
                    refine t_no rfl rfl (by rw [hg30]; decide) ?_
                    refine t_no rfl rfl (by rw [hg30]; decide) ?_
                    refine t_no rfl rfl (by rw [hg30]; decide) ?_
                    refine t_yes rfl rfl hg26 ?_
                    refine t_q (q_pick_t rfl hg30) ?_
                    refine t_yes rfl rfl hg26 ?_
                    refine t_q (q_mv (.bool _) rfl) ?_
                    refine t_no rfl rfl (by decide) ?_
                    refine t_no rfl rfl (by decide) ?_
                    refine t_no rfl rfl (by decide) ?_
                    refine t_no rfl rfl (by decide) ?_
                    refine t_no rfl rfl (by decide) ?_
                    refine t_no rfl rfl (by decide) ?_
                    refine t_yes rfl rfl hg26 ?_
                    refine t_q (q_pick_t rfl rfl) ?_
                    refine t_q (q_pick_t rfl hg26) ?_
                    refine t_nil ?_
                    refine c_cond_t rfl rfl ?_
                    exfalso
                    obtain ⟨h1, h2, h3, h4⟩ := hap (by omega)
                    omega
                  · intro hg30
                    have hg30d := of_decide_eq_false hg30
                    refine t_yes rfl rfl hg30 ?_
                    refine t_q (q_fieldAddr 1 Try.runUnderlying28 rfl Try.sizeOf3 (by decide) rfl rfl) ?_
                    refine t_yes rfl rfl hg30 ?_
                    refine t_q (q_load1 Try.isAgg3 rfl (hS.cell (by repeat first | exact .here _ _ | assumption | apply Pick.there) rfl)) ?_
                    refine t_yes rfl rfl hg30 ?_
                    refine t_q (q_fieldAddr 0 Try.runUnderlying34 rfl Try.sizeOf28 (by decide) rfl rfl) ?_
                    refine t_yes rfl rfl hg30 ?_
                    refine t_q (q_fieldAddr 0 Try.runUnderlying28 rfl Try.sizeOf3 (by decide) rfl rfl) ?_
                    refine t_yes rfl rfl hg30 ?_
                    refine t_q (q_load1 Try.isAgg3 rfl (hS.cell (by repeat first | exact .here _ _ | assumption | apply Pick.there) rfl)) ?_
                    refine t_yes rfl rfl hg30 ?_
                    refine t_q (q_neq rfl rfl) ?_
                    refine t_yes rfl rfl hg26 ?_
                    refine t_q (q_pick_f rfl hg30) ?_
                    refine t_yes rfl rfl hg26 ?_
                    refine t_q (q_mv (.bool _) rfl) ?_
                    refine t_case 109 rfl ?_ ?_
                    · intro hg32
                      have hg32d := of_decide_eq_true hg32
                      refine t_no rfl rfl (by rw [hg32]; decide) ?_
                      refine t_no rfl rfl (by rw [hg32]; decide) ?_
                      refine t_no rfl rfl (by rw [hg32]; decide) ?_
                      refine t_no rfl rfl (by rw [hg32]; decide) ?_
                      refine t_no rfl rfl (by rw [hg32]; decide) ?_
                      refine t_no rfl rfl (by rw [hg32]; decide) ?_
                      refine t_yes rfl rfl hg26 ?_
                      refine t_q (q_pick_t rfl hg32) ?_
                      refine t_q (q_pick_t rfl hg26) ?_
                      refine t_nil ?_
                      refine c_cond_t rfl rfl ?_
                      exfalso
                      obtain ⟨h1, h2, h3, h4⟩ := hap (by omega)
                      omega
                    · intro hg32
                      have hg32d := of_decide_eq_false hg32
                      refine t_yes rfl rfl hg32 ?_
                      refine t_q (q_fieldAddr 10 Try.runUnderlying55 rfl Try.sizeOf3 (by decide) rfl rfl) ?_
                      refine t_yes rfl rfl hg32 ?_
                      refine t_q (q_load1 Try.isAgg3 rfl (hS.cell (by repeat first | exact .here _ _ | assumption | apply Pick.there) rfl)) ?_
                      refine t_yes rfl rfl hg32 ?_
                      refine t_q (q_fieldAddr 0 Try.runUnderlying34 rfl Try.sizeOf28 (by decide) rfl rfl) ?_
                      refine t_yes rfl rfl hg32 ?_
                      refine t_q (q_fieldAddr 0 Try.runUnderlying28 rfl Try.sizeOf3 (by decide) rfl rfl) ?_
                      refine t_yes rfl rfl hg32 ?_
                      refine t_q (q_load1 Try.isAgg3 rfl (hS.cell (by repeat first | exact .here _ _ | assumption | apply Pick.there) rfl)) ?_
                      refine t_yes rfl rfl hg32 ?_
                      refine t_q (q_neq rfl rfl) ?_
                      refine t_yes rfl rfl hg26 ?_
                      refine t_q (q_pick_f rfl hg32) ?_
                      refine t_q (q_pick_t rfl hg26) ?_
                      refine t_nil ?_
                      refine c_cond rfl ?_ ?_
                      · intro hc34
                        have hc34d := of_decide_eq_true hc34
                        exfalso
                        obtain ⟨h1, h2, h3, h4⟩ := hap (by omega)
                        omega
                      · intro hc34
                        have hc34d := of_decide_eq_false hc34
                        refine c_skip ?_
                        refine c_seq ?_
                        refine c_region ?_
                        refine t_q (q_fieldAddr 0 Try.runUnderlying34 rfl Try.sizeOf28 (by decide) rfl rfl) ?_
                        refine t_q (q_fieldAddr 0 Try.runUnderlying28 rfl Try.sizeOf3 (by decide) rfl rfl) ?_
                        refine t_q (q_load1 Try.isAgg3 rfl (hS.cell (by repeat first | exact .here _ _ | assumption | apply Pick.there) rfl)) ?_
                        refine t_q (q_neq rfl rfl) ?_
                        refine t_q (q_mv (.bool _) rfl) ?_
                        refine t_case 122 rfl ?_ ?_
                        · intro hg36
                          have hg36d := of_decide_eq_true hg36
                          refine t_yes rfl rfl hg36 ?_
                          refine t_q (q_fieldAddr 6 Try.runUnderlying34 rfl Try.sizeOf32 (by decide) rfl rfl) ?_
                          refine t_yes rfl rfl hg36 ?_
                          refine t_q (q_cast (v' := .agg (tcs n a2).toArray) (q_load_sub Try.isAgg32 Try.sizeOf32 rfl (hS.blk (by repeat first | exact .here _ _ | assumption | apply Pick.there)) (by show 0 + 6 + 8 ≤ 14; decide)) (by rfl)) ?_
                          refine t_yes rfl rfl hg36 ?_
                          refine t_q (q_fieldAddr 0 Try.runUnderlying34 rfl Try.sizeOf28 (by decide) rfl rfl) ?_
                          refine t_yes rfl rfl hg36 ?_
                          refine t_q (q_fieldAddr 0 Try.runUnderlying28 rfl Try.sizeOf3 (by decide) rfl rfl) ?_
                          refine t_yes rfl rfl hg36 ?_
                          refine t_q (q_load1 Try.isAgg3 rfl (hS.cell (by repeat first | exact .here _ _ | assumption | apply Pick.there) rfl)) ?_
                          refine t_yes rfl rfl hg36 ?_
                          refine t_call Try.call19 (all_calls (n := n) (v := s2.active) (s := a2) (by omega) hsb2) rfl ?_
                          rintro e w ⟨rfl, hT⟩
                          refine ⟨_, rfl, ?_⟩
                          replace hS := hS.after hT
                          refine t_yes rfl rfl hg36 ?_
                          refine t_q (q_not rfl) ?_
                          refine t_q (q_pick_t rfl hg36) ?_
                          refine t_q (q_mv (.bool _) rfl) ?_
                          refine t_case 131 rfl ?_ ?_
                          · intro hg38
                            refine t_no rfl rfl (by rw [(congrArg not (not_back hg38))]; decide) ?_
                            refine t_no rfl rfl (by rw [(congrArg not (not_back hg38))]; decide) ?_
                            refine t_no rfl rfl (by rw [(congrArg not (not_back hg38))]; decide) ?_
                            refine t_no rfl rfl (by rw [(congrArg not (not_back hg38))]; decide) ?_
                            refine t_no rfl rfl (by rw [(congrArg not (not_back hg38))]; decide) ?_
                            refine t_nu rfl rfl ?_
                            refine t_nu rfl rfl ?_
                            refine t_nu rfl rfl ?_
                            refine t_nu rfl rfl ?_
                            refine t_nu rfl rfl ?_
                            refine t_nu rfl rfl ?_
                            refine t_nu rfl rfl ?_
                            refine t_no rfl rfl (by rw [(congrArg not (not_back hg38))]; decide) ?_
                            refine t_q (q_pick_t rfl (congrArg not (not_back hg38))) ?_
                            refine t_nil ?_
                            refine c_cond_t rfl rfl ?_
                            exfalso
                            first
                              | (have h4 := bnt (by assumption : (!allT n a2 s2.active) = true)
                                 rw [hA2.act (by omega)] at h4
                                 cases h4)
                              | (have h4 := bnt (by assumption : (!allT n a2 s2.shadow) = true)
                                 rw [hA2.sha (by omega)] at h4
                                 cases h4)
                          · intro hg38
                            refine t_yes rfl rfl (congrArg not (not_back hg38)) ?_
                            refine t_q (q_fieldAddr 0 Try.runUnderlying34 rfl Try.sizeOf28 (by decide) rfl rfl) ?_
                            refine t_yes rfl rfl (congrArg not (not_back hg38)) ?_
                            refine t_q (q_fieldAddr 4 Try.runUnderlying28 rfl Try.sizeOf3 (by decide) rfl rfl) ?_
                            refine t_yes rfl rfl (congrArg not (not_back hg38)) ?_
                            refine t_q (q_load1 Try.isAgg3 rfl (hS.cell (by repeat first | exact .here _ _ | assumption | apply Pick.there) rfl)) ?_
                            refine t_yes rfl rfl (congrArg not (not_back hg38)) ?_
                            refine t_q (q_gtr rfl rfl) ?_
                            refine t_yes rfl rfl (congrArg not (not_back hg38)) ?_
                            refine t_q (q_mv (.bool _) rfl) ?_
                            refine t_case 136 rfl ?_ ?_
                            · intro hg40
                              have hg40d := of_decide_eq_true hg40
                              refine t_yes rfl rfl hg40 ?_
                              refine t_q (q_fieldAddr 6 Try.runUnderlying34 rfl Try.sizeOf32 (by decide) rfl rfl) ?_
                              refine t_yes rfl rfl hg40 ?_
                              refine t_q (q_cast (v' := .agg (tcs n a2).toArray) (q_load_sub Try.isAgg32 Try.sizeOf32 rfl (hS.blk (by repeat first | exact .here _ _ | assumption | apply Pick.there)) (by show 0 + 6 + 8 ≤ 14; decide)) (by rfl)) ?_
                              refine t_yes rfl rfl hg40 ?_
                              refine t_q (q_fieldAddr 0 Try.runUnderlying34 rfl Try.sizeOf28 (by decide) rfl rfl) ?_
                              refine t_yes rfl rfl hg40 ?_
                              refine t_q (q_fieldAddr 4 Try.runUnderlying28 rfl Try.sizeOf3 (by decide) rfl rfl) ?_
                              refine t_yes rfl rfl hg40 ?_
                              refine t_q (q_load1 Try.isAgg3 rfl (hS.cell (by repeat first | exact .here _ _ | assumption | apply Pick.there) rfl)) ?_
                              refine t_yes rfl rfl hg40 ?_
                              refine t_call Try.call19 (all_calls (n := n) (v := s2.shadow) (s := a2) (by omega) hsb2) rfl ?_
                              rintro e w ⟨rfl, hT⟩
                              refine ⟨_, rfl, ?_⟩
                              replace hS := hS.after hT
                              refine t_yes rfl rfl hg40 ?_
                              refine t_q (q_not rfl) ?_
                              refine t_yes rfl rfl (congrArg not (not_back hg38)) ?_
                              refine t_q (q_pick_t rfl hg40) ?_
                              refine t_q (q_pick_f rfl (congrArg not (not_back hg38))) ?_
                              refine t_nil ?_
                              refine c_cond rfl ?_ ?_
                              · intro hc42
                                exfalso
                                first
                                  | (have h4 := bnt (by assumption : (!allT n a2 s2.active) = true)
                                     rw [hA2.act (by omega)] at h4
                                     cases h4)
                                  | (have h4 := bnt (by assumption : (!allT n a2 s2.shadow) = true)
                                     rw [hA2.sha (by omega)] at h4
                                     cases h4)
                              · intro hc42
                                refine c_skip ?_
                                refine c_region ?_
                                refine t_q (q_add_i64 rfl rfl (by omega)) ?_
                                refine t_q (q_mv (.int _ _) rfl) ?_
                                refine t_nil ?_
                                exact ⟨k - 1, by omega, j + 1, s2, _, a2, ps2, rfl, by omega, by omega, hA2, hsb2, ((((hS.pick (A := rdsA _) (by repeat first | exact .here _ _ | assumption | apply Pick.there)).pick (A := regA W g _ _) (by repeat first | exact .here _ _ | assumption | apply Pick.there)).pick (A := blkA g5 34 [.int .i64 s2.active, .int .i64 s2.previous, .int .i64 s2.pending, .int .u64 s2.at_, .int .i64 s2.shadow, .pointer (some ⟨g, 0, none⟩), .int .i64 n, .int .u64 (a2 0), .int .u64 (a2 1), .int .u64 (a2 2), .int .u64 (a2 3), .int .u64 (a2 4), .int .u64 (a2 5), .int .u64 (a2 6)]) (by repeat first | exact .here _ _ | assumption | apply Pick.there))).front3⟩
                            · intro hg40
                              have hg40d := of_decide_eq_false hg40
                              refine t_no rfl rfl (by rw [hg40]; decide) ?_
                              refine t_no rfl rfl (by rw [hg40]; decide) ?_
                              refine t_no rfl rfl (by rw [hg40]; decide) ?_
                              refine t_no rfl rfl (by rw [hg40]; decide) ?_
                              refine t_no rfl rfl (by rw [hg40]; decide) ?_
                              refine t_no rfl rfl (by rw [hg40]; decide) ?_
                              refine t_no rfl rfl (by rw [hg40]; decide) ?_
                              refine t_yes rfl rfl (congrArg not (not_back hg38)) ?_
                              refine t_q (q_pick_f rfl hg40) ?_
                              refine t_q (q_pick_f rfl (congrArg not (not_back hg38))) ?_
                              refine t_nil ?_
                              refine c_cond_f rfl rfl ?_
                              refine c_skip ?_
                              refine c_region ?_
                              refine t_q (q_add_i64 rfl rfl (by omega)) ?_
                              refine t_q (q_mv (.int _ _) rfl) ?_
                              refine t_nil ?_
                              exact ⟨k - 1, by omega, j + 1, s2, _, a2, ps2, rfl, by omega, by omega, hA2, hsb2, ((((hS.pick (A := rdsA _) (by repeat first | exact .here _ _ | assumption | apply Pick.there)).pick (A := regA W g _ _) (by repeat first | exact .here _ _ | assumption | apply Pick.there)).pick (A := blkA g5 34 [.int .i64 s2.active, .int .i64 s2.previous, .int .i64 s2.pending, .int .u64 s2.at_, .int .i64 s2.shadow, .pointer (some ⟨g, 0, none⟩), .int .i64 n, .int .u64 (a2 0), .int .u64 (a2 1), .int .u64 (a2 2), .int .u64 (a2 3), .int .u64 (a2 4), .int .u64 (a2 5), .int .u64 (a2 6)]) (by repeat first | exact .here _ _ | assumption | apply Pick.there))).front3⟩
                        · intro hg36
                          have hg36d := of_decide_eq_false hg36
                          refine t_no rfl rfl (by rw [hg36]; decide) ?_
                          refine t_no rfl rfl (by rw [hg36]; decide) ?_
                          refine t_no rfl rfl (by rw [hg36]; decide) ?_
                          refine t_no rfl rfl (by rw [hg36]; decide) ?_
                          refine t_no rfl rfl (by rw [hg36]; decide) ?_
                          refine t_no rfl rfl (by rw [hg36]; decide) ?_
                          refine t_no rfl rfl (by rw [hg36]; decide) ?_
                          refine t_q (q_pick_f rfl hg36) ?_
                          refine t_q (q_mv (.bool _) rfl) ?_
                          refine t_yes rfl rfl rfl ?_
                          refine t_q (q_fieldAddr 0 Try.runUnderlying34 rfl Try.sizeOf28 (by decide) rfl rfl) ?_
                          refine t_yes rfl rfl rfl ?_
                          refine t_q (q_fieldAddr 4 Try.runUnderlying28 rfl Try.sizeOf3 (by decide) rfl rfl) ?_
                          refine t_yes rfl rfl rfl ?_
                          refine t_q (q_load1 Try.isAgg3 rfl (hS.cell (by repeat first | exact .here _ _ | assumption | apply Pick.there) rfl)) ?_
                          refine t_yes rfl rfl rfl ?_
                          refine t_q (q_gtr rfl rfl) ?_
                          refine t_yes rfl rfl rfl ?_
                          refine t_q (q_mv (.bool _) rfl) ?_
                          refine t_case 136 rfl ?_ ?_
                          · intro hg44
                            have hg44d := of_decide_eq_true hg44
                            refine t_yes rfl rfl hg44 ?_
                            refine t_q (q_fieldAddr 6 Try.runUnderlying34 rfl Try.sizeOf32 (by decide) rfl rfl) ?_
                            refine t_yes rfl rfl hg44 ?_
                            refine t_q (q_cast (v' := .agg (tcs n a2).toArray) (q_load_sub Try.isAgg32 Try.sizeOf32 rfl (hS.blk (by repeat first | exact .here _ _ | assumption | apply Pick.there)) (by show 0 + 6 + 8 ≤ 14; decide)) (by rfl)) ?_
                            refine t_yes rfl rfl hg44 ?_
                            refine t_q (q_fieldAddr 0 Try.runUnderlying34 rfl Try.sizeOf28 (by decide) rfl rfl) ?_
                            refine t_yes rfl rfl hg44 ?_
                            refine t_q (q_fieldAddr 4 Try.runUnderlying28 rfl Try.sizeOf3 (by decide) rfl rfl) ?_
                            refine t_yes rfl rfl hg44 ?_
                            refine t_q (q_load1 Try.isAgg3 rfl (hS.cell (by repeat first | exact .here _ _ | assumption | apply Pick.there) rfl)) ?_
                            refine t_yes rfl rfl hg44 ?_
                            refine t_call Try.call19 (all_calls (n := n) (v := s2.shadow) (s := a2) (by omega) hsb2) rfl ?_
                            rintro e w ⟨rfl, hT⟩
                            refine ⟨_, rfl, ?_⟩
                            replace hS := hS.after hT
                            refine t_yes rfl rfl hg44 ?_
                            refine t_q (q_not rfl) ?_
                            refine t_yes rfl rfl rfl ?_
                            refine t_q (q_pick_t rfl hg44) ?_
                            refine t_q (q_pick_f rfl rfl) ?_
                            refine t_nil ?_
                            refine c_cond rfl ?_ ?_
                            · intro hc46
                              exfalso
                              first
                                | (have h4 := bnt (by assumption : (!allT n a2 s2.active) = true)
                                   rw [hA2.act (by omega)] at h4
                                   cases h4)
                                | (have h4 := bnt (by assumption : (!allT n a2 s2.shadow) = true)
                                   rw [hA2.sha (by omega)] at h4
                                   cases h4)
                            · intro hc46
                              refine c_skip ?_
                              refine c_region ?_
                              refine t_q (q_add_i64 rfl rfl (by omega)) ?_
                              refine t_q (q_mv (.int _ _) rfl) ?_
                              refine t_nil ?_
                              exact ⟨k - 1, by omega, j + 1, s2, _, a2, ps2, rfl, by omega, by omega, hA2, hsb2, ((((hS.pick (A := rdsA _) (by repeat first | exact .here _ _ | assumption | apply Pick.there)).pick (A := regA W g _ _) (by repeat first | exact .here _ _ | assumption | apply Pick.there)).pick (A := blkA g5 34 [.int .i64 s2.active, .int .i64 s2.previous, .int .i64 s2.pending, .int .u64 s2.at_, .int .i64 s2.shadow, .pointer (some ⟨g, 0, none⟩), .int .i64 n, .int .u64 (a2 0), .int .u64 (a2 1), .int .u64 (a2 2), .int .u64 (a2 3), .int .u64 (a2 4), .int .u64 (a2 5), .int .u64 (a2 6)]) (by repeat first | exact .here _ _ | assumption | apply Pick.there))).front3⟩
                          · intro hg44
                            have hg44d := of_decide_eq_false hg44
                            refine t_no rfl rfl (by rw [hg44]; decide) ?_
                            refine t_no rfl rfl (by rw [hg44]; decide) ?_
                            refine t_no rfl rfl (by rw [hg44]; decide) ?_
                            refine t_no rfl rfl (by rw [hg44]; decide) ?_
                            refine t_no rfl rfl (by rw [hg44]; decide) ?_
                            refine t_no rfl rfl (by rw [hg44]; decide) ?_
                            refine t_no rfl rfl (by rw [hg44]; decide) ?_
                            refine t_yes rfl rfl rfl ?_
                            refine t_q (q_pick_f rfl hg44) ?_
                            refine t_q (q_pick_f rfl rfl) ?_
                            refine t_nil ?_
                            refine c_cond_f rfl rfl ?_
                            refine c_skip ?_
                            refine c_region ?_
                            refine t_q (q_add_i64 rfl rfl (by omega)) ?_
                            refine t_q (q_mv (.int _ _) rfl) ?_
                            refine t_nil ?_
                            exact ⟨k - 1, by omega, j + 1, s2, _, a2, ps2, rfl, by omega, by omega, hA2, hsb2, ((((hS.pick (A := rdsA _) (by repeat first | exact .here _ _ | assumption | apply Pick.there)).pick (A := regA W g _ _) (by repeat first | exact .here _ _ | assumption | apply Pick.there)).pick (A := blkA g5 34 [.int .i64 s2.active, .int .i64 s2.previous, .int .i64 s2.pending, .int .u64 s2.at_, .int .i64 s2.shadow, .pointer (some ⟨g, 0, none⟩), .int .i64 n, .int .u64 (a2 0), .int .u64 (a2 1), .int .u64 (a2 2), .int .u64 (a2 3), .int .u64 (a2 4), .int .u64 (a2 5), .int .u64 (a2 6)]) (by repeat first | exact .here _ _ | assumption | apply Pick.there))).front3⟩
              · intro hg26
                have hg26d := of_decide_eq_false hg26
                refine t_no rfl rfl (by rw [hg26]; decide) ?_
                refine t_no rfl rfl (by rw [hg26]; decide) ?_
                refine t_no rfl rfl (by rw [hg26]; decide) ?_
                refine t_no rfl rfl (by rw [hg26]; decide) ?_
                refine t_nu rfl rfl ?_
                refine t_nu rfl rfl ?_
                refine t_no rfl rfl (by rw [hg26]; decide) ?_
                refine t_no rfl rfl (by rw [hg26]; decide) ?_
                refine t_nu rfl rfl ?_
                refine t_nu rfl rfl ?_
                refine t_nu rfl rfl ?_
                refine t_nu rfl rfl ?_
                refine t_nu rfl rfl ?_
                refine t_nu rfl rfl ?_
                refine t_no rfl rfl (by rw [hg26]; decide) ?_
                refine t_no rfl rfl (by rw [hg26]; decide) ?_
                refine t_nu rfl rfl ?_
                refine t_nu rfl rfl ?_
                refine t_nu rfl rfl ?_
                refine t_nu rfl rfl ?_
                refine t_nu rfl rfl ?_
                refine t_nu rfl rfl ?_
                refine t_no rfl rfl (by rw [hg26]; decide) ?_
                refine t_q (q_pick_f rfl hg26) ?_
                refine t_nil ?_
                refine c_cond_f rfl rfl ?_
                refine c_skip ?_
                refine c_seq ?_
                refine c_region ?_
                refine t_q (q_fieldAddr 0 Try.runUnderlying34 rfl Try.sizeOf28 (by decide) rfl rfl) ?_
                refine t_q (q_fieldAddr 0 Try.runUnderlying28 rfl Try.sizeOf3 (by decide) rfl rfl) ?_
                refine t_q (q_load1 Try.isAgg3 rfl (hS.cell (by repeat first | exact .here _ _ | assumption | apply Pick.there) rfl)) ?_
                refine t_q (q_neq rfl rfl) ?_
                refine t_q (q_mv (.bool _) rfl) ?_
                refine t_case 122 rfl ?_ ?_
                · intro hg48
                  have hg48d := of_decide_eq_true hg48
                  refine t_yes rfl rfl hg48 ?_
                  refine t_q (q_fieldAddr 6 Try.runUnderlying34 rfl Try.sizeOf32 (by decide) rfl rfl) ?_
                  refine t_yes rfl rfl hg48 ?_
                  refine t_q (q_cast (v' := .agg (tcs n a2).toArray) (q_load_sub Try.isAgg32 Try.sizeOf32 rfl (hS.blk (by repeat first | exact .here _ _ | assumption | apply Pick.there)) (by show 0 + 6 + 8 ≤ 14; decide)) (by rfl)) ?_
                  refine t_yes rfl rfl hg48 ?_
                  refine t_q (q_fieldAddr 0 Try.runUnderlying34 rfl Try.sizeOf28 (by decide) rfl rfl) ?_
                  refine t_yes rfl rfl hg48 ?_
                  refine t_q (q_fieldAddr 0 Try.runUnderlying28 rfl Try.sizeOf3 (by decide) rfl rfl) ?_
                  refine t_yes rfl rfl hg48 ?_
                  refine t_q (q_load1 Try.isAgg3 rfl (hS.cell (by repeat first | exact .here _ _ | assumption | apply Pick.there) rfl)) ?_
                  refine t_yes rfl rfl hg48 ?_
                  refine t_call Try.call19 (all_calls (n := n) (v := s2.active) (s := a2) (by omega) hsb2) rfl ?_
                  rintro e w ⟨rfl, hT⟩
                  refine ⟨_, rfl, ?_⟩
                  replace hS := hS.after hT
                  refine t_yes rfl rfl hg48 ?_
                  refine t_q (q_not rfl) ?_
                  refine t_q (q_pick_t rfl hg48) ?_
                  refine t_q (q_mv (.bool _) rfl) ?_
                  refine t_case 131 rfl ?_ ?_
                  · intro hg50
                    refine t_no rfl rfl (by rw [(congrArg not (not_back hg50))]; decide) ?_
                    refine t_no rfl rfl (by rw [(congrArg not (not_back hg50))]; decide) ?_
                    refine t_no rfl rfl (by rw [(congrArg not (not_back hg50))]; decide) ?_
                    refine t_no rfl rfl (by rw [(congrArg not (not_back hg50))]; decide) ?_
                    refine t_no rfl rfl (by rw [(congrArg not (not_back hg50))]; decide) ?_
                    refine t_nu rfl rfl ?_
                    refine t_nu rfl rfl ?_
                    refine t_nu rfl rfl ?_
                    refine t_nu rfl rfl ?_
                    refine t_nu rfl rfl ?_
                    refine t_nu rfl rfl ?_
                    refine t_nu rfl rfl ?_
                    refine t_no rfl rfl (by rw [(congrArg not (not_back hg50))]; decide) ?_
                    refine t_q (q_pick_t rfl (congrArg not (not_back hg50))) ?_
                    refine t_nil ?_
                    refine c_cond_t rfl rfl ?_
                    exfalso
                    first
                      | (have h4 := bnt (by assumption : (!allT n a2 s2.active) = true)
                         rw [hA2.act (by omega)] at h4
                         cases h4)
                      | (have h4 := bnt (by assumption : (!allT n a2 s2.shadow) = true)
                         rw [hA2.sha (by omega)] at h4
                         cases h4)
                  · intro hg50
                    refine t_yes rfl rfl (congrArg not (not_back hg50)) ?_
                    refine t_q (q_fieldAddr 0 Try.runUnderlying34 rfl Try.sizeOf28 (by decide) rfl rfl) ?_
                    refine t_yes rfl rfl (congrArg not (not_back hg50)) ?_
                    refine t_q (q_fieldAddr 4 Try.runUnderlying28 rfl Try.sizeOf3 (by decide) rfl rfl) ?_
                    refine t_yes rfl rfl (congrArg not (not_back hg50)) ?_
                    refine t_q (q_load1 Try.isAgg3 rfl (hS.cell (by repeat first | exact .here _ _ | assumption | apply Pick.there) rfl)) ?_
                    refine t_yes rfl rfl (congrArg not (not_back hg50)) ?_
                    refine t_q (q_gtr rfl rfl) ?_
                    refine t_yes rfl rfl (congrArg not (not_back hg50)) ?_
                    refine t_q (q_mv (.bool _) rfl) ?_
                    refine t_case 136 rfl ?_ ?_
                    · intro hg52
                      have hg52d := of_decide_eq_true hg52
                      refine t_yes rfl rfl hg52 ?_
                      refine t_q (q_fieldAddr 6 Try.runUnderlying34 rfl Try.sizeOf32 (by decide) rfl rfl) ?_
                      refine t_yes rfl rfl hg52 ?_
                      refine t_q (q_cast (v' := .agg (tcs n a2).toArray) (q_load_sub Try.isAgg32 Try.sizeOf32 rfl (hS.blk (by repeat first | exact .here _ _ | assumption | apply Pick.there)) (by show 0 + 6 + 8 ≤ 14; decide)) (by rfl)) ?_
                      refine t_yes rfl rfl hg52 ?_
                      refine t_q (q_fieldAddr 0 Try.runUnderlying34 rfl Try.sizeOf28 (by decide) rfl rfl) ?_
                      refine t_yes rfl rfl hg52 ?_
                      refine t_q (q_fieldAddr 4 Try.runUnderlying28 rfl Try.sizeOf3 (by decide) rfl rfl) ?_
                      refine t_yes rfl rfl hg52 ?_
                      refine t_q (q_load1 Try.isAgg3 rfl (hS.cell (by repeat first | exact .here _ _ | assumption | apply Pick.there) rfl)) ?_
                      refine t_yes rfl rfl hg52 ?_
                      refine t_call Try.call19 (all_calls (n := n) (v := s2.shadow) (s := a2) (by omega) hsb2) rfl ?_
                      rintro e w ⟨rfl, hT⟩
                      refine ⟨_, rfl, ?_⟩
                      replace hS := hS.after hT
                      refine t_yes rfl rfl hg52 ?_
                      refine t_q (q_not rfl) ?_
                      refine t_yes rfl rfl (congrArg not (not_back hg50)) ?_
                      refine t_q (q_pick_t rfl hg52) ?_
                      refine t_q (q_pick_f rfl (congrArg not (not_back hg50))) ?_
                      refine t_nil ?_
                      refine c_cond rfl ?_ ?_
                      · intro hc54
                        exfalso
                        first
                          | (have h4 := bnt (by assumption : (!allT n a2 s2.active) = true)
                             rw [hA2.act (by omega)] at h4
                             cases h4)
                          | (have h4 := bnt (by assumption : (!allT n a2 s2.shadow) = true)
                             rw [hA2.sha (by omega)] at h4
                             cases h4)
                      · intro hc54
                        refine c_skip ?_
                        refine c_region ?_
                        refine t_q (q_add_i64 rfl rfl (by omega)) ?_
                        refine t_q (q_mv (.int _ _) rfl) ?_
                        refine t_nil ?_
                        exact ⟨k - 1, by omega, j + 1, s2, _, a2, ps2, rfl, by omega, by omega, hA2, hsb2, ((((hS.pick (A := rdsA _) (by repeat first | exact .here _ _ | assumption | apply Pick.there)).pick (A := regA W g _ _) (by repeat first | exact .here _ _ | assumption | apply Pick.there)).pick (A := blkA g5 34 [.int .i64 s2.active, .int .i64 s2.previous, .int .i64 s2.pending, .int .u64 s2.at_, .int .i64 s2.shadow, .pointer (some ⟨g, 0, none⟩), .int .i64 n, .int .u64 (a2 0), .int .u64 (a2 1), .int .u64 (a2 2), .int .u64 (a2 3), .int .u64 (a2 4), .int .u64 (a2 5), .int .u64 (a2 6)]) (by repeat first | exact .here _ _ | assumption | apply Pick.there))).front3⟩
                    · intro hg52
                      have hg52d := of_decide_eq_false hg52
                      refine t_no rfl rfl (by rw [hg52]; decide) ?_
                      refine t_no rfl rfl (by rw [hg52]; decide) ?_
                      refine t_no rfl rfl (by rw [hg52]; decide) ?_
                      refine t_no rfl rfl (by rw [hg52]; decide) ?_
                      refine t_no rfl rfl (by rw [hg52]; decide) ?_
                      refine t_no rfl rfl (by rw [hg52]; decide) ?_
                      refine t_no rfl rfl (by rw [hg52]; decide) ?_
                      refine t_yes rfl rfl (congrArg not (not_back hg50)) ?_
                      refine t_q (q_pick_f rfl hg52) ?_
                      refine t_q (q_pick_f rfl (congrArg not (not_back hg50))) ?_
                      refine t_nil ?_
                      refine c_cond_f rfl rfl ?_
                      refine c_skip ?_
                      refine c_region ?_
                      refine t_q (q_add_i64 rfl rfl (by omega)) ?_
                      refine t_q (q_mv (.int _ _) rfl) ?_
                      refine t_nil ?_
                      exact ⟨k - 1, by omega, j + 1, s2, _, a2, ps2, rfl, by omega, by omega, hA2, hsb2, ((((hS.pick (A := rdsA _) (by repeat first | exact .here _ _ | assumption | apply Pick.there)).pick (A := regA W g _ _) (by repeat first | exact .here _ _ | assumption | apply Pick.there)).pick (A := blkA g5 34 [.int .i64 s2.active, .int .i64 s2.previous, .int .i64 s2.pending, .int .u64 s2.at_, .int .i64 s2.shadow, .pointer (some ⟨g, 0, none⟩), .int .i64 n, .int .u64 (a2 0), .int .u64 (a2 1), .int .u64 (a2 2), .int .u64 (a2 3), .int .u64 (a2 4), .int .u64 (a2 5), .int .u64 (a2 6)]) (by repeat first | exact .here _ _ | assumption | apply Pick.there))).front3⟩
                · intro hg48
                  have hg48d := of_decide_eq_false hg48
                  refine t_no rfl rfl (by rw [hg48]; decide) ?_
                  refine t_no rfl rfl (by rw [hg48]; decide) ?_
                  refine t_no rfl rfl (by rw [hg48]; decide) ?_
                  refine t_no rfl rfl (by rw [hg48]; decide) ?_
                  refine t_no rfl rfl (by rw [hg48]; decide) ?_
                  refine t_no rfl rfl (by rw [hg48]; decide) ?_
                  refine t_no rfl rfl (by rw [hg48]; decide) ?_
                  refine t_q (q_pick_f rfl hg48) ?_
                  refine t_q (q_mv (.bool _) rfl) ?_
                  refine t_yes rfl rfl rfl ?_
                  refine t_q (q_fieldAddr 0 Try.runUnderlying34 rfl Try.sizeOf28 (by decide) rfl rfl) ?_
                  refine t_yes rfl rfl rfl ?_
                  refine t_q (q_fieldAddr 4 Try.runUnderlying28 rfl Try.sizeOf3 (by decide) rfl rfl) ?_
                  refine t_yes rfl rfl rfl ?_
                  refine t_q (q_load1 Try.isAgg3 rfl (hS.cell (by repeat first | exact .here _ _ | assumption | apply Pick.there) rfl)) ?_
                  refine t_yes rfl rfl rfl ?_
                  refine t_q (q_gtr rfl rfl) ?_
                  refine t_yes rfl rfl rfl ?_
                  refine t_q (q_mv (.bool _) rfl) ?_
                  refine t_case 136 rfl ?_ ?_
                  · intro hg56
                    have hg56d := of_decide_eq_true hg56
                    refine t_yes rfl rfl hg56 ?_
                    refine t_q (q_fieldAddr 6 Try.runUnderlying34 rfl Try.sizeOf32 (by decide) rfl rfl) ?_
                    refine t_yes rfl rfl hg56 ?_
                    refine t_q (q_cast (v' := .agg (tcs n a2).toArray) (q_load_sub Try.isAgg32 Try.sizeOf32 rfl (hS.blk (by repeat first | exact .here _ _ | assumption | apply Pick.there)) (by show 0 + 6 + 8 ≤ 14; decide)) (by rfl)) ?_
                    refine t_yes rfl rfl hg56 ?_
                    refine t_q (q_fieldAddr 0 Try.runUnderlying34 rfl Try.sizeOf28 (by decide) rfl rfl) ?_
                    refine t_yes rfl rfl hg56 ?_
                    refine t_q (q_fieldAddr 4 Try.runUnderlying28 rfl Try.sizeOf3 (by decide) rfl rfl) ?_
                    refine t_yes rfl rfl hg56 ?_
                    refine t_q (q_load1 Try.isAgg3 rfl (hS.cell (by repeat first | exact .here _ _ | assumption | apply Pick.there) rfl)) ?_
                    refine t_yes rfl rfl hg56 ?_
                    refine t_call Try.call19 (all_calls (n := n) (v := s2.shadow) (s := a2) (by omega) hsb2) rfl ?_
                    rintro e w ⟨rfl, hT⟩
                    refine ⟨_, rfl, ?_⟩
                    replace hS := hS.after hT
                    refine t_yes rfl rfl hg56 ?_
                    refine t_q (q_not rfl) ?_
                    refine t_yes rfl rfl rfl ?_
                    refine t_q (q_pick_t rfl hg56) ?_
                    refine t_q (q_pick_f rfl rfl) ?_
                    refine t_nil ?_
                    refine c_cond rfl ?_ ?_
                    · intro hc58
                      exfalso
                      first
                        | (have h4 := bnt (by assumption : (!allT n a2 s2.active) = true)
                           rw [hA2.act (by omega)] at h4
                           cases h4)
                        | (have h4 := bnt (by assumption : (!allT n a2 s2.shadow) = true)
                           rw [hA2.sha (by omega)] at h4
                           cases h4)
                    · intro hc58
                      refine c_skip ?_
                      refine c_region ?_
                      refine t_q (q_add_i64 rfl rfl (by omega)) ?_
                      refine t_q (q_mv (.int _ _) rfl) ?_
                      refine t_nil ?_
                      exact ⟨k - 1, by omega, j + 1, s2, _, a2, ps2, rfl, by omega, by omega, hA2, hsb2, ((((hS.pick (A := rdsA _) (by repeat first | exact .here _ _ | assumption | apply Pick.there)).pick (A := regA W g _ _) (by repeat first | exact .here _ _ | assumption | apply Pick.there)).pick (A := blkA g5 34 [.int .i64 s2.active, .int .i64 s2.previous, .int .i64 s2.pending, .int .u64 s2.at_, .int .i64 s2.shadow, .pointer (some ⟨g, 0, none⟩), .int .i64 n, .int .u64 (a2 0), .int .u64 (a2 1), .int .u64 (a2 2), .int .u64 (a2 3), .int .u64 (a2 4), .int .u64 (a2 5), .int .u64 (a2 6)]) (by repeat first | exact .here _ _ | assumption | apply Pick.there))).front3⟩
                  · intro hg56
                    have hg56d := of_decide_eq_false hg56
                    refine t_no rfl rfl (by rw [hg56]; decide) ?_
                    refine t_no rfl rfl (by rw [hg56]; decide) ?_
                    refine t_no rfl rfl (by rw [hg56]; decide) ?_
                    refine t_no rfl rfl (by rw [hg56]; decide) ?_
                    refine t_no rfl rfl (by rw [hg56]; decide) ?_
                    refine t_no rfl rfl (by rw [hg56]; decide) ?_
                    refine t_no rfl rfl (by rw [hg56]; decide) ?_
                    refine t_yes rfl rfl rfl ?_
                    refine t_q (q_pick_f rfl hg56) ?_
                    refine t_q (q_pick_f rfl rfl) ?_
                    refine t_nil ?_
                    refine c_cond_f rfl rfl ?_
                    refine c_skip ?_
                    refine c_region ?_
                    refine t_q (q_add_i64 rfl rfl (by omega)) ?_
                    refine t_q (q_mv (.int _ _) rfl) ?_
                    refine t_nil ?_
                    exact ⟨k - 1, by omega, j + 1, s2, _, a2, ps2, rfl, by omega, by omega, hA2, hsb2, ((((hS.pick (A := rdsA _) (by repeat first | exact .here _ _ | assumption | apply Pick.there)).pick (A := regA W g _ _) (by repeat first | exact .here _ _ | assumption | apply Pick.there)).pick (A := blkA g5 34 [.int .i64 s2.active, .int .i64 s2.previous, .int .i64 s2.pending, .int .u64 s2.at_, .int .i64 s2.shadow, .pointer (some ⟨g, 0, none⟩), .int .i64 n, .int .u64 (a2 0), .int .u64 (a2 1), .int .u64 (a2 2), .int .u64 (a2 3), .int .u64 (a2 4), .int .u64 (a2 5), .int .u64 (a2 6)]) (by repeat first | exact .here _ _ | assumption | apply Pick.there))).front3⟩
      · intro hg14
        have hg14d := of_decide_eq_false hg14
        refine t_no rfl rfl (by rw [hg14]; decide) ?_
        refine t_no rfl rfl (by rw [hg14]; decide) ?_
        refine t_no rfl rfl (by rw [hg14]; decide) ?_
        refine t_no rfl rfl (by rw [hg14]; decide) ?_
        refine t_no rfl rfl (by rw [hg14]; decide) ?_
        refine t_no rfl rfl (by rw [hg14]; decide) ?_
        refine t_no rfl rfl (by rw [hg14]; decide) ?_
        refine t_nu rfl rfl ?_
        refine t_nu rfl rfl ?_
        refine t_nu rfl rfl ?_
        refine t_nu rfl rfl ?_
        refine t_no rfl rfl (by rw [hg14]; decide) ?_
        refine t_no rfl rfl (by rw [hg14]; decide) ?_
        refine t_nu rfl rfl ?_
        refine t_nu rfl rfl ?_
        refine t_nu rfl rfl ?_
        refine t_nu rfl rfl ?_
        refine t_nu rfl rfl ?_
        refine t_nu rfl rfl ?_
        refine t_nu rfl rfl ?_
        refine t_no rfl rfl (by rw [hg14]; decide) ?_
        refine t_q (q_pick_f rfl hg14) ?_
        refine t_nil ?_
        refine c_cond_f rfl rfl ?_
        refine c_skip ?_
        refine c_seq ?_
        refine c_region ?_
        refine t_q (q_fieldAddr 0 Try.runUnderlying34 rfl Try.sizeOf28 (by decide) rfl rfl) ?_
        refine t_q (q_cast (v' := .agg s1.cells.toArray) (q_load_sub Try.isAgg28 Try.sizeOf28 rfl (hS.blk (by repeat first | exact .here _ _ | assumption | apply Pick.there)) (by show 0 + 0 + 5 ≤ 14; decide)) (by rfl)) ?_
        refine t_store (v := (.agg _)) Try.sizeOf28 hS (by repeat first | exact .here _ _ | assumption | apply Pick.there) rfl rfl rfl rfl rfl rfl (fun w hS => ?_)
        replace hS := hS.recast (congrArg (blkA g10 28) (rset_full (vs := s1.cells) rfl))
        replace hS := hS.recast (show _ = blkA g10 28 [.int .i64 s1.active, .int .i64 s1.previous, .int .i64 s1.pending, .int .u64 s1.at_, .int .i64 s1.shadow] from rfl)
        refine t_nil ?_
        refine c_seq ?_
        refine c_region ?_
        refine t_q (q_cast (v' := .agg (bdc s1 (some ⟨g, 0, none⟩) n a).toArray) (q_load_blk Try.isAgg34 Try.sizeOf34 rfl (hS.blk (by repeat first | exact .here _ _ | assumption | apply Pick.there)) rfl) (by rfl)) ?_
        refine t_q (q_cast (v' := .agg (l.getD j default).cells.toArray) (q_load_blk Try.isAgg49 Try.sizeOf49 rfl (hS.blk (by repeat first | exact .here _ _ | assumption | apply Pick.there)) rfl) (by rfl)) ?_
        refine t_q (q_mv (.int _ _) rfl) ?_
        refine t_call Try.call20 (apply_calls (s := s1) (M := M) (n := n) (a := a) (c := (l.getD j default)) (i := ((j : Int) + 1)) ((hS.pick (A := rdsA _) (by repeat first | exact .here _ _ | assumption | apply Pick.there)).pick (A := regA W g _ _) (by repeat first | exact .here _ _ | assumption | apply Pick.there)) (by omega) hsb (RuBy.base hgj) hcat (by omega)) rfl ?_
        rintro e w ⟨ps2, rfl, hsp2, hS⟩
        refine ⟨_, rfl, ?_⟩
        obtain ⟨s2, hs2⟩ : ∃ x, x = apS s1 M n a (l.getD j default) ((j : Int) + 1) := ⟨_, rfl⟩
        obtain ⟨a2, ha2⟩ : ∃ x, x = apA s1 M n a (l.getD j default) ((j : Int) + 1) := ⟨_, rfl⟩
        obtain ⟨v2, hv2⟩ : ∃ x, x = apE s1 M n a (l.getD j default) ((j : Int) + 1) := ⟨_, rfl⟩
        obtain ⟨e2, he2⟩ : ∃ x, x = (apV s1 M n a (l.getD j default) ((j : Int) + 1)).e := ⟨_, rfl⟩
        rw [← hs2, ← ha2, ← hv2, ← he2]
        have hA2 : Agr s2 n a2 := by rw [hs2, ha2]; exact ap_agr hA1 hsb
        have hsb2 : Sb a2 := by rw [ha2]; exact apA_b hsb
        have hap : s2.active ≠ s1.active → (l.getD j default).kind = 14 ∧ e2 = 0 ∧ s1.previous = s2.active ∧ v2.version = s2.active := by rw [hs2, he2, hv2]; exact ap_fact
        refine t_q (q_mv (.tuple _) rfl) ?_
        refine t_q (q_extract rfl rfl) ?_
        refine t_q (q_extract rfl rfl) ?_
        refine t_q (q_extract rfl rfl) ?_
        refine t_alloc Try.zeroValue34 rfl hS (fun g11 w hS => ?_)
        refine t_alloc Try.zeroValue55 rfl hS (fun g12 w hS => ?_)
        refine t_store (v := (.agg _)) Try.sizeOf34 hS (by repeat first | exact .here _ _ | assumption | apply Pick.there) rfl rfl rfl rfl rfl rfl (fun w hS => ?_)
        replace hS := hS.recast (congrArg (blkA g11 34) (rset_full (vs := bdc s2 (some ⟨g, 0, none⟩) n a2) rfl))
        replace hS := hS.recast (show blkA g11 34 _ = blkA g11 34 [.int .i64 s2.active, .int .i64 s2.previous, .int .i64 s2.pending, .int .u64 s2.at_, .int .i64 s2.shadow, .pointer (some ⟨g, 0, none⟩), .int .i64 n, .int .u64 (a2 0), .int .u64 (a2 1), .int .u64 (a2 2), .int .u64 (a2 3), .int .u64 (a2 4), .int .u64 (a2 5), .int .u64 (a2 6)] from rfl)
        refine t_store (v := (.agg _)) Try.sizeOf55 hS (by repeat first | exact .here _ _ | assumption | apply Pick.there) rfl rfl rfl rfl rfl rfl (fun w hS => ?_)
        replace hS := hS.recast (congrArg (blkA g12 55) (rset_full (vs := v2.cells) rfl))
        replace hS := hS.recast (show _ = blkA g12 55 [.int .i64 v2.kind, .int .i64 v2.account, .int .u64 v2.id, .int .u64 v2.other, .int .i64 v2.side, .int .i64 v2.price, .int .i64 v2.qty, .int .i64 v2.fee, .int .i64 v2.fee2, .int .i64 v2.code, .int .i64 v2.version, .int .u64 v2.index] from rfl)
        refine t_q (q_as (.int _ _) rfl) ?_
        refine t_nil ?_
        refine c_seq ?_
        refine c_region ?_
        refine t_q (q_cast (v' := .agg (bdc s2 (some ⟨g, 0, none⟩) n a2).toArray) (q_load_blk Try.isAgg34 Try.sizeOf34 rfl (hS.blk (by repeat first | exact .here _ _ | assumption | apply Pick.there)) rfl) (by rfl)) ?_
        refine t_store (v := (.agg _)) Try.sizeOf34 hS (by repeat first | exact .here _ _ | assumption | apply Pick.there) rfl rfl rfl rfl rfl rfl (fun w hS => ?_)
        replace hS := hS.recast (congrArg (blkA g5 34) (rset_full (vs := bdc s2 (some ⟨g, 0, none⟩) n a2) rfl))
        replace hS := hS.recast (show blkA g5 34 _ = blkA g5 34 [.int .i64 s2.active, .int .i64 s2.previous, .int .i64 s2.pending, .int .u64 s2.at_, .int .i64 s2.shadow, .pointer (some ⟨g, 0, none⟩), .int .i64 n, .int .u64 (a2 0), .int .u64 (a2 1), .int .u64 (a2 2), .int .u64 (a2 3), .int .u64 (a2 4), .int .u64 (a2 5), .int .u64 (a2 6)] from rfl)
        refine t_nil ?_
        refine c_seq ?_
        refine c_seq ?_
        refine c_region ?_
        refine t_q (q_fieldAddr 0 Try.runUnderlying34 rfl Try.sizeOf28 (by decide) rfl rfl) ?_
        refine t_q (q_fieldAddr 0 Try.runUnderlying28 rfl Try.sizeOf3 (by decide) rfl rfl) ?_
        refine t_q (q_load1 Try.isAgg3 rfl (hS.cell (by repeat first | exact .here _ _ | assumption | apply Pick.there) rfl)) ?_
        refine t_q (q_fieldAddr 0 Try.runUnderlying28 rfl Try.sizeOf3 (by decide) rfl rfl) ?_
        refine t_q (q_load1 Try.isAgg3 rfl (hS.cell (by repeat first | exact .here _ _ | assumption | apply Pick.there) rfl)) ?_
        refine t_q (q_neq rfl rfl) ?_
        refine t_q (q_mv (.bool _) rfl) ?_
        refine t_case 93 rfl ?_ ?_
        · intro hg64
          have hg64d := of_decide_eq_true hg64
          refine t_yes rfl rfl hg64 ?_
          refine t_q (q_fieldAddr 0 Try.runUnderlying49 rfl Try.sizeOf3 (by decide) rfl rfl) ?_
          refine t_yes rfl rfl hg64 ?_
          refine t_q (q_load1 Try.isAgg3 rfl (hS.cell (by repeat first | exact .here _ _ | assumption | apply Pick.there) rfl)) ?_
          refine t_yes rfl rfl hg64 ?_
          refine t_q (q_neq rfl rfl) ?_
          refine t_yes rfl rfl hg64 ?_
          refine t_q (q_mv (.bool _) rfl) ?_
          refine t_case 97 rfl ?_ ?_
          · intro hg66
            have hg66d := of_decide_eq_true hg66
            refine t_no rfl rfl (by rw [hg66]; decide) ?_
            refine t_no rfl rfl (by rw [hg66]; decide) ?_
            refine t_yes rfl rfl hg64 ?_
            refine t_q (q_pick_t rfl hg66) ?_
            refine t_yes rfl rfl hg64 ?_
            refine t_q (q_mv (.bool _) rfl) ?_
            refine t_no rfl rfl (by decide) ?_
            refine t_no rfl rfl (by decide) ?_
            refine t_no rfl rfl (by decide) ?_
            refine t_no rfl rfl (by decide) ?_
            refine t_no rfl rfl (by decide) ?_
            refine t_no rfl rfl (by decide) ?_
            refine t_yes rfl rfl hg64 ?_
            refine t_q (q_pick_t rfl rfl) ?_
            refine t_yes rfl rfl hg64 ?_
            refine t_q (q_mv (.bool _) rfl) ?_
            refine t_no rfl rfl (by decide) ?_
            refine t_no rfl rfl (by decide) ?_
            refine t_no rfl rfl (by decide) ?_
            refine t_no rfl rfl (by decide) ?_
            refine t_no rfl rfl (by decide) ?_
            refine t_no rfl rfl (by decide) ?_
            refine t_yes rfl rfl hg64 ?_
            refine t_q (q_pick_t rfl rfl) ?_
            refine t_q (q_pick_t rfl hg64) ?_
            refine t_nil ?_
            refine c_cond_t rfl rfl ?_
            exfalso
            obtain ⟨h1, h2, h3, h4⟩ := hap (by omega)
            omega
          · intro hg66
            have hg66d := of_decide_eq_false hg66
            refine t_yes rfl rfl hg66 ?_
            refine t_q (q_mv (.int _ _) rfl) ?_
            refine t_yes rfl rfl hg66 ?_
            refine t_q (q_neq rfl rfl) ?_
            refine t_yes rfl rfl hg64 ?_
            refine t_q (q_pick_f rfl hg66) ?_
            refine t_yes rfl rfl hg64 ?_
            refine t_q (q_mv (.bool _) rfl) ?_
            refine t_case 101 rfl ?_ ?_
            · intro hg68
              have hg68d := of_decide_eq_true hg68
              refine t_no rfl rfl (by rw [hg68]; decide) ?_
              refine t_no rfl rfl (by rw [hg68]; decide) ?_
              refine t_no rfl rfl (by rw [hg68]; decide) ?_
              refine t_no rfl rfl (by rw [hg68]; decide) ?_
              refine t_no rfl rfl (by rw [hg68]; decide) ?_
              refine t_no rfl rfl (by rw [hg68]; decide) ?_
              refine t_yes rfl rfl hg64 ?_
              refine t_q (q_pick_t rfl hg68) ?_
              refine t_yes rfl rfl hg64 ?_
              refine t_q (q_mv (.bool _) rfl) ?_
              refine t_no rfl rfl (by decide) ?_
              refine t_no rfl rfl (by decide) ?_
              refine t_no rfl rfl (by decide) ?_
              refine t_no rfl rfl (by decide) ?_
              refine t_no rfl rfl (by decide) ?_
              refine t_no rfl rfl (by decide) ?_
              refine t_yes rfl rfl hg64 ?_
              refine t_q (q_pick_t rfl rfl) ?_
              refine t_q (q_pick_t rfl hg64) ?_
              refine t_nil ?_
              refine c_cond_t rfl rfl ?_
              exfalso
              obtain ⟨h1, h2, h3, h4⟩ := hap (by omega)
              omega
            · intro hg68
              have hg68d := of_decide_eq_false hg68
              refine t_yes rfl rfl hg68 ?_
              refine t_q (q_fieldAddr 1 Try.runUnderlying28 rfl Try.sizeOf3 (by decide) rfl rfl) ?_
              refine t_yes rfl rfl hg68 ?_
              refine t_q (q_load1 Try.isAgg3 rfl (hS.cell (by repeat first | exact .here _ _ | assumption | apply Pick.there) rfl)) ?_
              refine t_yes rfl rfl hg68 ?_
              refine t_q (q_fieldAddr 0 Try.runUnderlying34 rfl Try.sizeOf28 (by decide) rfl rfl) ?_
              refine t_yes rfl rfl hg68 ?_
              refine t_q (q_fieldAddr 0 Try.runUnderlying28 rfl Try.sizeOf3 (by decide) rfl rfl) ?_
              refine t_yes rfl rfl hg68 ?_
              refine t_q (q_load1 Try.isAgg3 rfl (hS.cell (by repeat first | exact .here _ _ | assumption | apply Pick.there) rfl)) ?_
              refine t_yes rfl rfl hg68 ?_
              refine t_q (q_neq rfl rfl) ?_
              refine t_yes rfl rfl hg64 ?_
              refine t_q (q_pick_f rfl hg68) ?_
              refine t_yes rfl rfl hg64 ?_
              refine t_q (q_mv (.bool _) rfl) ?_
              refine t_case 109 rfl ?_ ?_
              · intro hg70
                have hg70d := of_decide_eq_true hg70
                refine t_no rfl rfl (by rw [hg70]; decide) ?_
                refine t_no rfl rfl (by rw [hg70]; decide) ?_
                refine t_no rfl rfl (by rw [hg70]; decide) ?_
                refine t_no rfl rfl (by rw [hg70]; decide) ?_
                refine t_no rfl rfl (by rw [hg70]; decide) ?_
                refine t_no rfl rfl (by rw [hg70]; decide) ?_
                refine t_yes rfl rfl hg64 ?_
                refine t_q (q_pick_t rfl hg70) ?_
                refine t_q (q_pick_t rfl hg64) ?_
                refine t_nil ?_
                refine c_cond_t rfl rfl ?_
                exfalso
                obtain ⟨h1, h2, h3, h4⟩ := hap (by omega)
                omega
              · intro hg70
                have hg70d := of_decide_eq_false hg70
                refine t_yes rfl rfl hg70 ?_
                refine t_q (q_fieldAddr 10 Try.runUnderlying55 rfl Try.sizeOf3 (by decide) rfl rfl) ?_
                refine t_yes rfl rfl hg70 ?_
                refine t_q (q_load1 Try.isAgg3 rfl (hS.cell (by repeat first | exact .here _ _ | assumption | apply Pick.there) rfl)) ?_
                refine t_yes rfl rfl hg70 ?_
                refine t_q (q_fieldAddr 0 Try.runUnderlying34 rfl Try.sizeOf28 (by decide) rfl rfl) ?_
                refine t_yes rfl rfl hg70 ?_
                refine t_q (q_fieldAddr 0 Try.runUnderlying28 rfl Try.sizeOf3 (by decide) rfl rfl) ?_
                refine t_yes rfl rfl hg70 ?_
                refine t_q (q_load1 Try.isAgg3 rfl (hS.cell (by repeat first | exact .here _ _ | assumption | apply Pick.there) rfl)) ?_
                refine t_yes rfl rfl hg70 ?_
                refine t_q (q_neq rfl rfl) ?_
                refine t_yes rfl rfl hg64 ?_
                refine t_q (q_pick_f rfl hg70) ?_
                refine t_q (q_pick_t rfl hg64) ?_
                refine t_nil ?_
                refine c_cond rfl ?_ ?_
                · intro hc72
                  have hc72d := of_decide_eq_true hc72
                  exfalso
                  obtain ⟨h1, h2, h3, h4⟩ := hap (by omega)
                  omega
                · intro hc72
                  have hc72d := of_decide_eq_false hc72
                  refine c_skip ?_
                  refine c_seq ?_
                  refine c_region ?_
                  refine t_q (q_fieldAddr 0 Try.runUnderlying34 rfl Try.sizeOf28 (by decide) rfl rfl) ?_
                  refine t_q (q_fieldAddr 0 Try.runUnderlying28 rfl Try.sizeOf3 (by decide) rfl rfl) ?_
                  refine t_q (q_load1 Try.isAgg3 rfl (hS.cell (by repeat first | exact .here _ _ | assumption | apply Pick.there) rfl)) ?_
                  refine t_q (q_neq rfl rfl) ?_
                  refine t_q (q_mv (.bool _) rfl) ?_
                  refine t_case 122 rfl ?_ ?_
                  · intro hg74
                    have hg74d := of_decide_eq_true hg74
                    refine t_yes rfl rfl hg74 ?_
                    refine t_q (q_fieldAddr 6 Try.runUnderlying34 rfl Try.sizeOf32 (by decide) rfl rfl) ?_
                    refine t_yes rfl rfl hg74 ?_
                    refine t_q (q_cast (v' := .agg (tcs n a2).toArray) (q_load_sub Try.isAgg32 Try.sizeOf32 rfl (hS.blk (by repeat first | exact .here _ _ | assumption | apply Pick.there)) (by show 0 + 6 + 8 ≤ 14; decide)) (by rfl)) ?_
                    refine t_yes rfl rfl hg74 ?_
                    refine t_q (q_fieldAddr 0 Try.runUnderlying34 rfl Try.sizeOf28 (by decide) rfl rfl) ?_
                    refine t_yes rfl rfl hg74 ?_
                    refine t_q (q_fieldAddr 0 Try.runUnderlying28 rfl Try.sizeOf3 (by decide) rfl rfl) ?_
                    refine t_yes rfl rfl hg74 ?_
                    refine t_q (q_load1 Try.isAgg3 rfl (hS.cell (by repeat first | exact .here _ _ | assumption | apply Pick.there) rfl)) ?_
                    refine t_yes rfl rfl hg74 ?_
                    refine t_call Try.call19 (all_calls (n := n) (v := s2.active) (s := a2) (by omega) hsb2) rfl ?_
                    rintro e w ⟨rfl, hT⟩
                    refine ⟨_, rfl, ?_⟩
                    replace hS := hS.after hT
                    refine t_yes rfl rfl hg74 ?_
                    refine t_q (q_not rfl) ?_
                    refine t_q (q_pick_t rfl hg74) ?_
                    refine t_q (q_mv (.bool _) rfl) ?_
                    refine t_case 131 rfl ?_ ?_
                    · intro hg76
                      refine t_no rfl rfl (by rw [(congrArg not (not_back hg76))]; decide) ?_
                      refine t_no rfl rfl (by rw [(congrArg not (not_back hg76))]; decide) ?_
                      refine t_no rfl rfl (by rw [(congrArg not (not_back hg76))]; decide) ?_
                      refine t_no rfl rfl (by rw [(congrArg not (not_back hg76))]; decide) ?_
                      refine t_no rfl rfl (by rw [(congrArg not (not_back hg76))]; decide) ?_
                      refine t_nu rfl rfl ?_
                      refine t_nu rfl rfl ?_
                      refine t_nu rfl rfl ?_
                      refine t_nu rfl rfl ?_
                      refine t_nu rfl rfl ?_
                      refine t_nu rfl rfl ?_
                      refine t_nu rfl rfl ?_
                      refine t_no rfl rfl (by rw [(congrArg not (not_back hg76))]; decide) ?_
                      refine t_q (q_pick_t rfl (congrArg not (not_back hg76))) ?_
                      refine t_nil ?_
                      refine c_cond_t rfl rfl ?_
                      exfalso
                      first
                        | (have h4 := bnt (by assumption : (!allT n a2 s2.active) = true)
                           rw [hA2.act (by omega)] at h4
                           cases h4)
                        | (have h4 := bnt (by assumption : (!allT n a2 s2.shadow) = true)
                           rw [hA2.sha (by omega)] at h4
                           cases h4)
                    · intro hg76
                      refine t_yes rfl rfl (congrArg not (not_back hg76)) ?_
                      refine t_q (q_fieldAddr 0 Try.runUnderlying34 rfl Try.sizeOf28 (by decide) rfl rfl) ?_
                      refine t_yes rfl rfl (congrArg not (not_back hg76)) ?_
                      refine t_q (q_fieldAddr 4 Try.runUnderlying28 rfl Try.sizeOf3 (by decide) rfl rfl) ?_
                      refine t_yes rfl rfl (congrArg not (not_back hg76)) ?_
                      refine t_q (q_load1 Try.isAgg3 rfl (hS.cell (by repeat first | exact .here _ _ | assumption | apply Pick.there) rfl)) ?_
                      refine t_yes rfl rfl (congrArg not (not_back hg76)) ?_
                      refine t_q (q_gtr rfl rfl) ?_
                      refine t_yes rfl rfl (congrArg not (not_back hg76)) ?_
                      refine t_q (q_mv (.bool _) rfl) ?_
                      refine t_case 136 rfl ?_ ?_
                      · intro hg78
                        have hg78d := of_decide_eq_true hg78
                        refine t_yes rfl rfl hg78 ?_
                        refine t_q (q_fieldAddr 6 Try.runUnderlying34 rfl Try.sizeOf32 (by decide) rfl rfl) ?_
                        refine t_yes rfl rfl hg78 ?_
                        refine t_q (q_cast (v' := .agg (tcs n a2).toArray) (q_load_sub Try.isAgg32 Try.sizeOf32 rfl (hS.blk (by repeat first | exact .here _ _ | assumption | apply Pick.there)) (by show 0 + 6 + 8 ≤ 14; decide)) (by rfl)) ?_
                        refine t_yes rfl rfl hg78 ?_
                        refine t_q (q_fieldAddr 0 Try.runUnderlying34 rfl Try.sizeOf28 (by decide) rfl rfl) ?_
                        refine t_yes rfl rfl hg78 ?_
                        refine t_q (q_fieldAddr 4 Try.runUnderlying28 rfl Try.sizeOf3 (by decide) rfl rfl) ?_
                        refine t_yes rfl rfl hg78 ?_
                        refine t_q (q_load1 Try.isAgg3 rfl (hS.cell (by repeat first | exact .here _ _ | assumption | apply Pick.there) rfl)) ?_
                        refine t_yes rfl rfl hg78 ?_
                        refine t_call Try.call19 (all_calls (n := n) (v := s2.shadow) (s := a2) (by omega) hsb2) rfl ?_
                        rintro e w ⟨rfl, hT⟩
                        refine ⟨_, rfl, ?_⟩
                        replace hS := hS.after hT
                        refine t_yes rfl rfl hg78 ?_
                        refine t_q (q_not rfl) ?_
                        refine t_yes rfl rfl (congrArg not (not_back hg76)) ?_
                        refine t_q (q_pick_t rfl hg78) ?_
                        refine t_q (q_pick_f rfl (congrArg not (not_back hg76))) ?_
                        refine t_nil ?_
                        refine c_cond rfl ?_ ?_
                        · intro hc80
                          exfalso
                          first
                            | (have h4 := bnt (by assumption : (!allT n a2 s2.active) = true)
                               rw [hA2.act (by omega)] at h4
                               cases h4)
                            | (have h4 := bnt (by assumption : (!allT n a2 s2.shadow) = true)
                               rw [hA2.sha (by omega)] at h4
                               cases h4)
                        · intro hc80
                          refine c_skip ?_
                          refine c_region ?_
                          refine t_q (q_add_i64 rfl rfl (by omega)) ?_
                          refine t_q (q_mv (.int _ _) rfl) ?_
                          refine t_nil ?_
                          exact ⟨k - 1, by omega, j + 1, s2, _, a2, ps2, rfl, by omega, by omega, hA2, hsb2, ((((hS.pick (A := rdsA _) (by repeat first | exact .here _ _ | assumption | apply Pick.there)).pick (A := regA W g _ _) (by repeat first | exact .here _ _ | assumption | apply Pick.there)).pick (A := blkA g5 34 [.int .i64 s2.active, .int .i64 s2.previous, .int .i64 s2.pending, .int .u64 s2.at_, .int .i64 s2.shadow, .pointer (some ⟨g, 0, none⟩), .int .i64 n, .int .u64 (a2 0), .int .u64 (a2 1), .int .u64 (a2 2), .int .u64 (a2 3), .int .u64 (a2 4), .int .u64 (a2 5), .int .u64 (a2 6)]) (by repeat first | exact .here _ _ | assumption | apply Pick.there))).front3⟩
                      · intro hg78
                        have hg78d := of_decide_eq_false hg78
                        refine t_no rfl rfl (by rw [hg78]; decide) ?_
                        refine t_no rfl rfl (by rw [hg78]; decide) ?_
                        refine t_no rfl rfl (by rw [hg78]; decide) ?_
                        refine t_no rfl rfl (by rw [hg78]; decide) ?_
                        refine t_no rfl rfl (by rw [hg78]; decide) ?_
                        refine t_no rfl rfl (by rw [hg78]; decide) ?_
                        refine t_no rfl rfl (by rw [hg78]; decide) ?_
                        refine t_yes rfl rfl (congrArg not (not_back hg76)) ?_
                        refine t_q (q_pick_f rfl hg78) ?_
                        refine t_q (q_pick_f rfl (congrArg not (not_back hg76))) ?_
                        refine t_nil ?_
                        refine c_cond_f rfl rfl ?_
                        refine c_skip ?_
                        refine c_region ?_
                        refine t_q (q_add_i64 rfl rfl (by omega)) ?_
                        refine t_q (q_mv (.int _ _) rfl) ?_
                        refine t_nil ?_
                        exact ⟨k - 1, by omega, j + 1, s2, _, a2, ps2, rfl, by omega, by omega, hA2, hsb2, ((((hS.pick (A := rdsA _) (by repeat first | exact .here _ _ | assumption | apply Pick.there)).pick (A := regA W g _ _) (by repeat first | exact .here _ _ | assumption | apply Pick.there)).pick (A := blkA g5 34 [.int .i64 s2.active, .int .i64 s2.previous, .int .i64 s2.pending, .int .u64 s2.at_, .int .i64 s2.shadow, .pointer (some ⟨g, 0, none⟩), .int .i64 n, .int .u64 (a2 0), .int .u64 (a2 1), .int .u64 (a2 2), .int .u64 (a2 3), .int .u64 (a2 4), .int .u64 (a2 5), .int .u64 (a2 6)]) (by repeat first | exact .here _ _ | assumption | apply Pick.there))).front3⟩
                  · intro hg74
                    have hg74d := of_decide_eq_false hg74
                    refine t_no rfl rfl (by rw [hg74]; decide) ?_
                    refine t_no rfl rfl (by rw [hg74]; decide) ?_
                    refine t_no rfl rfl (by rw [hg74]; decide) ?_
                    refine t_no rfl rfl (by rw [hg74]; decide) ?_
                    refine t_no rfl rfl (by rw [hg74]; decide) ?_
                    refine t_no rfl rfl (by rw [hg74]; decide) ?_
                    refine t_no rfl rfl (by rw [hg74]; decide) ?_
                    refine t_q (q_pick_f rfl hg74) ?_
                    refine t_q (q_mv (.bool _) rfl) ?_
                    refine t_yes rfl rfl rfl ?_
                    refine t_q (q_fieldAddr 0 Try.runUnderlying34 rfl Try.sizeOf28 (by decide) rfl rfl) ?_
                    refine t_yes rfl rfl rfl ?_
                    refine t_q (q_fieldAddr 4 Try.runUnderlying28 rfl Try.sizeOf3 (by decide) rfl rfl) ?_
                    refine t_yes rfl rfl rfl ?_
                    refine t_q (q_load1 Try.isAgg3 rfl (hS.cell (by repeat first | exact .here _ _ | assumption | apply Pick.there) rfl)) ?_
                    refine t_yes rfl rfl rfl ?_
                    refine t_q (q_gtr rfl rfl) ?_
                    refine t_yes rfl rfl rfl ?_
                    refine t_q (q_mv (.bool _) rfl) ?_
                    refine t_case 136 rfl ?_ ?_
                    · intro hg82
                      have hg82d := of_decide_eq_true hg82
                      refine t_yes rfl rfl hg82 ?_
                      refine t_q (q_fieldAddr 6 Try.runUnderlying34 rfl Try.sizeOf32 (by decide) rfl rfl) ?_
                      refine t_yes rfl rfl hg82 ?_
                      refine t_q (q_cast (v' := .agg (tcs n a2).toArray) (q_load_sub Try.isAgg32 Try.sizeOf32 rfl (hS.blk (by repeat first | exact .here _ _ | assumption | apply Pick.there)) (by show 0 + 6 + 8 ≤ 14; decide)) (by rfl)) ?_
                      refine t_yes rfl rfl hg82 ?_
                      refine t_q (q_fieldAddr 0 Try.runUnderlying34 rfl Try.sizeOf28 (by decide) rfl rfl) ?_
                      refine t_yes rfl rfl hg82 ?_
                      refine t_q (q_fieldAddr 4 Try.runUnderlying28 rfl Try.sizeOf3 (by decide) rfl rfl) ?_
                      refine t_yes rfl rfl hg82 ?_
                      refine t_q (q_load1 Try.isAgg3 rfl (hS.cell (by repeat first | exact .here _ _ | assumption | apply Pick.there) rfl)) ?_
                      refine t_yes rfl rfl hg82 ?_
                      refine t_call Try.call19 (all_calls (n := n) (v := s2.shadow) (s := a2) (by omega) hsb2) rfl ?_
                      rintro e w ⟨rfl, hT⟩
                      refine ⟨_, rfl, ?_⟩
                      replace hS := hS.after hT
                      refine t_yes rfl rfl hg82 ?_
                      refine t_q (q_not rfl) ?_
                      refine t_yes rfl rfl rfl ?_
                      refine t_q (q_pick_t rfl hg82) ?_
                      refine t_q (q_pick_f rfl rfl) ?_
                      refine t_nil ?_
                      refine c_cond rfl ?_ ?_
                      · intro hc84
                        exfalso
                        first
                          | (have h4 := bnt (by assumption : (!allT n a2 s2.active) = true)
                             rw [hA2.act (by omega)] at h4
                             cases h4)
                          | (have h4 := bnt (by assumption : (!allT n a2 s2.shadow) = true)
                             rw [hA2.sha (by omega)] at h4
                             cases h4)
                      · intro hc84
                        refine c_skip ?_
                        refine c_region ?_
                        refine t_q (q_add_i64 rfl rfl (by omega)) ?_
                        refine t_q (q_mv (.int _ _) rfl) ?_
                        refine t_nil ?_
                        exact ⟨k - 1, by omega, j + 1, s2, _, a2, ps2, rfl, by omega, by omega, hA2, hsb2, ((((hS.pick (A := rdsA _) (by repeat first | exact .here _ _ | assumption | apply Pick.there)).pick (A := regA W g _ _) (by repeat first | exact .here _ _ | assumption | apply Pick.there)).pick (A := blkA g5 34 [.int .i64 s2.active, .int .i64 s2.previous, .int .i64 s2.pending, .int .u64 s2.at_, .int .i64 s2.shadow, .pointer (some ⟨g, 0, none⟩), .int .i64 n, .int .u64 (a2 0), .int .u64 (a2 1), .int .u64 (a2 2), .int .u64 (a2 3), .int .u64 (a2 4), .int .u64 (a2 5), .int .u64 (a2 6)]) (by repeat first | exact .here _ _ | assumption | apply Pick.there))).front3⟩
                    · intro hg82
                      have hg82d := of_decide_eq_false hg82
                      refine t_no rfl rfl (by rw [hg82]; decide) ?_
                      refine t_no rfl rfl (by rw [hg82]; decide) ?_
                      refine t_no rfl rfl (by rw [hg82]; decide) ?_
                      refine t_no rfl rfl (by rw [hg82]; decide) ?_
                      refine t_no rfl rfl (by rw [hg82]; decide) ?_
                      refine t_no rfl rfl (by rw [hg82]; decide) ?_
                      refine t_no rfl rfl (by rw [hg82]; decide) ?_
                      refine t_yes rfl rfl rfl ?_
                      refine t_q (q_pick_f rfl hg82) ?_
                      refine t_q (q_pick_f rfl rfl) ?_
                      refine t_nil ?_
                      refine c_cond_f rfl rfl ?_
                      refine c_skip ?_
                      refine c_region ?_
                      refine t_q (q_add_i64 rfl rfl (by omega)) ?_
                      refine t_q (q_mv (.int _ _) rfl) ?_
                      refine t_nil ?_
                      exact ⟨k - 1, by omega, j + 1, s2, _, a2, ps2, rfl, by omega, by omega, hA2, hsb2, ((((hS.pick (A := rdsA _) (by repeat first | exact .here _ _ | assumption | apply Pick.there)).pick (A := regA W g _ _) (by repeat first | exact .here _ _ | assumption | apply Pick.there)).pick (A := blkA g5 34 [.int .i64 s2.active, .int .i64 s2.previous, .int .i64 s2.pending, .int .u64 s2.at_, .int .i64 s2.shadow, .pointer (some ⟨g, 0, none⟩), .int .i64 n, .int .u64 (a2 0), .int .u64 (a2 1), .int .u64 (a2 2), .int .u64 (a2 3), .int .u64 (a2 4), .int .u64 (a2 5), .int .u64 (a2 6)]) (by repeat first | exact .here _ _ | assumption | apply Pick.there))).front3⟩
        · intro hg64
          have hg64d := of_decide_eq_false hg64
          refine t_no rfl rfl (by rw [hg64]; decide) ?_
          refine t_no rfl rfl (by rw [hg64]; decide) ?_
          refine t_no rfl rfl (by rw [hg64]; decide) ?_
          refine t_no rfl rfl (by rw [hg64]; decide) ?_
          refine t_nu rfl rfl ?_
          refine t_nu rfl rfl ?_
          refine t_no rfl rfl (by rw [hg64]; decide) ?_
          refine t_no rfl rfl (by rw [hg64]; decide) ?_
          refine t_nu rfl rfl ?_
          refine t_nu rfl rfl ?_
          refine t_nu rfl rfl ?_
          refine t_nu rfl rfl ?_
          refine t_nu rfl rfl ?_
          refine t_nu rfl rfl ?_
          refine t_no rfl rfl (by rw [hg64]; decide) ?_
          refine t_no rfl rfl (by rw [hg64]; decide) ?_
          refine t_nu rfl rfl ?_
          refine t_nu rfl rfl ?_
          refine t_nu rfl rfl ?_
          refine t_nu rfl rfl ?_
          refine t_nu rfl rfl ?_
          refine t_nu rfl rfl ?_
          refine t_no rfl rfl (by rw [hg64]; decide) ?_
          refine t_q (q_pick_f rfl hg64) ?_
          refine t_nil ?_
          refine c_cond_f rfl rfl ?_
          refine c_skip ?_
          refine c_seq ?_
          refine c_region ?_
          refine t_q (q_fieldAddr 0 Try.runUnderlying34 rfl Try.sizeOf28 (by decide) rfl rfl) ?_
          refine t_q (q_fieldAddr 0 Try.runUnderlying28 rfl Try.sizeOf3 (by decide) rfl rfl) ?_
          refine t_q (q_load1 Try.isAgg3 rfl (hS.cell (by repeat first | exact .here _ _ | assumption | apply Pick.there) rfl)) ?_
          refine t_q (q_neq rfl rfl) ?_
          refine t_q (q_mv (.bool _) rfl) ?_
          refine t_case 122 rfl ?_ ?_
          · intro hg86
            have hg86d := of_decide_eq_true hg86
            refine t_yes rfl rfl hg86 ?_
            refine t_q (q_fieldAddr 6 Try.runUnderlying34 rfl Try.sizeOf32 (by decide) rfl rfl) ?_
            refine t_yes rfl rfl hg86 ?_
            refine t_q (q_cast (v' := .agg (tcs n a2).toArray) (q_load_sub Try.isAgg32 Try.sizeOf32 rfl (hS.blk (by repeat first | exact .here _ _ | assumption | apply Pick.there)) (by show 0 + 6 + 8 ≤ 14; decide)) (by rfl)) ?_
            refine t_yes rfl rfl hg86 ?_
            refine t_q (q_fieldAddr 0 Try.runUnderlying34 rfl Try.sizeOf28 (by decide) rfl rfl) ?_
            refine t_yes rfl rfl hg86 ?_
            refine t_q (q_fieldAddr 0 Try.runUnderlying28 rfl Try.sizeOf3 (by decide) rfl rfl) ?_
            refine t_yes rfl rfl hg86 ?_
            refine t_q (q_load1 Try.isAgg3 rfl (hS.cell (by repeat first | exact .here _ _ | assumption | apply Pick.there) rfl)) ?_
            refine t_yes rfl rfl hg86 ?_
            refine t_call Try.call19 (all_calls (n := n) (v := s2.active) (s := a2) (by omega) hsb2) rfl ?_
            rintro e w ⟨rfl, hT⟩
            refine ⟨_, rfl, ?_⟩
            replace hS := hS.after hT
            refine t_yes rfl rfl hg86 ?_
            refine t_q (q_not rfl) ?_
            refine t_q (q_pick_t rfl hg86) ?_
            refine t_q (q_mv (.bool _) rfl) ?_
            refine t_case 131 rfl ?_ ?_
            · intro hg88
              refine t_no rfl rfl (by rw [(congrArg not (not_back hg88))]; decide) ?_
              refine t_no rfl rfl (by rw [(congrArg not (not_back hg88))]; decide) ?_
              refine t_no rfl rfl (by rw [(congrArg not (not_back hg88))]; decide) ?_
              refine t_no rfl rfl (by rw [(congrArg not (not_back hg88))]; decide) ?_
              refine t_no rfl rfl (by rw [(congrArg not (not_back hg88))]; decide) ?_
              refine t_nu rfl rfl ?_
              refine t_nu rfl rfl ?_
              refine t_nu rfl rfl ?_
              refine t_nu rfl rfl ?_
              refine t_nu rfl rfl ?_
              refine t_nu rfl rfl ?_
              refine t_nu rfl rfl ?_
              refine t_no rfl rfl (by rw [(congrArg not (not_back hg88))]; decide) ?_
              refine t_q (q_pick_t rfl (congrArg not (not_back hg88))) ?_
              refine t_nil ?_
              refine c_cond_t rfl rfl ?_
              exfalso
              first
                | (have h4 := bnt (by assumption : (!allT n a2 s2.active) = true)
                   rw [hA2.act (by omega)] at h4
                   cases h4)
                | (have h4 := bnt (by assumption : (!allT n a2 s2.shadow) = true)
                   rw [hA2.sha (by omega)] at h4
                   cases h4)
            · intro hg88
              refine t_yes rfl rfl (congrArg not (not_back hg88)) ?_
              refine t_q (q_fieldAddr 0 Try.runUnderlying34 rfl Try.sizeOf28 (by decide) rfl rfl) ?_
              refine t_yes rfl rfl (congrArg not (not_back hg88)) ?_
              refine t_q (q_fieldAddr 4 Try.runUnderlying28 rfl Try.sizeOf3 (by decide) rfl rfl) ?_
              refine t_yes rfl rfl (congrArg not (not_back hg88)) ?_
              refine t_q (q_load1 Try.isAgg3 rfl (hS.cell (by repeat first | exact .here _ _ | assumption | apply Pick.there) rfl)) ?_
              refine t_yes rfl rfl (congrArg not (not_back hg88)) ?_
              refine t_q (q_gtr rfl rfl) ?_
              refine t_yes rfl rfl (congrArg not (not_back hg88)) ?_
              refine t_q (q_mv (.bool _) rfl) ?_
              refine t_case 136 rfl ?_ ?_
              · intro hg90
                have hg90d := of_decide_eq_true hg90
                refine t_yes rfl rfl hg90 ?_
                refine t_q (q_fieldAddr 6 Try.runUnderlying34 rfl Try.sizeOf32 (by decide) rfl rfl) ?_
                refine t_yes rfl rfl hg90 ?_
                refine t_q (q_cast (v' := .agg (tcs n a2).toArray) (q_load_sub Try.isAgg32 Try.sizeOf32 rfl (hS.blk (by repeat first | exact .here _ _ | assumption | apply Pick.there)) (by show 0 + 6 + 8 ≤ 14; decide)) (by rfl)) ?_
                refine t_yes rfl rfl hg90 ?_
                refine t_q (q_fieldAddr 0 Try.runUnderlying34 rfl Try.sizeOf28 (by decide) rfl rfl) ?_
                refine t_yes rfl rfl hg90 ?_
                refine t_q (q_fieldAddr 4 Try.runUnderlying28 rfl Try.sizeOf3 (by decide) rfl rfl) ?_
                refine t_yes rfl rfl hg90 ?_
                refine t_q (q_load1 Try.isAgg3 rfl (hS.cell (by repeat first | exact .here _ _ | assumption | apply Pick.there) rfl)) ?_
                refine t_yes rfl rfl hg90 ?_
                refine t_call Try.call19 (all_calls (n := n) (v := s2.shadow) (s := a2) (by omega) hsb2) rfl ?_
                rintro e w ⟨rfl, hT⟩
                refine ⟨_, rfl, ?_⟩
                replace hS := hS.after hT
                refine t_yes rfl rfl hg90 ?_
                refine t_q (q_not rfl) ?_
                refine t_yes rfl rfl (congrArg not (not_back hg88)) ?_
                refine t_q (q_pick_t rfl hg90) ?_
                refine t_q (q_pick_f rfl (congrArg not (not_back hg88))) ?_
                refine t_nil ?_
                refine c_cond rfl ?_ ?_
                · intro hc92
                  exfalso
                  first
                    | (have h4 := bnt (by assumption : (!allT n a2 s2.active) = true)
                       rw [hA2.act (by omega)] at h4
                       cases h4)
                    | (have h4 := bnt (by assumption : (!allT n a2 s2.shadow) = true)
                       rw [hA2.sha (by omega)] at h4
                       cases h4)
                · intro hc92
                  refine c_skip ?_
                  refine c_region ?_
                  refine t_q (q_add_i64 rfl rfl (by omega)) ?_
                  refine t_q (q_mv (.int _ _) rfl) ?_
                  refine t_nil ?_
                  exact ⟨k - 1, by omega, j + 1, s2, _, a2, ps2, rfl, by omega, by omega, hA2, hsb2, ((((hS.pick (A := rdsA _) (by repeat first | exact .here _ _ | assumption | apply Pick.there)).pick (A := regA W g _ _) (by repeat first | exact .here _ _ | assumption | apply Pick.there)).pick (A := blkA g5 34 [.int .i64 s2.active, .int .i64 s2.previous, .int .i64 s2.pending, .int .u64 s2.at_, .int .i64 s2.shadow, .pointer (some ⟨g, 0, none⟩), .int .i64 n, .int .u64 (a2 0), .int .u64 (a2 1), .int .u64 (a2 2), .int .u64 (a2 3), .int .u64 (a2 4), .int .u64 (a2 5), .int .u64 (a2 6)]) (by repeat first | exact .here _ _ | assumption | apply Pick.there))).front3⟩
              · intro hg90
                have hg90d := of_decide_eq_false hg90
                refine t_no rfl rfl (by rw [hg90]; decide) ?_
                refine t_no rfl rfl (by rw [hg90]; decide) ?_
                refine t_no rfl rfl (by rw [hg90]; decide) ?_
                refine t_no rfl rfl (by rw [hg90]; decide) ?_
                refine t_no rfl rfl (by rw [hg90]; decide) ?_
                refine t_no rfl rfl (by rw [hg90]; decide) ?_
                refine t_no rfl rfl (by rw [hg90]; decide) ?_
                refine t_yes rfl rfl (congrArg not (not_back hg88)) ?_
                refine t_q (q_pick_f rfl hg90) ?_
                refine t_q (q_pick_f rfl (congrArg not (not_back hg88))) ?_
                refine t_nil ?_
                refine c_cond_f rfl rfl ?_
                refine c_skip ?_
                refine c_region ?_
                refine t_q (q_add_i64 rfl rfl (by omega)) ?_
                refine t_q (q_mv (.int _ _) rfl) ?_
                refine t_nil ?_
                exact ⟨k - 1, by omega, j + 1, s2, _, a2, ps2, rfl, by omega, by omega, hA2, hsb2, ((((hS.pick (A := rdsA _) (by repeat first | exact .here _ _ | assumption | apply Pick.there)).pick (A := regA W g _ _) (by repeat first | exact .here _ _ | assumption | apply Pick.there)).pick (A := blkA g5 34 [.int .i64 s2.active, .int .i64 s2.previous, .int .i64 s2.pending, .int .u64 s2.at_, .int .i64 s2.shadow, .pointer (some ⟨g, 0, none⟩), .int .i64 n, .int .u64 (a2 0), .int .u64 (a2 1), .int .u64 (a2 2), .int .u64 (a2 3), .int .u64 (a2 4), .int .u64 (a2 5), .int .u64 (a2 6)]) (by repeat first | exact .here _ _ | assumption | apply Pick.there))).front3⟩
          · intro hg86
            have hg86d := of_decide_eq_false hg86
            refine t_no rfl rfl (by rw [hg86]; decide) ?_
            refine t_no rfl rfl (by rw [hg86]; decide) ?_
            refine t_no rfl rfl (by rw [hg86]; decide) ?_
            refine t_no rfl rfl (by rw [hg86]; decide) ?_
            refine t_no rfl rfl (by rw [hg86]; decide) ?_
            refine t_no rfl rfl (by rw [hg86]; decide) ?_
            refine t_no rfl rfl (by rw [hg86]; decide) ?_
            refine t_q (q_pick_f rfl hg86) ?_
            refine t_q (q_mv (.bool _) rfl) ?_
            refine t_yes rfl rfl rfl ?_
            refine t_q (q_fieldAddr 0 Try.runUnderlying34 rfl Try.sizeOf28 (by decide) rfl rfl) ?_
            refine t_yes rfl rfl rfl ?_
            refine t_q (q_fieldAddr 4 Try.runUnderlying28 rfl Try.sizeOf3 (by decide) rfl rfl) ?_
            refine t_yes rfl rfl rfl ?_
            refine t_q (q_load1 Try.isAgg3 rfl (hS.cell (by repeat first | exact .here _ _ | assumption | apply Pick.there) rfl)) ?_
            refine t_yes rfl rfl rfl ?_
            refine t_q (q_gtr rfl rfl) ?_
            refine t_yes rfl rfl rfl ?_
            refine t_q (q_mv (.bool _) rfl) ?_
            refine t_case 136 rfl ?_ ?_
            · intro hg94
              have hg94d := of_decide_eq_true hg94
              refine t_yes rfl rfl hg94 ?_
              refine t_q (q_fieldAddr 6 Try.runUnderlying34 rfl Try.sizeOf32 (by decide) rfl rfl) ?_
              refine t_yes rfl rfl hg94 ?_
              refine t_q (q_cast (v' := .agg (tcs n a2).toArray) (q_load_sub Try.isAgg32 Try.sizeOf32 rfl (hS.blk (by repeat first | exact .here _ _ | assumption | apply Pick.there)) (by show 0 + 6 + 8 ≤ 14; decide)) (by rfl)) ?_
              refine t_yes rfl rfl hg94 ?_
              refine t_q (q_fieldAddr 0 Try.runUnderlying34 rfl Try.sizeOf28 (by decide) rfl rfl) ?_
              refine t_yes rfl rfl hg94 ?_
              refine t_q (q_fieldAddr 4 Try.runUnderlying28 rfl Try.sizeOf3 (by decide) rfl rfl) ?_
              refine t_yes rfl rfl hg94 ?_
              refine t_q (q_load1 Try.isAgg3 rfl (hS.cell (by repeat first | exact .here _ _ | assumption | apply Pick.there) rfl)) ?_
              refine t_yes rfl rfl hg94 ?_
              refine t_call Try.call19 (all_calls (n := n) (v := s2.shadow) (s := a2) (by omega) hsb2) rfl ?_
              rintro e w ⟨rfl, hT⟩
              refine ⟨_, rfl, ?_⟩
              replace hS := hS.after hT
              refine t_yes rfl rfl hg94 ?_
              refine t_q (q_not rfl) ?_
              refine t_yes rfl rfl rfl ?_
              refine t_q (q_pick_t rfl hg94) ?_
              refine t_q (q_pick_f rfl rfl) ?_
              refine t_nil ?_
              refine c_cond rfl ?_ ?_
              · intro hc96
                exfalso
                first
                  | (have h4 := bnt (by assumption : (!allT n a2 s2.active) = true)
                     rw [hA2.act (by omega)] at h4
                     cases h4)
                  | (have h4 := bnt (by assumption : (!allT n a2 s2.shadow) = true)
                     rw [hA2.sha (by omega)] at h4
                     cases h4)
              · intro hc96
                refine c_skip ?_
                refine c_region ?_
                refine t_q (q_add_i64 rfl rfl (by omega)) ?_
                refine t_q (q_mv (.int _ _) rfl) ?_
                refine t_nil ?_
                exact ⟨k - 1, by omega, j + 1, s2, _, a2, ps2, rfl, by omega, by omega, hA2, hsb2, ((((hS.pick (A := rdsA _) (by repeat first | exact .here _ _ | assumption | apply Pick.there)).pick (A := regA W g _ _) (by repeat first | exact .here _ _ | assumption | apply Pick.there)).pick (A := blkA g5 34 [.int .i64 s2.active, .int .i64 s2.previous, .int .i64 s2.pending, .int .u64 s2.at_, .int .i64 s2.shadow, .pointer (some ⟨g, 0, none⟩), .int .i64 n, .int .u64 (a2 0), .int .u64 (a2 1), .int .u64 (a2 2), .int .u64 (a2 3), .int .u64 (a2 4), .int .u64 (a2 5), .int .u64 (a2 6)]) (by repeat first | exact .here _ _ | assumption | apply Pick.there))).front3⟩
            · intro hg94
              have hg94d := of_decide_eq_false hg94
              refine t_no rfl rfl (by rw [hg94]; decide) ?_
              refine t_no rfl rfl (by rw [hg94]; decide) ?_
              refine t_no rfl rfl (by rw [hg94]; decide) ?_
              refine t_no rfl rfl (by rw [hg94]; decide) ?_
              refine t_no rfl rfl (by rw [hg94]; decide) ?_
              refine t_no rfl rfl (by rw [hg94]; decide) ?_
              refine t_no rfl rfl (by rw [hg94]; decide) ?_
              refine t_yes rfl rfl rfl ?_
              refine t_q (q_pick_f rfl hg94) ?_
              refine t_q (q_pick_f rfl rfl) ?_
              refine t_nil ?_
              refine c_cond_f rfl rfl ?_
              refine c_skip ?_
              refine c_region ?_
              refine t_q (q_add_i64 rfl rfl (by omega)) ?_
              refine t_q (q_mv (.int _ _) rfl) ?_
              refine t_nil ?_
              exact ⟨k - 1, by omega, j + 1, s2, _, a2, ps2, rfl, by omega, by omega, hA2, hsb2, ((((hS.pick (A := rdsA _) (by repeat first | exact .here _ _ | assumption | apply Pick.there)).pick (A := regA W g _ _) (by repeat first | exact .here _ _ | assumption | apply Pick.there)).pick (A := blkA g5 34 [.int .i64 s2.active, .int .i64 s2.previous, .int .i64 s2.pending, .int .u64 s2.at_, .int .i64 s2.shadow, .pointer (some ⟨g, 0, none⟩), .int .i64 n, .int .u64 (a2 0), .int .u64 (a2 1), .int .u64 (a2 2), .int .u64 (a2 3), .int .u64 (a2 4), .int .u64 (a2 5), .int .u64 (a2 6)]) (by repeat first | exact .here _ _ | assumption | apply Pick.there))).front3⟩
    · intro hc8
      have hc8d := of_decide_eq_false hc8
      refine c_exit ?_
      refine ite_t rfl ?_
      refine c_seq ?_
      refine c_region ?_
      refine t_call Try.call16 (vlives_calls) rfl ?_
      rintro e w ⟨rfl, hT⟩
      refine ⟨_, rfl, ?_⟩
      replace hS := hS.after hT
      refine t_q (q_as (.bool _) rfl) ?_
      refine t_nil ?_
      refine c_ret ?_
      refine r_one rfl rfl ?_
      exact ⟨rfl, hS.nil⟩
end Go.Proofs.Ytmgobaojioaioaa
