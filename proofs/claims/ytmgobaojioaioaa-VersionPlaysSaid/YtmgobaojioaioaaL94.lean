/- Whatever is done, at whatever entry: sound boards stay sound; boards are alike; the walk. -/
import Derived.Test.YtmgobaojioaioaaYl
import Derived.Test.YtmgobaojioaioaaYg
import Derived.Test.YtmgobaojioaioaaYj
namespace Go.Proofs.Ytmgobaojioaioaa
open Go Go.RowKit Go.Lib
variable {W : World}
/-- what Sound looks for, and a version that counts is not 0 -/
structure SndP (M : List RuV) (s : StV) : Prop where
  pre : s.previous ≠ 0 → vknownE M s.previous = 0
  pen : s.pending ≠ 0 → vknownE M s.pending = 0
  sha : s.shadow ≠ 0 → vknownE M s.shadow = 0
  act : vknownE M s.active = 0
  pa : s.pending ≠ s.active
  sa : s.shadow ≠ s.active
  at_ : s.at_ = 0 ↔ s.pending = 0
  nz : s.active ≠ 0
theorem SndP.sound {M : List RuV} {s : StV} (h : SndP M s) : soundV M s = true := by
  have h3 : ∀ i, i < 3 → v3 s i ≠ 0 → vknownE M (v3 s i) = 0 := fun i hi h0 => by
    rcases (show i = 0 ∨ i = 1 ∨ i = 2 by omega) with rfl | rfl | rfl
    · exact h.pre h0
    · exact h.pen h0
    · exact h.sha h0
  rw [snd_all h3]
  exact decide_eq_true ⟨h.act, h.pa, h.sa, h.at_⟩
theorem known_iff {M : List RuV} {v : Int} : vknownE M v = 0 ↔ ∃ r ∈ M, r.version = v := by
  unfold vknownE
  rw [← rgF_isSome]
  cases (rgF M v).isSome <;> simp
theorem known_put {M : List RuV} {v : Int} {x : RuV} (h : vknownE M v = 0) : vknownE (gputM M x) v = 0 := by
  obtain ⟨r, hr, hv⟩ := known_iff.1 h
  unfold gputM
  by_cases h0 : gputE M x = 0
  · rw [if_pos h0]
    exact known_iff.2 ⟨r, (rgI_perm _ _).symm.subset (List.mem_cons_of_mem _ hr), hv⟩
  · rw [if_neg h0]; exact h
theorem SndP.put {M : List RuV} {s : StV} {x : RuV} (h : SndP M s) : SndP (gputM M x) s := ⟨fun a => known_put (h.pre a), fun a => known_put (h.pen a), fun a => known_put (h.sha a), known_put h.act, h.pa, h.sa, h.at_, h.nz⟩
theorem SndP.one {M : List RuV} (h : vknownE M 1 = 0) : SndP M ⟨1, 0, 0, 0, 0⟩ := ⟨fun a => absurd rfl a, fun a => absurd rfl a, fun a => absurd rfl a, h, by show (0 : Int) ≠ 1; decide, by show (0 : Int) ≠ 1; decide, ⟨fun _ => rfl, fun _ => rfl⟩, by show (1 : Int) ≠ 0; decide⟩
theorem step_snd {M : List RuV} {s : StV} (h : SndP M s) (i : Int) : SndP M (stepV s i).1 := by
  by_cases hc : s.pending = 0 ∨ s.at_ ≠ i
  · rw [stepV_no hc]; exact h
  · rw [stepV_yes hc]
    have hp : s.pending ≠ 0 := fun h => hc (.inl h)
    exact ⟨fun _ => h.act, fun a => absurd rfl a, fun a => absurd rfl a, h.pen hp, fun a => hp a.symm, fun a => hp a.symm, ⟨fun _ => rfl, fun _ => rfl⟩, hp⟩
theorem vready_0 {M : List RuV} {s : StV} {v b : Int} (h : vreadyE M s v b = 0) : vknownE M v = 0 ∧ b = 0 ∧ v ≠ s.active := by
  unfold vreadyE at h
  by_cases h1 : vknownE M v ≠ 0
  · rw [if_pos h1] at h; exact absurd h (by decide)
  rw [if_neg h1] at h
  by_cases h2 : b ≠ 0
  · rw [if_pos h2] at h; exact absurd h (by decide)
  rw [if_neg h2] at h
  by_cases h3 : v = s.active
  · rw [if_pos h3] at h; exact absurd h (by decide)
  exact ⟨by omega, by omega, h3⟩
theorem vsched_0 {M : List RuV} {s : StV} {n v t i : Int} {a : Nat → Int} (h : vschedE M s n a v t i = 0) : vreadyE M s v s.pending = 0 ∧ ¬ t ≤ i ∧ allT n a v = true := by
  unfold vschedE at h
  by_cases h1 : vreadyE M s v s.pending ≠ 0
  · rw [if_pos h1] at h; exact absurd h h1
  rw [if_neg h1] at h
  by_cases h2 : t ≤ i
  · rw [if_pos h2] at h; exact absurd h (by decide)
  rw [if_neg h2] at h
  by_cases h3 : t - i > 1048576
  · rw [if_pos h3] at h; exact absurd h (by decide)
  rw [if_neg h3] at h
  by_cases h4 : allT n a v = false
  · rw [if_pos h4] at h; exact absurd h (by decide)
  · exact ⟨by omega, h2, by simpa using h4⟩
theorem allT_nz {n v : Int} {a : Nat → Int} (h : allT n a v = true) : v ≠ 0 := by
  rintro rfl
  unfold allT at h
  rw [bitN_out (by omega)] at h
  simp at h
theorem ap_snd {M : List RuV} {s : StV} {n i : Int} {a : Nat → Int} {c : CmdV} (h : SndP M s) (hi : 0 ≤ i) : SndP (apV s M n a c i).M (apS s M n a c i) := by
  by_cases h0 : (apV s M n a c i).e = 0
  · obtain ⟨e1, _, _⟩ := ap_ok h0
    rw [e1]
    by_cases h9 : c.kind = 9
    · rw [ap_9 h9]; exact h.put
    by_cases h10 : c.kind = 10
    · by_cases hk : vknownE M c.version = 0
      · rw [ap_10a h10 hk]; exact h
      · rw [ap_10b h10 hk]; exact h
    by_cases h11 : c.kind = 11
    · by_cases hk : vreadyE M s c.version s.shadow = 0 ∧ allT n a c.version = false
      · rw [ap_11a h11 hk.1 hk.2] at h0; exact absurd h0 (by show ¬ (61 : Int) = 0; decide)
      · rw [ap_11b h11 hk] at h0 ⊢
        obtain ⟨b1, b2, b3⟩ := vready_0 h0
        exact ⟨h.pre, h.pen, fun _ => b1, h.act, h.pa, b3, h.at_, h.nz⟩
    by_cases h12 : c.kind = 12
    · rw [ap_12 h12]
      exact ⟨h.pre, h.pen, fun b => absurd rfl b, h.act, h.pa, fun b => h.nz b.symm, h.at_, h.nz⟩
    by_cases h13 : c.kind = 13
    · rw [ap_13 h13] at h0 ⊢
      obtain ⟨b1, b2, b3⟩ := vsched_0 h0
      obtain ⟨r1, r2, r3⟩ := vready_0 b1
      have b4 := allT_nz b3
      exact ⟨h.pre, fun _ => r1, h.sha, h.act, r3, h.sa, ⟨fun b => absurd (show c.at_ = 0 from b) (by omega), fun b => absurd b b4⟩, h.nz⟩
    by_cases h14 : c.kind = 14
    · rw [ap_14 h14] at h0 ⊢
      by_cases hp : s.pending ≠ 0
      · rw [backV_1 hp]
        exact ⟨h.pre, fun b => absurd rfl b, h.sha, h.act, fun b => h.nz b.symm, h.sa, ⟨fun _ => rfl, fun _ => rfl⟩, h.nz⟩
      · by_cases hq : s.previous = 0
        · rw [backV_2 hp hq]; exact h
        · rw [backV_3 hp hq]
          exact ⟨fun b => absurd rfl b, fun b => absurd rfl b, fun b => absurd rfl b, h.pre hq, fun b => hq b.symm, fun b => hq b.symm, ⟨fun _ => rfl, fun _ => rfl⟩, hq⟩
    · rw [ap_0 (by omega)]; exact h
  · obtain ⟨e1, _, _, e4⟩ := ap_err h0
    rw [e1, e4]; exact h
theorem rz1 : (0 : Int) ≤ 0 ∧ (0 : Int) < 18446744073709551616 := by decide
theorem rz2 : -9223372036854775808 ≤ (0 : Int) ∧ (0 : Int) ≤ 9223372036854775807 := by decide
theorem back_in {s : StV} (h : s.In) : (backV s).1.In := by
  obtain ⟨a1, a2, a3, a4, a5⟩ := h
  by_cases hp : s.pending ≠ 0
  · rw [backV_1 hp]; exact ⟨a1, a2, rz2, rz1, a5⟩
  · by_cases hq : s.previous = 0
    · rw [backV_2 hp hq]; exact ⟨a1, a2, a3, a4, a5⟩
    · rw [backV_3 hp hq]; exact ⟨a2, rz2, rz2, rz1, rz2⟩
theorem apS_in {M : List RuV} {s : StV} {n i : Int} {a : Nat → Int} {c : CmdV} (h : s.In) (hv : -9223372036854775808 ≤ c.version ∧ c.version ≤ 9223372036854775807) (hat : 0 ≤ c.at_ ∧ c.at_ < 18446744073709551616) : (apS s M n a c i).In := by
  by_cases h0 : (apV s M n a c i).e = 0
  · obtain ⟨e1, _, _⟩ := ap_ok h0
    rw [e1]
    obtain ⟨a1, a2, a3, a4, a5⟩ := h
    by_cases h9 : c.kind = 9
    · rw [ap_9 h9]; exact ⟨a1, a2, a3, a4, a5⟩
    by_cases h10 : c.kind = 10
    · rw [ap_10 h10]; exact ⟨a1, a2, a3, a4, a5⟩
    by_cases h11 : c.kind = 11
    · rw [ap_11 h11]; exact ⟨a1, a2, a3, a4, hv⟩
    by_cases h12 : c.kind = 12
    · rw [ap_12 h12]; exact ⟨a1, a2, a3, a4, rz2⟩
    by_cases h13 : c.kind = 13
    · rw [ap_13 h13]; exact ⟨a1, a2, hv, hat, a5⟩
    by_cases h14 : c.kind = 14
    · rw [ap_14 h14]; exact back_in ⟨a1, a2, a3, a4, a5⟩
    · rw [ap_0 (by omega)]; exact ⟨a1, a2, a3, a4, a5⟩
  · obtain ⟨e1, _, _, _⟩ := ap_err h0
    rw [e1]; exact h
theorem ev_rg {k ac v x : Int} (hk : -9223372036854775808 ≤ k ∧ k ≤ 9223372036854775807) (ha : -9223372036854775808 ≤ ac ∧ ac ≤ 9223372036854775807) (hv : -9223372036854775808 ≤ v ∧ v ≤ 9223372036854775807) (hx : 0 ≤ x ∧ x < 18446744073709551616) : EvE.Rg ⟨k, ac, 0, 0, 0, 0, 0, 0, 0, 0, v, x⟩ :=
  have z1 : (0 : Int) ≤ 0 ∧ (0 : Int) < 18446744073709551616 := by decide
  have z2 : -9223372036854775808 ≤ (0 : Int) ∧ (0 : Int) ≤ 9223372036854775807 := by decide
  ⟨hk, ha, z1, z1, z2, z2, z2, z2, z2, z2, hv, hx⟩
theorem apE_rg {M : List RuV} {s : StV} {n i : Int} {a : Nat → Int} {c : CmdV} (h : s.In) (hv : -9223372036854775808 ≤ c.version ∧ c.version ≤ 9223372036854775807) (hat : 0 ≤ c.at_ ∧ c.at_ < 18446744073709551616) (hr : -9223372036854775808 ≤ c.replica ∧ c.replica ≤ 9223372036854775807)
    (hrv : -9223372036854775808 ≤ c.rules.version ∧ c.rules.version ≤ 9223372036854775807) : (apE s M n a c i).Rg := by
  have z1 : (0 : Int) ≤ 0 ∧ (0 : Int) < 18446744073709551616 := by decide
  have z2 : -9223372036854775808 ≤ (0 : Int) ∧ (0 : Int) ≤ 9223372036854775807 := by decide
  by_cases h0 : (apV s M n a c i).e = 0
  · obtain ⟨_, _, e3⟩ := ap_ok h0
    rw [e3]
    by_cases h9 : c.kind = 9
    · rw [ap_9 h9]; exact ev_rg (by decide) z2 hrv z1
    by_cases h10 : c.kind = 10
    · rw [ap_10 h10]; exact ev_rg (by decide) hr hv z1
    by_cases h11 : c.kind = 11
    · rw [ap_11 h11]; exact ev_rg (by decide) z2 hv z1
    by_cases h12 : c.kind = 12
    · rw [ap_12 h12]; exact ev_rg (by decide) z2 h.2.2.2.2 z1
    by_cases h13 : c.kind = 13
    · rw [ap_13 h13]; exact ev_rg (by decide) z2 hv hat
    by_cases h14 : c.kind = 14
    · rw [ap_14 h14]; exact ev_rg (by decide) z2 (back_in h).1 z1
    · rw [ap_0 (by omega)]; exact ev_rg z2 z2 hv z1
  · obtain ⟨_, _, e3, _⟩ := ap_err h0
    rw [e3]; exact evZ_rg
theorem bdc_congr {s : StV} {p : Option Addr} {n : Int} {a b : Nat → Int} (h : tcs n a = tcs n b) : bdc s p n a = bdc s p n b := by
  unfold bdc
  rw [h]
theorem one_in : StV.In (⟨1, 0, 0, 0, 0⟩ : StV) := ⟨by decide, by decide, by decide, by decide, by decide⟩
theorem greg_one6 {y : RuV} (h : nf y = (bas 1 none 0 none 0)) : GReg ([y].map nf) := by
  have hg : goodR y = true := by rw [← nf_good, h, bas_goodP]; decide
  have h1 := GReg.nil.put y
  rw [(gput_nil y).2, if_pos hg] at h1
  exact h1
theorem ap_reg {M : List RuV} {s : StV} {n i : Int} {a : Nat → Int} {c : CmdV} (h : GReg M) : GReg (apV s M n a c i).M := by
  by_cases h9 : c.kind = 9
  · rw [ap_9 h9]; exact h.put _
  · unfold apV
    rw [if_neg h9]
    repeat' split
    all_goals exact h
attribute [local irreducible] blkA rowA rdsA mapA regA
set_option maxHeartbeats 4000000 in
set_option maxRecDepth 100000 in
theorem vlike_calls {w : World} {R : List Asn} {g q : Nat} {M : List RuV} {ps : List RdP} {A : Option Addr} {c1 : Nat} {Y : List RuV} {A2 : Option Addr} {c2 : Nat} {K : AckL} {s : StV} {n : Int} (hS : St W w (regA W g M ps :: blkA q 141 [.slice A Y.length c1] :: rowA 47 9 A Y.length c1 (Y.flatMap RuV.cells) :: rowA 199 2 A2 K.length c2 (K.flatMap ackC) :: rdsA ps :: R)) (hM : Y.map nf = M) (hY : ∀ w', St W w' (rdsA ps :: R) → ∀ y ∈ Y, y.Gd w') (hs : s.In) (hn : 0 ≤ n ∧ n ≤ 7) (hok : AckOk n K) (hKl : K.length ≤ 1000) : Calls Try.prog 69 #[.agg (bdc s (some ⟨g, 0, none⟩) n (ofF K)).toArray, .agg (([.int .i64 s.active, .int .i64 s.previous, .int .i64 s.pending, .int .u64 s.at_, .int .i64 s.shadow, .pointer (some ⟨q, 0, none⟩), .int .i64 n, .slice A2 K.length c2] : List Value)).toArray] w fun e w' => e = .returned (.bool true) ∧ St W w' (regA W g M ps :: blkA q 141 [.slice A Y.length c1] :: rowA 47 9 A Y.length c1 (Y.flatMap RuV.cells) :: rowA 199 2 A2 K.length c2 (K.flatMap ackC) :: rdsA ps :: R) := by
 have hG := St.reg_good hS (by repeat constructor)
 have hl16 := hG.len
 have hYM : Y.length = M.length := by rw [← hM, List.length_map]
 refine calls_of_wpE (args := [_, _]) Try.func69 rfl rfl rfl ?_
 refine c_seq (c_region ?_)
 refine t_box (v := (.agg _)) rfl rfl hS (fun g2 w hS => ?_)
 replace hS := hS.recast (show _ = blkA g2 34 [.int .i64 s.active, .int .i64 s.previous, .int .i64 s.pending, .int .u64 s.at_, .int .i64 s.shadow, .pointer (some ⟨g, 0, none⟩), .int .i64 n, .int .u64 ((ofF K) 0), .int .u64 ((ofF K) 1), .int .u64 ((ofF K) 2), .int .u64 ((ofF K) 3), .int .u64 ((ofF K) 4), .int .u64 ((ofF K) 5), .int .u64 ((ofF K) 6)] from rfl)
 refine t_box (v := (.agg _)) rfl rfl hS (fun g3 w hS => ?_)
 replace hS := hS.recast (show _ = blkA g3 41 [.int .i64 s.active, .int .i64 s.previous, .int .i64 s.pending, .int .u64 s.at_, .int .i64 s.shadow, .pointer (some ⟨q, 0, none⟩), .int .i64 n, .slice A2 K.length c2] from rfl)
 refine t_q (q_assign) ?_
 refine t_nil (c_seq (c_seq (c_draw ?_)))
 refine d_keep2 (blkA g2 34 [.int .i64 s.active, .int .i64 s.previous, .int .i64 s.pending, .int .u64 s.at_, .int .i64 s.shadow, .pointer (some ⟨g, 0, none⟩), .int .i64 n, .int .u64 ((ofF K) 0), .int .u64 ((ofF K) 1), .int .u64 ((ofF K) 2), .int .u64 ((ofF K) 3), .int .u64 ((ofF K) 4), .int .u64 ((ofF K) 5), .int .u64 ((ofF K) 6)]) (blkA g3 41 [.int .i64 s.active, .int .i64 s.previous, .int .i64 s.pending, .int .u64 s.at_, .int .i64 s.shadow, .pointer (some ⟨q, 0, none⟩), .int .i64 n, .slice A2 K.length c2]) 14 [0, 1, 2, 3, 4, 5, 6, 7, 8, 9, 10, 11, 12, 13] [0, 1, 2, 3, 4, 5, 6, 7, 8, 9, 10, 11, 12, 13] hS rfl (by kernel_rfl) (by kernel_rfl) (by kernel_rfl) (by kernel_rfl) (fun hap hsel w hS => ?_)
 refine p_q hap hsel 0 rfl rfl ⟨_, ((hS.pick (A := blkA g3 41 [.int .i64 s.active, .int .i64 s.previous, .int .i64 s.pending, .int .u64 s.at_, .int .i64 s.shadow, .pointer (some ⟨q, 0, none⟩), .int .i64 n, .slice A2 K.length c2]) (by repeat constructor)).pick (A := blkA g2 34 [.int .i64 s.active, .int .i64 s.previous, .int .i64 s.pending, .int .u64 s.at_, .int .i64 s.shadow, .pointer (some ⟨g, 0, none⟩), .int .i64 n, .int .u64 ((ofF K) 0), .int .u64 ((ofF K) 1), .int .u64 ((ofF K) 2), .int .u64 ((ofF K) 3), .int .u64 ((ofF K) 4), .int .u64 ((ofF K) 5), .int .u64 ((ofF K) 6)]) (by repeat constructor))⟩ (fun w hI => q_fieldAddr 0 Try.runUnderlying34 rfl Try.sizeOf28 (by decide) rfl rfl) ?_
 refine p_q hap hsel 1 rfl rfl ⟨_, ((hS.pick (A := blkA g3 41 [.int .i64 s.active, .int .i64 s.previous, .int .i64 s.pending, .int .u64 s.at_, .int .i64 s.shadow, .pointer (some ⟨q, 0, none⟩), .int .i64 n, .slice A2 K.length c2]) (by repeat constructor)).pick (A := blkA g2 34 [.int .i64 s.active, .int .i64 s.previous, .int .i64 s.pending, .int .u64 s.at_, .int .i64 s.shadow, .pointer (some ⟨g, 0, none⟩), .int .i64 n, .int .u64 ((ofF K) 0), .int .u64 ((ofF K) 1), .int .u64 ((ofF K) 2), .int .u64 ((ofF K) 3), .int .u64 ((ofF K) 4), .int .u64 ((ofF K) 5), .int .u64 ((ofF K) 6)]) (by repeat constructor))⟩ (fun w hI => (q_cast (v' := .agg s.cells.toArray) (q_load_sub Try.isAgg28 Try.sizeOf28 rfl (hI.choose_spec.blk (by repeat constructor)) (by show 0 + 0 + 5 ≤ 14; decide)) (by rfl))) ?_
 refine p_q hap hsel 2 rfl rfl ⟨_, ((hS.pick (A := blkA g3 41 [.int .i64 s.active, .int .i64 s.previous, .int .i64 s.pending, .int .u64 s.at_, .int .i64 s.shadow, .pointer (some ⟨q, 0, none⟩), .int .i64 n, .slice A2 K.length c2]) (by repeat constructor)).pick (A := blkA g2 34 [.int .i64 s.active, .int .i64 s.previous, .int .i64 s.pending, .int .u64 s.at_, .int .i64 s.shadow, .pointer (some ⟨g, 0, none⟩), .int .i64 n, .int .u64 ((ofF K) 0), .int .u64 ((ofF K) 1), .int .u64 ((ofF K) 2), .int .u64 ((ofF K) 3), .int .u64 ((ofF K) 4), .int .u64 ((ofF K) 5), .int .u64 ((ofF K) 6)]) (by repeat constructor))⟩ (fun w hI => q_fieldAddr 0 Try.runUnderlying41 rfl Try.sizeOf35 (by decide) rfl rfl) ?_
 refine p_q hap hsel 3 rfl rfl ⟨_, ((hS.pick (A := blkA g3 41 [.int .i64 s.active, .int .i64 s.previous, .int .i64 s.pending, .int .u64 s.at_, .int .i64 s.shadow, .pointer (some ⟨q, 0, none⟩), .int .i64 n, .slice A2 K.length c2]) (by repeat constructor)).pick (A := blkA g2 34 [.int .i64 s.active, .int .i64 s.previous, .int .i64 s.pending, .int .u64 s.at_, .int .i64 s.shadow, .pointer (some ⟨g, 0, none⟩), .int .i64 n, .int .u64 ((ofF K) 0), .int .u64 ((ofF K) 1), .int .u64 ((ofF K) 2), .int .u64 ((ofF K) 3), .int .u64 ((ofF K) 4), .int .u64 ((ofF K) 5), .int .u64 ((ofF K) 6)]) (by repeat constructor))⟩ (fun w hI => (q_cast (v' := .agg s.cells.toArray) (q_load_sub Try.isAgg35 Try.sizeOf35 rfl (hI.choose_spec.blk (by repeat constructor)) (by show 0 + 0 + 5 ≤ 8; decide)) (by rfl))) ?_
 refine p_q hap hsel 4 rfl rfl ⟨_, ((hS.pick (A := blkA g3 41 [.int .i64 s.active, .int .i64 s.previous, .int .i64 s.pending, .int .u64 s.at_, .int .i64 s.shadow, .pointer (some ⟨q, 0, none⟩), .int .i64 n, .slice A2 K.length c2]) (by repeat constructor)).pick (A := blkA g2 34 [.int .i64 s.active, .int .i64 s.previous, .int .i64 s.pending, .int .u64 s.at_, .int .i64 s.shadow, .pointer (some ⟨g, 0, none⟩), .int .i64 n, .int .u64 ((ofF K) 0), .int .u64 ((ofF K) 1), .int .u64 ((ofF K) 2), .int .u64 ((ofF K) 3), .int .u64 ((ofF K) 4), .int .u64 ((ofF K) 5), .int .u64 ((ofF K) 6)]) (by repeat constructor))⟩ (fun w hI => q_cast (v' := .bool false) (q_neq_qsv (e := s) (q := s) rfl rfl hs.rg hs.rg) (by simp)) ?_
 refine p_q hap hsel 5 rfl rfl ⟨_, ((hS.pick (A := blkA g3 41 [.int .i64 s.active, .int .i64 s.previous, .int .i64 s.pending, .int .u64 s.at_, .int .i64 s.shadow, .pointer (some ⟨q, 0, none⟩), .int .i64 n, .slice A2 K.length c2]) (by repeat constructor)).pick (A := blkA g2 34 [.int .i64 s.active, .int .i64 s.previous, .int .i64 s.pending, .int .u64 s.at_, .int .i64 s.shadow, .pointer (some ⟨g, 0, none⟩), .int .i64 n, .int .u64 ((ofF K) 0), .int .u64 ((ofF K) 1), .int .u64 ((ofF K) 2), .int .u64 ((ofF K) 3), .int .u64 ((ofF K) 4), .int .u64 ((ofF K) 5), .int .u64 ((ofF K) 6)]) (by repeat constructor))⟩ (fun w hI => q_mv (.bool _) rfl) ?_
 refine p_yes hap hsel 6 rfl rfl ⟨_, ((hS.pick (A := blkA g3 41 [.int .i64 s.active, .int .i64 s.previous, .int .i64 s.pending, .int .u64 s.at_, .int .i64 s.shadow, .pointer (some ⟨q, 0, none⟩), .int .i64 n, .slice A2 K.length c2]) (by repeat constructor)).pick (A := blkA g2 34 [.int .i64 s.active, .int .i64 s.previous, .int .i64 s.pending, .int .u64 s.at_, .int .i64 s.shadow, .pointer (some ⟨g, 0, none⟩), .int .i64 n, .int .u64 ((ofF K) 0), .int .u64 ((ofF K) 1), .int .u64 ((ofF K) 2), .int .u64 ((ofF K) 3), .int .u64 ((ofF K) 4), .int .u64 ((ofF K) 5), .int .u64 ((ofF K) 6)]) (by repeat constructor))⟩ rfl rfl rfl (fun w hI => q_fieldAddr 6 Try.runUnderlying34 rfl Try.sizeOf32 (by decide) rfl rfl) ?_
 refine p_yes hap hsel 7 rfl rfl ⟨_, ((hS.pick (A := blkA g3 41 [.int .i64 s.active, .int .i64 s.previous, .int .i64 s.pending, .int .u64 s.at_, .int .i64 s.shadow, .pointer (some ⟨q, 0, none⟩), .int .i64 n, .slice A2 K.length c2]) (by repeat constructor)).pick (A := blkA g2 34 [.int .i64 s.active, .int .i64 s.previous, .int .i64 s.pending, .int .u64 s.at_, .int .i64 s.shadow, .pointer (some ⟨g, 0, none⟩), .int .i64 n, .int .u64 ((ofF K) 0), .int .u64 ((ofF K) 1), .int .u64 ((ofF K) 2), .int .u64 ((ofF K) 3), .int .u64 ((ofF K) 4), .int .u64 ((ofF K) 5), .int .u64 ((ofF K) 6)]) (by repeat constructor))⟩ rfl rfl rfl (fun w hI => (q_cast (v' := .agg (tcs n (ofF K)).toArray) (q_load_sub Try.isAgg32 Try.sizeOf32 rfl (hI.choose_spec.blk (by repeat constructor)) (by show 0 + 6 + 8 ≤ 14; decide)) (by rfl))) ?_
 refine p_yes hap hsel 9 rfl rfl ⟨_, ((hS.pick (A := blkA g3 41 [.int .i64 s.active, .int .i64 s.previous, .int .i64 s.pending, .int .u64 s.at_, .int .i64 s.shadow, .pointer (some ⟨q, 0, none⟩), .int .i64 n, .slice A2 K.length c2]) (by repeat constructor)).pick (A := blkA g2 34 [.int .i64 s.active, .int .i64 s.previous, .int .i64 s.pending, .int .u64 s.at_, .int .i64 s.shadow, .pointer (some ⟨g, 0, none⟩), .int .i64 n, .int .u64 ((ofF K) 0), .int .u64 ((ofF K) 1), .int .u64 ((ofF K) 2), .int .u64 ((ofF K) 3), .int .u64 ((ofF K) 4), .int .u64 ((ofF K) 5), .int .u64 ((ofF K) 6)]) (by repeat constructor))⟩ rfl rfl rfl (fun w hI => q_fieldAddr 6 Try.runUnderlying41 rfl Try.sizeOf39 (by decide) rfl rfl) ?_
 refine p_yes hap hsel 10 rfl rfl ⟨_, ((hS.pick (A := blkA g3 41 [.int .i64 s.active, .int .i64 s.previous, .int .i64 s.pending, .int .u64 s.at_, .int .i64 s.shadow, .pointer (some ⟨q, 0, none⟩), .int .i64 n, .slice A2 K.length c2]) (by repeat constructor)).pick (A := blkA g2 34 [.int .i64 s.active, .int .i64 s.previous, .int .i64 s.pending, .int .u64 s.at_, .int .i64 s.shadow, .pointer (some ⟨g, 0, none⟩), .int .i64 n, .int .u64 ((ofF K) 0), .int .u64 ((ofF K) 1), .int .u64 ((ofF K) 2), .int .u64 ((ofF K) 3), .int .u64 ((ofF K) 4), .int .u64 ((ofF K) 5), .int .u64 ((ofF K) 6)]) (by repeat constructor))⟩ rfl rfl rfl (fun w hI => q_fieldAddr 0 Try.runUnderlying39 rfl Try.sizeOf3 (by decide) rfl rfl) ?_
 refine p_yes hap hsel 11 rfl rfl ⟨_, ((hS.pick (A := blkA g3 41 [.int .i64 s.active, .int .i64 s.previous, .int .i64 s.pending, .int .u64 s.at_, .int .i64 s.shadow, .pointer (some ⟨q, 0, none⟩), .int .i64 n, .slice A2 K.length c2]) (by repeat constructor)).pick (A := blkA g2 34 [.int .i64 s.active, .int .i64 s.previous, .int .i64 s.pending, .int .u64 s.at_, .int .i64 s.shadow, .pointer (some ⟨g, 0, none⟩), .int .i64 n, .int .u64 ((ofF K) 0), .int .u64 ((ofF K) 1), .int .u64 ((ofF K) 2), .int .u64 ((ofF K) 3), .int .u64 ((ofF K) 4), .int .u64 ((ofF K) 5), .int .u64 ((ofF K) 6)]) (by repeat constructor))⟩ rfl rfl rfl (fun w hI => q_load1 Try.isAgg3 rfl (hI.choose_spec.cell (by repeat constructor) rfl)) ?_
 refine p_one 8 rfl (by kernel_rfl) ?_
 refine t_yes rfl rfl rfl ?_
 refine t_call Try.call111 (reps_calls (n := n) (s := (ofF K))) rfl ?_
 rintro e w ⟨rfl, hT⟩
 refine ⟨_, rfl, ?_⟩
 replace hS := hS.after hT
 refine t_nil ?_
 refine ⟨.inr ⟨_, ((hS.pick (A := blkA g3 41 [.int .i64 s.active, .int .i64 s.previous, .int .i64 s.pending, .int .u64 s.at_, .int .i64 s.shadow, .pointer (some ⟨q, 0, none⟩), .int .i64 n, .slice A2 K.length c2]) (by repeat constructor)).pick (A := blkA g2 34 [.int .i64 s.active, .int .i64 s.previous, .int .i64 s.pending, .int .u64 s.at_, .int .i64 s.shadow, .pointer (some ⟨g, 0, none⟩), .int .i64 n, .int .u64 ((ofF K) 0), .int .u64 ((ofF K) 1), .int .u64 ((ofF K) 2), .int .u64 ((ofF K) 3), .int .u64 ((ofF K) 4), .int .u64 ((ofF K) 5), .int .u64 ((ofF K) 6)]) (by repeat constructor))⟩, ?_⟩
 refine p_yes hap hsel 12 rfl rfl ⟨_, ((hS.pick (A := blkA g3 41 [.int .i64 s.active, .int .i64 s.previous, .int .i64 s.pending, .int .u64 s.at_, .int .i64 s.shadow, .pointer (some ⟨q, 0, none⟩), .int .i64 n, .slice A2 K.length c2]) (by repeat constructor)).pick (A := blkA g2 34 [.int .i64 s.active, .int .i64 s.previous, .int .i64 s.pending, .int .u64 s.at_, .int .i64 s.shadow, .pointer (some ⟨g, 0, none⟩), .int .i64 n, .int .u64 ((ofF K) 0), .int .u64 ((ofF K) 1), .int .u64 ((ofF K) 2), .int .u64 ((ofF K) 3), .int .u64 ((ofF K) 4), .int .u64 ((ofF K) 5), .int .u64 ((ofF K) 6)]) (by repeat constructor))⟩ rfl rfl rfl (fun w hI => (q_cast (v' := .bool false) (q_neq rfl rfl) (by simp))) ?_
 refine p_q hap hsel 13 rfl rfl ⟨_, ((hS.pick (A := blkA g3 41 [.int .i64 s.active, .int .i64 s.previous, .int .i64 s.pending, .int .u64 s.at_, .int .i64 s.shadow, .pointer (some ⟨q, 0, none⟩), .int .i64 n, .slice A2 K.length c2]) (by repeat constructor)).pick (A := blkA g2 34 [.int .i64 s.active, .int .i64 s.previous, .int .i64 s.pending, .int .u64 s.at_, .int .i64 s.shadow, .pointer (some ⟨g, 0, none⟩), .int .i64 n, .int .u64 ((ofF K) 0), .int .u64 ((ofF K) 1), .int .u64 ((ofF K) 2), .int .u64 ((ofF K) 3), .int .u64 ((ofF K) 4), .int .u64 ((ofF K) 5), .int .u64 ((ofF K) 6)]) (by repeat constructor))⟩ (fun w hI => q_pick_f rfl rfl) ?_
 refine p_end (by kernel_rfl) ?_
 refine c_cond_f rfl rfl ?_
 refine c_skip (c_seq (c_region ?_))
 refine t_q (q_fieldAddr 5 Try.runUnderlying34 rfl Try.sizeOf29 (by decide) rfl rfl) ?_
 refine t_q (q_load1 Try.isAgg29 rfl (hS.cell (by repeat constructor) rfl)) ?_
 refine t_call Try.call63 (rgver_calls (hS.pick (A := regA W g M ps) (by repeat constructor))) rfl ?_
 rintro e w ⟨A5, c5, rfl, hS⟩
 refine ⟨_, rfl, ?_⟩
 refine t_q (q_as (.slice _ _ _) rfl) ?_
 refine t_nil (c_seq (c_seq (c_region ?_)))
 refine t_q (q_mv (.slice _ _ _) rfl) ?_
 refine t_q (q_len_slice Try.runUnderlying59 rfl) ?_
 refine t_q (q_fieldAddr 5 Try.runUnderlying41 rfl Try.sizeOf36 (by decide) rfl rfl) ?_
 refine t_q (q_load1 Try.isAgg36 rfl (hS.cell (by repeat constructor) rfl)) ?_
 refine t_q (q_nilCheck rfl) ?_
 refine t_q (q_fieldAddr 0 Try.runUnderlying141 rfl Try.sizeOf139 (by decide) rfl rfl) ?_
 refine t_q (q_load1 Try.isAgg139 rfl (hS.cell (by repeat constructor) rfl)) ?_
 refine t_q (q_len_slice Try.runUnderlying139 rfl) ?_
 refine t_q (q_cast (v' := .bool false) (q_neq rfl rfl) (congrArg Value.bool (decide_eq_false (not_not_intro (by rw [hYM]))))) ?_
 refine t_nil ?_
 refine c_cond_f rfl rfl ?_
 refine c_skip (c_seq (c_seq (c_region ?_)))
 refine t_q (q_mv (.slice _ _ _) rfl) ?_
 refine t_q (q_len_slice Try.runUnderlying59 rfl) ?_
 refine t_q (q_move) ?_
 refine t_nil (c_block ?_)
 refine c_loop [4, 6, 7, 8, 9, 39, 40, 41, 42, 43, 44, 45, 46, 47, 48, 49, 50, 51, 52, 53, 54, 55, 56, 57, 58, 59, 60, 61, 62, 63, 64, 65, 66] (fun k σ w => ∃ j : Nat, σ 39 = .int .i64 (j : Int) ∧ j ≤ M.length ∧ M.length - j ≤ k ∧ St W w (blkA g2 34 [.int .i64 s.active, .int .i64 s.previous, .int .i64 s.pending, .int .u64 s.at_, .int .i64 s.shadow, .pointer (some ⟨g, 0, none⟩), .int .i64 n, .int .u64 ((ofF K) 0), .int .u64 ((ofF K) 1), .int .u64 ((ofF K) 2), .int .u64 ((ofF K) 3), .int .u64 ((ofF K) 4), .int .u64 ((ofF K) 5), .int .u64 ((ofF K) 6)] :: blkA g3 41 [.int .i64 s.active, .int .i64 s.previous, .int .i64 s.pending, .int .u64 s.at_, .int .i64 s.shadow, .pointer (some ⟨q, 0, none⟩), .int .i64 n, .slice A2 K.length c2] :: rowA 3 1 A5 M.length c5 ((M.map (·.version)).map (Value.int .i64)) :: regA W g M ps :: blkA q 141 [.slice A Y.length c1] :: rowA 47 9 A Y.length c1 (Y.flatMap RuV.cells) :: rowA 199 2 A2 K.length c2 (K.flatMap ackC) :: rdsA ps :: R)) (M.length) rfl (⟨0, rfl, by omega, by omega, ((((((((hS.pick (A := rdsA ps) (by repeat constructor)).pick (A := rowA 199 2 A2 K.length c2 (K.flatMap ackC)) (by repeat constructor)).pick (A := rowA 47 9 A Y.length c1 (Y.flatMap RuV.cells)) (by repeat constructor)).pick (A := blkA q 141 [.slice A Y.length c1]) (by repeat constructor)).pick (A := regA W g M ps) (by repeat constructor)).pick (A := rowA 3 1 A5 M.length c5 ((M.map (·.version)).map (Value.int .i64))) (by repeat constructor)).pick (A := blkA g3 41 [.int .i64 s.active, .int .i64 s.previous, .int .i64 s.pending, .int .u64 s.at_, .int .i64 s.shadow, .pointer (some ⟨q, 0, none⟩), .int .i64 n, .slice A2 K.length c2]) (by repeat constructor)).pick (A := blkA g2 34 [.int .i64 s.active, .int .i64 s.previous, .int .i64 s.pending, .int .u64 s.at_, .int .i64 s.shadow, .pointer (some ⟨g, 0, none⟩), .int .i64 n, .int .u64 ((ofF K) 0), .int .u64 ((ofF K) 1), .int .u64 ((ofF K) 2), .int .u64 ((ofF K) 3), .int .u64 ((ofF K) 4), .int .u64 ((ofF K) 5), .int .u64 ((ofF K) 6)]) (by repeat constructor))⟩) ?_
 skip
 rintro k σ w ⟨j, h39, hj, hk, hS⟩
 refine c_know 39 h39 ?_
 clear h39
 refine c_seq (c_region ?_)
 refine t_q (q_lss rfl rfl) ?_
 refine t_nil (c_seq ?_)
 refine c_cond rfl ?_ ?_
 ·
  intro hc6
  have hc6d := of_decide_eq_true hc6
  have hvj := ver_getD (M := M) (j := j) (by omega)
  have hMj : M.getD j default = nf (Y.getD j default) := by
    rw [← hM, List.getD_eq_getElem?_getD, List.getElem?_map, List.getD_eq_getElem?_getD, List.getElem?_eq_getElem (by omega)]
    rfl
  have hfs : rgF M ((M.map (·.version)).getD j 0) = some (nf (Y.getD j default)) := by rw [hvj, rgF_some hG.srt (getD_mem (by omega)), hMj]
  refine c_skip (c_seq (c_block (c_seq (c_region ?_))))
  refine t_q (q_mv (.int _ _) rfl) ?_
  first | refine t_index_nat Try.runUnderlying59 Try.sizeOf3 (rd_vers hS (by repeat constructor)) rfl rfl (by omega) (fun ad7 hl7 hx7 => ?_) | refine t_index Try.runUnderlying59 Try.sizeOf3 (rd_vers hS (by repeat constructor)) rfl rfl (by omega) (fun ad7 hl7 hx7 => ?_)
  refine t_q (q_load1 Try.isAgg3 rfl (hx7 0 _ rfl)) ?_
  refine t_q (q_as (.int _ _) rfl) ?_
  refine t_q (q_as (.int _ _) rfl) ?_
  refine t_nil (c_seq (c_region ?_))
  refine t_q (q_fieldAddr 5 Try.runUnderlying34 rfl Try.sizeOf29 (by decide) rfl rfl) ?_
  refine t_q (q_load1 Try.isAgg29 rfl (hS.cell (by repeat constructor) rfl)) ?_
  refine t_q (q_mv (.int _ _) rfl) ?_
  refine t_call Try.call59 (rgget_calls (v := ((M.map (·.version)).getD j 0)) ((hS.pick (A := rdsA ps) (by repeat constructor)).pick (A := regA W g M ps) (by repeat constructor))) rfl ?_
  rintro e w ⟨y, rfl, hny, hby, hS⟩
  refine ⟨_, rfl, ?_⟩
  rw [hfs] at hny
  rw [show (rgF M ((M.map (·.version)).getD j 0)).isSome = true from by rw [hfs]; rfl]
  refine t_q (q_mv (.tuple _) rfl) ?_
  refine t_q (q_extract rfl rfl) ?_
  refine t_q (q_extract rfl rfl) ?_
  refine t_alloc Try.zeroValue47 rfl hS (fun g8 w hS => ?_)
  refine t_store (v := (.agg _)) Try.sizeOf47 hS (by repeat constructor) rfl rfl rfl rfl rfl rfl (fun w hS => ?_)
  replace hS := hS.recast (congrArg (blkA g8 47) (rset_full (vs := y.cells) rfl))
  replace hS := hS.recast (show _ = blkA g8 47 [.int .i64 y.version, .slice y.ticks.A y.ticks.l.length y.ticks.c, .int .i64 y.lot, .int .i64 y.band, .slice y.fees.A y.fees.l.length y.fees.c, .int .i64 y.round, .int .i64 y.priority, .int .i64 y.self, .int .i64 y.layout] from rfl)
  refine t_q (q_as (.bool _) rfl) ?_
  refine t_nil (c_seq (c_draw ?_))
  refine d_keep4 (blkA g3 41 [.int .i64 s.active, .int .i64 s.previous, .int .i64 s.pending, .int .u64 s.at_, .int .i64 s.shadow, .pointer (some ⟨q, 0, none⟩), .int .i64 n, .slice A2 K.length c2]) (blkA q 141 [.slice A Y.length c1]) (rowA 47 9 A Y.length c1 (Y.flatMap RuV.cells)) (blkA g8 47 [.int .i64 y.version, .slice y.ticks.A y.ticks.l.length y.ticks.c, .int .i64 y.lot, .int .i64 y.band, .slice y.fees.A y.fees.l.length y.fees.c, .int .i64 y.round, .int .i64 y.priority, .int .i64 y.self, .int .i64 y.layout]) 15 [0, 1, 2, 3, 4, 5, 6, 7, 8, 9, 10, 11, 12, 13, 14] [0, 1, 2, 3, 4, 5, 6, 7, 8, 9, 10, 11, 12, 13, 14] hS rfl (by kernel_rfl) (by kernel_rfl) (by kernel_rfl) (by kernel_rfl) (fun hap hsel w hS => ?_)
  refine p_q hap hsel 0 rfl rfl ⟨_, ((((hS.pick (A := blkA g8 47 [.int .i64 y.version, .slice y.ticks.A y.ticks.l.length y.ticks.c, .int .i64 y.lot, .int .i64 y.band, .slice y.fees.A y.fees.l.length y.fees.c, .int .i64 y.round, .int .i64 y.priority, .int .i64 y.self, .int .i64 y.layout]) (by repeat constructor)).pick (A := rowA 47 9 A Y.length c1 (Y.flatMap RuV.cells)) (by repeat constructor)).pick (A := blkA q 141 [.slice A Y.length c1]) (by repeat constructor)).pick (A := blkA g3 41 [.int .i64 s.active, .int .i64 s.previous, .int .i64 s.pending, .int .u64 s.at_, .int .i64 s.shadow, .pointer (some ⟨q, 0, none⟩), .int .i64 n, .slice A2 K.length c2]) (by repeat constructor))⟩ (fun w hI => q_mv (.bool _) rfl) ?_
  refine p_q hap hsel 1 rfl rfl ⟨_, ((((hS.pick (A := blkA g8 47 [.int .i64 y.version, .slice y.ticks.A y.ticks.l.length y.ticks.c, .int .i64 y.lot, .int .i64 y.band, .slice y.fees.A y.fees.l.length y.fees.c, .int .i64 y.round, .int .i64 y.priority, .int .i64 y.self, .int .i64 y.layout]) (by repeat constructor)).pick (A := rowA 47 9 A Y.length c1 (Y.flatMap RuV.cells)) (by repeat constructor)).pick (A := blkA q 141 [.slice A Y.length c1]) (by repeat constructor)).pick (A := blkA g3 41 [.int .i64 s.active, .int .i64 s.previous, .int .i64 s.pending, .int .u64 s.at_, .int .i64 s.shadow, .pointer (some ⟨q, 0, none⟩), .int .i64 n, .slice A2 K.length c2]) (by repeat constructor))⟩ (fun w hI => (q_cast (v' := .bool false) (q_not rfl) (by rfl))) ?_
  refine p_q hap hsel 2 rfl rfl ⟨_, ((((hS.pick (A := blkA g8 47 [.int .i64 y.version, .slice y.ticks.A y.ticks.l.length y.ticks.c, .int .i64 y.lot, .int .i64 y.band, .slice y.fees.A y.fees.l.length y.fees.c, .int .i64 y.round, .int .i64 y.priority, .int .i64 y.self, .int .i64 y.layout]) (by repeat constructor)).pick (A := rowA 47 9 A Y.length c1 (Y.flatMap RuV.cells)) (by repeat constructor)).pick (A := blkA q 141 [.slice A Y.length c1]) (by repeat constructor)).pick (A := blkA g3 41 [.int .i64 s.active, .int .i64 s.previous, .int .i64 s.pending, .int .u64 s.at_, .int .i64 s.shadow, .pointer (some ⟨q, 0, none⟩), .int .i64 n, .slice A2 K.length c2]) (by repeat constructor))⟩ (fun w hI => q_mv (.bool _) rfl) ?_
  refine p_yes hap hsel 3 rfl rfl ⟨_, ((((hS.pick (A := blkA g8 47 [.int .i64 y.version, .slice y.ticks.A y.ticks.l.length y.ticks.c, .int .i64 y.lot, .int .i64 y.band, .slice y.fees.A y.fees.l.length y.fees.c, .int .i64 y.round, .int .i64 y.priority, .int .i64 y.self, .int .i64 y.layout]) (by repeat constructor)).pick (A := rowA 47 9 A Y.length c1 (Y.flatMap RuV.cells)) (by repeat constructor)).pick (A := blkA q 141 [.slice A Y.length c1]) (by repeat constructor)).pick (A := blkA g3 41 [.int .i64 s.active, .int .i64 s.previous, .int .i64 s.pending, .int .u64 s.at_, .int .i64 s.shadow, .pointer (some ⟨q, 0, none⟩), .int .i64 n, .slice A2 K.length c2]) (by repeat constructor))⟩ rfl rfl rfl (fun w hI => (q_cast (v' := .agg y.cells.toArray) (q_load_blk Try.isAgg47 Try.sizeOf47 rfl (hI.choose_spec.blk (by repeat constructor)) rfl) (by rfl))) ?_
  refine p_yes hap hsel 4 rfl rfl ⟨_, ((((hS.pick (A := blkA g8 47 [.int .i64 y.version, .slice y.ticks.A y.ticks.l.length y.ticks.c, .int .i64 y.lot, .int .i64 y.band, .slice y.fees.A y.fees.l.length y.fees.c, .int .i64 y.round, .int .i64 y.priority, .int .i64 y.self, .int .i64 y.layout]) (by repeat constructor)).pick (A := rowA 47 9 A Y.length c1 (Y.flatMap RuV.cells)) (by repeat constructor)).pick (A := blkA q 141 [.slice A Y.length c1]) (by repeat constructor)).pick (A := blkA g3 41 [.int .i64 s.active, .int .i64 s.previous, .int .i64 s.pending, .int .u64 s.at_, .int .i64 s.shadow, .pointer (some ⟨q, 0, none⟩), .int .i64 n, .slice A2 K.length c2]) (by repeat constructor))⟩ rfl rfl rfl (fun w hI => q_fieldAddr 5 Try.runUnderlying41 rfl Try.sizeOf36 (by decide) rfl rfl) ?_
  refine p_yes hap hsel 5 rfl rfl ⟨_, ((((hS.pick (A := blkA g8 47 [.int .i64 y.version, .slice y.ticks.A y.ticks.l.length y.ticks.c, .int .i64 y.lot, .int .i64 y.band, .slice y.fees.A y.fees.l.length y.fees.c, .int .i64 y.round, .int .i64 y.priority, .int .i64 y.self, .int .i64 y.layout]) (by repeat constructor)).pick (A := rowA 47 9 A Y.length c1 (Y.flatMap RuV.cells)) (by repeat constructor)).pick (A := blkA q 141 [.slice A Y.length c1]) (by repeat constructor)).pick (A := blkA g3 41 [.int .i64 s.active, .int .i64 s.previous, .int .i64 s.pending, .int .u64 s.at_, .int .i64 s.shadow, .pointer (some ⟨q, 0, none⟩), .int .i64 n, .slice A2 K.length c2]) (by repeat constructor))⟩ rfl rfl rfl (fun w hI => q_load1 Try.isAgg36 rfl (hI.choose_spec.cell (by repeat constructor) rfl)) ?_
  refine p_yes hap hsel 6 rfl rfl ⟨_, ((((hS.pick (A := blkA g8 47 [.int .i64 y.version, .slice y.ticks.A y.ticks.l.length y.ticks.c, .int .i64 y.lot, .int .i64 y.band, .slice y.fees.A y.fees.l.length y.fees.c, .int .i64 y.round, .int .i64 y.priority, .int .i64 y.self, .int .i64 y.layout]) (by repeat constructor)).pick (A := rowA 47 9 A Y.length c1 (Y.flatMap RuV.cells)) (by repeat constructor)).pick (A := blkA q 141 [.slice A Y.length c1]) (by repeat constructor)).pick (A := blkA g3 41 [.int .i64 s.active, .int .i64 s.previous, .int .i64 s.pending, .int .u64 s.at_, .int .i64 s.shadow, .pointer (some ⟨q, 0, none⟩), .int .i64 n, .slice A2 K.length c2]) (by repeat constructor))⟩ rfl rfl rfl (fun w hI => q_nilCheck rfl) ?_
  refine p_yes hap hsel 7 rfl rfl ⟨_, ((((hS.pick (A := blkA g8 47 [.int .i64 y.version, .slice y.ticks.A y.ticks.l.length y.ticks.c, .int .i64 y.lot, .int .i64 y.band, .slice y.fees.A y.fees.l.length y.fees.c, .int .i64 y.round, .int .i64 y.priority, .int .i64 y.self, .int .i64 y.layout]) (by repeat constructor)).pick (A := rowA 47 9 A Y.length c1 (Y.flatMap RuV.cells)) (by repeat constructor)).pick (A := blkA q 141 [.slice A Y.length c1]) (by repeat constructor)).pick (A := blkA g3 41 [.int .i64 s.active, .int .i64 s.previous, .int .i64 s.pending, .int .u64 s.at_, .int .i64 s.shadow, .pointer (some ⟨q, 0, none⟩), .int .i64 n, .slice A2 K.length c2]) (by repeat constructor))⟩ rfl rfl rfl (fun w hI => q_fieldAddr 0 Try.runUnderlying141 rfl Try.sizeOf139 (by decide) rfl rfl) ?_
  refine p_yes hap hsel 8 rfl rfl ⟨_, ((((hS.pick (A := blkA g8 47 [.int .i64 y.version, .slice y.ticks.A y.ticks.l.length y.ticks.c, .int .i64 y.lot, .int .i64 y.band, .slice y.fees.A y.fees.l.length y.fees.c, .int .i64 y.round, .int .i64 y.priority, .int .i64 y.self, .int .i64 y.layout]) (by repeat constructor)).pick (A := rowA 47 9 A Y.length c1 (Y.flatMap RuV.cells)) (by repeat constructor)).pick (A := blkA q 141 [.slice A Y.length c1]) (by repeat constructor)).pick (A := blkA g3 41 [.int .i64 s.active, .int .i64 s.previous, .int .i64 s.pending, .int .u64 s.at_, .int .i64 s.shadow, .pointer (some ⟨q, 0, none⟩), .int .i64 n, .slice A2 K.length c2]) (by repeat constructor))⟩ rfl rfl rfl (fun w hI => q_load1 Try.isAgg139 rfl (hI.choose_spec.cell (by repeat constructor) rfl)) ?_
  refine p_yes hap hsel 9 rfl rfl ⟨_, ((((hS.pick (A := blkA g8 47 [.int .i64 y.version, .slice y.ticks.A y.ticks.l.length y.ticks.c, .int .i64 y.lot, .int .i64 y.band, .slice y.fees.A y.fees.l.length y.fees.c, .int .i64 y.round, .int .i64 y.priority, .int .i64 y.self, .int .i64 y.layout]) (by repeat constructor)).pick (A := rowA 47 9 A Y.length c1 (Y.flatMap RuV.cells)) (by repeat constructor)).pick (A := blkA q 141 [.slice A Y.length c1]) (by repeat constructor)).pick (A := blkA g3 41 [.int .i64 s.active, .int .i64 s.previous, .int .i64 s.pending, .int .u64 s.at_, .int .i64 s.shadow, .pointer (some ⟨q, 0, none⟩), .int .i64 n, .slice A2 K.length c2]) (by repeat constructor))⟩ rfl rfl rfl (fun w hI => q_mv (.int _ _) rfl) ?_
  refine p_index_yes hap hsel 10 rfl rfl ⟨_, ((((hS.pick (A := blkA g8 47 [.int .i64 y.version, .slice y.ticks.A y.ticks.l.length y.ticks.c, .int .i64 y.lot, .int .i64 y.band, .slice y.fees.A y.fees.l.length y.fees.c, .int .i64 y.round, .int .i64 y.priority, .int .i64 y.self, .int .i64 y.layout]) (by repeat constructor)).pick (A := rowA 47 9 A Y.length c1 (Y.flatMap RuV.cells)) (by repeat constructor)).pick (A := blkA q 141 [.slice A Y.length c1]) (by repeat constructor)).pick (A := blkA g3 41 [.int .i64 s.active, .int .i64 s.previous, .int .i64 s.pending, .int .u64 s.at_, .int .i64 s.shadow, .pointer (some ⟨q, 0, none⟩), .int .i64 n, .slice A2 K.length c2]) (by repeat constructor))⟩ rfl rfl rfl Try.runUnderlying139 Try.sizeOf47 (fun w hI => hI.choose_spec.rowRdL (l := Y) (A := A) (c := c1) (by repeat constructor) rfl (fun _ => rfl)) rfl rfl (by omega) (fun ad11 hl11 hx11 => ?_)
  refine p_yes hap hsel 11 rfl rfl ⟨_, ((((hS.pick (A := blkA g8 47 [.int .i64 y.version, .slice y.ticks.A y.ticks.l.length y.ticks.c, .int .i64 y.lot, .int .i64 y.band, .slice y.fees.A y.fees.l.length y.fees.c, .int .i64 y.round, .int .i64 y.priority, .int .i64 y.self, .int .i64 y.layout]) (by repeat constructor)).pick (A := rowA 47 9 A Y.length c1 (Y.flatMap RuV.cells)) (by repeat constructor)).pick (A := blkA q 141 [.slice A Y.length c1]) (by repeat constructor)).pick (A := blkA g3 41 [.int .i64 s.active, .int .i64 s.previous, .int .i64 s.pending, .int .u64 s.at_, .int .i64 s.shadow, .pointer (some ⟨q, 0, none⟩), .int .i64 n, .slice A2 K.length c2]) (by repeat constructor))⟩ rfl rfl rfl (fun w hI => (q_cast (v' := .agg (Y.getD j default).cells.toArray) (q_loadN Try.isAgg47 Try.sizeOf47 rfl hl11 (hx11 w hI)) (by rfl))) ?_
  refine p_one 12 rfl (by kernel_rfl) ?_
  refine t_yes rfl rfl rfl ?_
  refine t_call Try.call61 (qrsame_calls (x := y) (y := (Y.getD j default)) (hby.gd hS (by repeat constructor)) (hY _ ((((((((((hS.pick (A := rowA 3 1 A5 M.length c5 ((M.map (·.version)).map (Value.int .i64))) (by repeat constructor)).drop.pick (A := rdsA (ruP y)) (by repeat constructor)).drop.pick (A := blkA g8 47 _) (by repeat constructor)).drop.pick (A := regA W g M ps) (by repeat constructor)).drop.pick (A := blkA q 141 [.slice A Y.length c1]) (by repeat constructor)).drop.pick (A := rowA 47 9 A Y.length c1 (Y.flatMap RuV.cells)) (by repeat constructor)).drop.pick (A := rowA 199 2 A2 K.length c2 (K.flatMap ackC)) (by repeat constructor)).drop.pick (A := blkA g2 34 [.int .i64 s.active, .int .i64 s.previous, .int .i64 s.pending, .int .u64 s.at_, .int .i64 s.shadow, .pointer (some ⟨g, 0, none⟩), .int .i64 n, .int .u64 ((ofF K) 0), .int .u64 ((ofF K) 1), .int .u64 ((ofF K) 2), .int .u64 ((ofF K) 3), .int .u64 ((ofF K) 4), .int .u64 ((ofF K) 5), .int .u64 ((ofF K) 6)]) (by repeat constructor)).drop.pick (A := blkA g3 41 [.int .i64 s.active, .int .i64 s.previous, .int .i64 s.pending, .int .u64 s.at_, .int .i64 s.shadow, .pointer (some ⟨q, 0, none⟩), .int .i64 n, .slice A2 K.length c2]) (by repeat constructor)).drop.pick (A := rdsA ps) (by repeat constructor)) _ (getD_mem (by omega)))) rfl ?_
  rintro e w ⟨rfl, hT⟩
  refine ⟨_, rfl, ?_⟩
  replace hS := hS.after hT
  rw [show decide (y.vw = (Y.getD j default).vw) = true from decide_eq_true (nf_vw (hny.trans rfl))]
  refine t_nil ?_
  refine ⟨.inr ⟨_, ((((hS.pick (A := blkA g8 47 [.int .i64 y.version, .slice y.ticks.A y.ticks.l.length y.ticks.c, .int .i64 y.lot, .int .i64 y.band, .slice y.fees.A y.fees.l.length y.fees.c, .int .i64 y.round, .int .i64 y.priority, .int .i64 y.self, .int .i64 y.layout]) (by repeat constructor)).pick (A := rowA 47 9 A Y.length c1 (Y.flatMap RuV.cells)) (by repeat constructor)).pick (A := blkA q 141 [.slice A Y.length c1]) (by repeat constructor)).pick (A := blkA g3 41 [.int .i64 s.active, .int .i64 s.previous, .int .i64 s.pending, .int .u64 s.at_, .int .i64 s.shadow, .pointer (some ⟨q, 0, none⟩), .int .i64 n, .slice A2 K.length c2]) (by repeat constructor))⟩, ?_⟩
  refine p_yes hap hsel 13 rfl rfl ⟨_, ((((hS.pick (A := blkA g8 47 [.int .i64 y.version, .slice y.ticks.A y.ticks.l.length y.ticks.c, .int .i64 y.lot, .int .i64 y.band, .slice y.fees.A y.fees.l.length y.fees.c, .int .i64 y.round, .int .i64 y.priority, .int .i64 y.self, .int .i64 y.layout]) (by repeat constructor)).pick (A := rowA 47 9 A Y.length c1 (Y.flatMap RuV.cells)) (by repeat constructor)).pick (A := blkA q 141 [.slice A Y.length c1]) (by repeat constructor)).pick (A := blkA g3 41 [.int .i64 s.active, .int .i64 s.previous, .int .i64 s.pending, .int .u64 s.at_, .int .i64 s.shadow, .pointer (some ⟨q, 0, none⟩), .int .i64 n, .slice A2 K.length c2]) (by repeat constructor))⟩ rfl rfl rfl (fun w hI => (q_cast (v' := .bool false) (q_not rfl) (by rfl))) ?_
  refine p_q hap hsel 14 rfl rfl ⟨_, ((((hS.pick (A := blkA g8 47 [.int .i64 y.version, .slice y.ticks.A y.ticks.l.length y.ticks.c, .int .i64 y.lot, .int .i64 y.band, .slice y.fees.A y.fees.l.length y.fees.c, .int .i64 y.round, .int .i64 y.priority, .int .i64 y.self, .int .i64 y.layout]) (by repeat constructor)).pick (A := rowA 47 9 A Y.length c1 (Y.flatMap RuV.cells)) (by repeat constructor)).pick (A := blkA q 141 [.slice A Y.length c1]) (by repeat constructor)).pick (A := blkA g3 41 [.int .i64 s.active, .int .i64 s.previous, .int .i64 s.pending, .int .u64 s.at_, .int .i64 s.shadow, .pointer (some ⟨q, 0, none⟩), .int .i64 n, .slice A2 K.length c2]) (by repeat constructor))⟩ (fun w hI => q_pick_f rfl rfl) ?_
  refine p_end (by kernel_rfl) ?_
  refine c_cond_f rfl rfl ?_
  refine c_skip (c_region ?_)
  refine t_q (q_add_i64 rfl rfl (by omega)) ?_
  refine t_q (q_mv (.int _ _) rfl) ?_
  refine t_nil ?_
  exact ⟨k - 1, by omega, j + 1, rfl, by omega, by omega, ((((((((((hS.pick (A := rdsA (ruP y)) (by repeat constructor)).drop.pick (A := blkA g8 47 _) (by repeat constructor)).drop.pick (A := rdsA ps) (by repeat constructor)).pick (A := rowA 199 2 A2 K.length c2 (K.flatMap ackC)) (by repeat constructor)).pick (A := rowA 47 9 A Y.length c1 (Y.flatMap RuV.cells)) (by repeat constructor)).pick (A := blkA q 141 [.slice A Y.length c1]) (by repeat constructor)).pick (A := regA W g M ps) (by repeat constructor)).pick (A := rowA 3 1 A5 M.length c5 ((M.map (·.version)).map (Value.int .i64))) (by repeat constructor)).pick (A := blkA g3 41 [.int .i64 s.active, .int .i64 s.previous, .int .i64 s.pending, .int .u64 s.at_, .int .i64 s.shadow, .pointer (some ⟨q, 0, none⟩), .int .i64 n, .slice A2 K.length c2]) (by repeat constructor)).pick (A := blkA g2 34 [.int .i64 s.active, .int .i64 s.previous, .int .i64 s.pending, .int .u64 s.at_, .int .i64 s.shadow, .pointer (some ⟨g, 0, none⟩), .int .i64 n, .int .u64 ((ofF K) 0), .int .u64 ((ofF K) 1), .int .u64 ((ofF K) 2), .int .u64 ((ofF K) 3), .int .u64 ((ofF K) 4), .int .u64 ((ofF K) 5), .int .u64 ((ofF K) 6)]) (by repeat constructor))⟩
 ·
  intro hc6
  have hc6d := of_decide_eq_false hc6
  refine c_exit ?_
  refine ite_t rfl ?_
  refine c_seq (c_seq (c_region ?_))
  refine t_q (q_move) ?_
  refine t_nil (c_block ?_)
  refine c_loop [4, 10, 67, 68, 69, 70, 71, 72, 73, 74, 75, 76, 77, 78, 79] (fun k σ w => ∃ j : Nat, σ 67 = .int .i64 (j : Int) ∧ j ≤ 7 ∧ 7 - j ≤ k ∧ St W w (blkA g2 34 [.int .i64 s.active, .int .i64 s.previous, .int .i64 s.pending, .int .u64 s.at_, .int .i64 s.shadow, .pointer (some ⟨g, 0, none⟩), .int .i64 n, .int .u64 ((ofF K) 0), .int .u64 ((ofF K) 1), .int .u64 ((ofF K) 2), .int .u64 ((ofF K) 3), .int .u64 ((ofF K) 4), .int .u64 ((ofF K) 5), .int .u64 ((ofF K) 6)] :: blkA g3 41 [.int .i64 s.active, .int .i64 s.previous, .int .i64 s.pending, .int .u64 s.at_, .int .i64 s.shadow, .pointer (some ⟨q, 0, none⟩), .int .i64 n, .slice A2 K.length c2] :: regA W g M ps :: blkA q 141 [.slice A Y.length c1] :: rowA 47 9 A Y.length c1 (Y.flatMap RuV.cells) :: rowA 199 2 A2 K.length c2 (K.flatMap ackC) :: rdsA ps :: R)) (7) rfl (⟨0, rfl, by omega, by omega, ((((((((hS.pick (A := rowA 3 1 A5 M.length c5 ((M.map (·.version)).map (Value.int .i64))) (by repeat constructor)).drop.pick (A := rdsA ps) (by repeat constructor)).pick (A := rowA 199 2 A2 K.length c2 (K.flatMap ackC)) (by repeat constructor)).pick (A := rowA 47 9 A Y.length c1 (Y.flatMap RuV.cells)) (by repeat constructor)).pick (A := blkA q 141 [.slice A Y.length c1]) (by repeat constructor)).pick (A := regA W g M ps) (by repeat constructor)).pick (A := blkA g3 41 [.int .i64 s.active, .int .i64 s.previous, .int .i64 s.pending, .int .u64 s.at_, .int .i64 s.shadow, .pointer (some ⟨q, 0, none⟩), .int .i64 n, .slice A2 K.length c2]) (by repeat constructor)).pick (A := blkA g2 34 [.int .i64 s.active, .int .i64 s.previous, .int .i64 s.pending, .int .u64 s.at_, .int .i64 s.shadow, .pointer (some ⟨g, 0, none⟩), .int .i64 n, .int .u64 ((ofF K) 0), .int .u64 ((ofF K) 1), .int .u64 ((ofF K) 2), .int .u64 ((ofF K) 3), .int .u64 ((ofF K) 4), .int .u64 ((ofF K) 5), .int .u64 ((ofF K) 6)]) (by repeat constructor))⟩) ?_
  skip
  rintro k σ w ⟨j, h67, hj, hk, hS⟩
  refine c_know 67 h67 ?_
  clear h67
  refine c_seq (c_region ?_)
  refine t_q (q_lss rfl rfl) ?_
  refine t_nil (c_seq ?_)
  refine c_cond rfl ?_ ?_
  ·
   intro hc14
   have hc14d := of_decide_eq_true hc14
   refine c_skip (c_seq (c_block (c_seq (c_region ?_))))
   refine t_q (q_mv (.int _ _) rfl) ?_
   refine t_q (q_as (.int _ _) rfl) ?_
   refine t_nil (c_seq (c_draw ?_))
   refine d_keep2 (blkA g2 34 [.int .i64 s.active, .int .i64 s.previous, .int .i64 s.pending, .int .u64 s.at_, .int .i64 s.shadow, .pointer (some ⟨g, 0, none⟩), .int .i64 n, .int .u64 ((ofF K) 0), .int .u64 ((ofF K) 1), .int .u64 ((ofF K) 2), .int .u64 ((ofF K) 3), .int .u64 ((ofF K) 4), .int .u64 ((ofF K) 5), .int .u64 ((ofF K) 6)]) (blkA g3 41 [.int .i64 s.active, .int .i64 s.previous, .int .i64 s.pending, .int .u64 s.at_, .int .i64 s.shadow, .pointer (some ⟨q, 0, none⟩), .int .i64 n, .slice A2 K.length c2]) 9 [0, 1, 2, 3, 4, 5, 6, 7, 8] [0, 1, 2, 3, 4, 5, 6, 7, 8] hS rfl (by kernel_rfl) (by kernel_rfl) (by kernel_rfl) (by kernel_rfl) (fun hap hsel w hS => ?_)
   refine p_q hap hsel 0 rfl rfl ⟨_, ((hS.pick (A := blkA g3 41 [.int .i64 s.active, .int .i64 s.previous, .int .i64 s.pending, .int .u64 s.at_, .int .i64 s.shadow, .pointer (some ⟨q, 0, none⟩), .int .i64 n, .slice A2 K.length c2]) (by repeat constructor)).pick (A := blkA g2 34 [.int .i64 s.active, .int .i64 s.previous, .int .i64 s.pending, .int .u64 s.at_, .int .i64 s.shadow, .pointer (some ⟨g, 0, none⟩), .int .i64 n, .int .u64 ((ofF K) 0), .int .u64 ((ofF K) 1), .int .u64 ((ofF K) 2), .int .u64 ((ofF K) 3), .int .u64 ((ofF K) 4), .int .u64 ((ofF K) 5), .int .u64 ((ofF K) 6)]) (by repeat constructor))⟩ (fun w hI => q_fieldAddr 6 Try.runUnderlying34 rfl Try.sizeOf32 (by decide) rfl rfl) ?_
   refine p_q hap hsel 1 rfl rfl ⟨_, ((hS.pick (A := blkA g3 41 [.int .i64 s.active, .int .i64 s.previous, .int .i64 s.pending, .int .u64 s.at_, .int .i64 s.shadow, .pointer (some ⟨q, 0, none⟩), .int .i64 n, .slice A2 K.length c2]) (by repeat constructor)).pick (A := blkA g2 34 [.int .i64 s.active, .int .i64 s.previous, .int .i64 s.pending, .int .u64 s.at_, .int .i64 s.shadow, .pointer (some ⟨g, 0, none⟩), .int .i64 n, .int .u64 ((ofF K) 0), .int .u64 ((ofF K) 1), .int .u64 ((ofF K) 2), .int .u64 ((ofF K) 3), .int .u64 ((ofF K) 4), .int .u64 ((ofF K) 5), .int .u64 ((ofF K) 6)]) (by repeat constructor))⟩ (fun w hI => (q_cast (v' := .agg (tcs n (ofF K)).toArray) (q_load_sub Try.isAgg32 Try.sizeOf32 rfl (hI.choose_spec.blk (by repeat constructor)) (by show 0 + 6 + 8 ≤ 14; decide)) (by rfl))) ?_
   refine p_q hap hsel 2 rfl rfl ⟨_, ((hS.pick (A := blkA g3 41 [.int .i64 s.active, .int .i64 s.previous, .int .i64 s.pending, .int .u64 s.at_, .int .i64 s.shadow, .pointer (some ⟨q, 0, none⟩), .int .i64 n, .slice A2 K.length c2]) (by repeat constructor)).pick (A := blkA g2 34 [.int .i64 s.active, .int .i64 s.previous, .int .i64 s.pending, .int .u64 s.at_, .int .i64 s.shadow, .pointer (some ⟨g, 0, none⟩), .int .i64 n, .int .u64 ((ofF K) 0), .int .u64 ((ofF K) 1), .int .u64 ((ofF K) 2), .int .u64 ((ofF K) 3), .int .u64 ((ofF K) 4), .int .u64 ((ofF K) 5), .int .u64 ((ofF K) 6)]) (by repeat constructor))⟩ (fun w hI => q_mv (.int _ _) rfl) ?_
   refine p_q hap hsel 4 rfl rfl ⟨_, ((hS.pick (A := blkA g3 41 [.int .i64 s.active, .int .i64 s.previous, .int .i64 s.pending, .int .u64 s.at_, .int .i64 s.shadow, .pointer (some ⟨q, 0, none⟩), .int .i64 n, .slice A2 K.length c2]) (by repeat constructor)).pick (A := blkA g2 34 [.int .i64 s.active, .int .i64 s.previous, .int .i64 s.pending, .int .u64 s.at_, .int .i64 s.shadow, .pointer (some ⟨g, 0, none⟩), .int .i64 n, .int .u64 ((ofF K) 0), .int .u64 ((ofF K) 1), .int .u64 ((ofF K) 2), .int .u64 ((ofF K) 3), .int .u64 ((ofF K) 4), .int .u64 ((ofF K) 5), .int .u64 ((ofF K) 6)]) (by repeat constructor))⟩ (fun w hI => q_fieldAddr 6 Try.runUnderlying41 rfl Try.sizeOf39 (by decide) rfl rfl) ?_
   refine p_q hap hsel 5 rfl rfl ⟨_, ((hS.pick (A := blkA g3 41 [.int .i64 s.active, .int .i64 s.previous, .int .i64 s.pending, .int .u64 s.at_, .int .i64 s.shadow, .pointer (some ⟨q, 0, none⟩), .int .i64 n, .slice A2 K.length c2]) (by repeat constructor)).pick (A := blkA g2 34 [.int .i64 s.active, .int .i64 s.previous, .int .i64 s.pending, .int .u64 s.at_, .int .i64 s.shadow, .pointer (some ⟨g, 0, none⟩), .int .i64 n, .int .u64 ((ofF K) 0), .int .u64 ((ofF K) 1), .int .u64 ((ofF K) 2), .int .u64 ((ofF K) 3), .int .u64 ((ofF K) 4), .int .u64 ((ofF K) 5), .int .u64 ((ofF K) 6)]) (by repeat constructor))⟩ (fun w hI => (q_cast (v' := .agg #[.int .i64 n, .slice A2 K.length c2]) (q_load_sub Try.isAgg39 Try.sizeOf39 rfl (hI.choose_spec.blk (by repeat constructor)) (by show 0 + 6 + 2 ≤ 8; decide)) (by rfl))) ?_
   refine p_q hap hsel 6 rfl rfl ⟨_, ((hS.pick (A := blkA g3 41 [.int .i64 s.active, .int .i64 s.previous, .int .i64 s.pending, .int .u64 s.at_, .int .i64 s.shadow, .pointer (some ⟨q, 0, none⟩), .int .i64 n, .slice A2 K.length c2]) (by repeat constructor)).pick (A := blkA g2 34 [.int .i64 s.active, .int .i64 s.previous, .int .i64 s.pending, .int .u64 s.at_, .int .i64 s.shadow, .pointer (some ⟨g, 0, none⟩), .int .i64 n, .int .u64 ((ofF K) 0), .int .u64 ((ofF K) 1), .int .u64 ((ofF K) 2), .int .u64 ((ofF K) 3), .int .u64 ((ofF K) 4), .int .u64 ((ofF K) 5), .int .u64 ((ofF K) 6)]) (by repeat constructor))⟩ (fun w hI => q_mv (.int _ _) rfl) ?_
   refine p_one 3 rfl (by kernel_rfl) ?_
   refine t_call Try.call112 (of_calls (n := n) (r := (j : Int)) (s := (ofF K)) hn.2) rfl ?_
   rintro e w ⟨rfl, hT⟩
   refine ⟨_, rfl, ?_⟩
   replace hS := hS.after hT
   refine t_nil ?_
   refine ⟨.inr ⟨_, ((hS.pick (A := blkA g3 41 [.int .i64 s.active, .int .i64 s.previous, .int .i64 s.pending, .int .u64 s.at_, .int .i64 s.shadow, .pointer (some ⟨q, 0, none⟩), .int .i64 n, .slice A2 K.length c2]) (by repeat constructor)).pick (A := blkA g2 34 [.int .i64 s.active, .int .i64 s.previous, .int .i64 s.pending, .int .u64 s.at_, .int .i64 s.shadow, .pointer (some ⟨g, 0, none⟩), .int .i64 n, .int .u64 ((ofF K) 0), .int .u64 ((ofF K) 1), .int .u64 ((ofF K) 2), .int .u64 ((ofF K) 3), .int .u64 ((ofF K) 4), .int .u64 ((ofF K) 5), .int .u64 ((ofF K) 6)]) (by repeat constructor))⟩, ?_⟩
   refine p_one 7 rfl (by kernel_rfl) ?_
   refine t_call Try.call113 (of2_calls (n := n) (r := (j : Int)) (rowRdA hS (by repeat constructor) rfl) (by omega)) rfl ?_
   rintro e w ⟨rfl, hT⟩
   refine ⟨_, rfl, ?_⟩
   replace hS := hS.after hT
   refine t_nil ?_
   refine ⟨.inr ⟨_, ((hS.pick (A := blkA g3 41 [.int .i64 s.active, .int .i64 s.previous, .int .i64 s.pending, .int .u64 s.at_, .int .i64 s.shadow, .pointer (some ⟨q, 0, none⟩), .int .i64 n, .slice A2 K.length c2]) (by repeat constructor)).pick (A := blkA g2 34 [.int .i64 s.active, .int .i64 s.previous, .int .i64 s.pending, .int .u64 s.at_, .int .i64 s.shadow, .pointer (some ⟨g, 0, none⟩), .int .i64 n, .int .u64 ((ofF K) 0), .int .u64 ((ofF K) 1), .int .u64 ((ofF K) 2), .int .u64 ((ofF K) 3), .int .u64 ((ofF K) 4), .int .u64 ((ofF K) 5), .int .u64 ((ofF K) 6)]) (by repeat constructor))⟩, ?_⟩
   refine p_q hap hsel 8 rfl rfl ⟨_, ((hS.pick (A := blkA g3 41 [.int .i64 s.active, .int .i64 s.previous, .int .i64 s.pending, .int .u64 s.at_, .int .i64 s.shadow, .pointer (some ⟨q, 0, none⟩), .int .i64 n, .slice A2 K.length c2]) (by repeat constructor)).pick (A := blkA g2 34 [.int .i64 s.active, .int .i64 s.previous, .int .i64 s.pending, .int .u64 s.at_, .int .i64 s.shadow, .pointer (some ⟨g, 0, none⟩), .int .i64 n, .int .u64 ((ofF K) 0), .int .u64 ((ofF K) 1), .int .u64 ((ofF K) 2), .int .u64 ((ofF K) 3), .int .u64 ((ofF K) 4), .int .u64 ((ofF K) 5), .int .u64 ((ofF K) 6)]) (by repeat constructor))⟩ (fun w hI => (q_cast (v' := .bool false) (q_neq rfl rfl) (by rw [like_of hok]; simp))) ?_
   refine p_end (by kernel_rfl) ?_
   refine c_cond_f rfl rfl ?_
   refine c_skip (c_region ?_)
   refine t_q (q_add_i64 rfl rfl (by omega)) ?_
   refine t_q (q_mv (.int _ _) rfl) ?_
   refine t_nil ?_
   exact ⟨k - 1, by omega, j + 1, rfl, by omega, by omega, (((((((hS.pick (A := rdsA ps) (by repeat constructor)).pick (A := rowA 199 2 A2 K.length c2 (K.flatMap ackC)) (by repeat constructor)).pick (A := rowA 47 9 A Y.length c1 (Y.flatMap RuV.cells)) (by repeat constructor)).pick (A := blkA q 141 [.slice A Y.length c1]) (by repeat constructor)).pick (A := regA W g M ps) (by repeat constructor)).pick (A := blkA g3 41 [.int .i64 s.active, .int .i64 s.previous, .int .i64 s.pending, .int .u64 s.at_, .int .i64 s.shadow, .pointer (some ⟨q, 0, none⟩), .int .i64 n, .slice A2 K.length c2]) (by repeat constructor)).pick (A := blkA g2 34 [.int .i64 s.active, .int .i64 s.previous, .int .i64 s.pending, .int .u64 s.at_, .int .i64 s.shadow, .pointer (some ⟨g, 0, none⟩), .int .i64 n, .int .u64 ((ofF K) 0), .int .u64 ((ofF K) 1), .int .u64 ((ofF K) 2), .int .u64 ((ofF K) 3), .int .u64 ((ofF K) 4), .int .u64 ((ofF K) 5), .int .u64 ((ofF K) 6)]) (by repeat constructor))⟩
  ·
   intro hc14
   have hc14d := of_decide_eq_false hc14
   refine c_exit ?_
   refine ite_t rfl ?_
   refine c_seq (c_region ?_)
   refine t_q (q_assign) ?_
   refine t_nil (c_ret ?_)
   refine r_one rfl rfl ?_
   exact ⟨rfl, (((((((hS.pick (A := blkA g2 34 [.int .i64 s.active, .int .i64 s.previous, .int .i64 s.pending, .int .u64 s.at_, .int .i64 s.shadow, .pointer (some ⟨g, 0, none⟩), .int .i64 n, .int .u64 ((ofF K) 0), .int .u64 ((ofF K) 1), .int .u64 ((ofF K) 2), .int .u64 ((ofF K) 3), .int .u64 ((ofF K) 4), .int .u64 ((ofF K) 5), .int .u64 ((ofF K) 6)]) (by repeat constructor)).drop.pick (A := blkA g3 41 [.int .i64 s.active, .int .i64 s.previous, .int .i64 s.pending, .int .u64 s.at_, .int .i64 s.shadow, .pointer (some ⟨q, 0, none⟩), .int .i64 n, .slice A2 K.length c2]) (by repeat constructor)).drop.pick (A := rdsA ps) (by repeat constructor)).pick (A := rowA 199 2 A2 K.length c2 (K.flatMap ackC)) (by repeat constructor)).pick (A := rowA 47 9 A Y.length c1 (Y.flatMap RuV.cells)) (by repeat constructor)).pick (A := blkA q 141 [.slice A Y.length c1]) (by repeat constructor)).pick (A := regA W g M ps) (by repeat constructor))⟩
set_option maxHeartbeats 8000000 in
set_option maxRecDepth 100000 in
theorem VersionPlays_calls {m : Int} {A0 : Option Addr} {c0 : Nat} {l : List CmdV} (hl : Rd W 22 A0 l.length (fun i => (l.getD i default).cells)) (hm : l.length ≤ 9223372036854775807) (hok : ∀ o ∈ l, o.Ok W) : Calls Try.prog 14 #[.int .i64 m, .slice A0 l.length c0] W fun e w' => e = .returned (.bool true) ∧ St W w' [] := by
 have hS := St.init W
 obtain ⟨n, hn0⟩ : ∃ n : Int, n = 1 + (m % 18446744073709551616) % 4 := ⟨_, rfl⟩
 have hn : 1 ≤ n ∧ n ≤ 4 := by omega
 refine calls_of_wpE (args := [_, _]) Try.func14 rfl rfl rfl ?_
 refine c_seq (c_region ?_)
 refine t_q (q_assign) ?_
 refine t_nil (c_seq (c_seq (c_region ?_)))
 refine t_q (q_mv (.slice _ _ _) rfl) ?_
 refine t_call Try.call15 (vlight_calls (Rd.st hl hS) hm) rfl ?_
 rintro e w ⟨rfl, hT⟩
 refine ⟨_, rfl, ?_⟩
 replace hS := hS.after hT
 refine t_q (q_not rfl) ?_
 refine t_nil ?_
 refine c_cond rfl ?_ ?_
 ·
  intro hc2
  refine c_seq (c_region ?_)
  refine t_call Try.call16 (vlives_calls) rfl ?_
  rintro e w ⟨rfl, hT⟩
  refine ⟨_, rfl, ?_⟩
  replace hS := hS.after hT
  refine t_q (q_as (.bool _) rfl) ?_
  refine t_nil (c_ret ?_)
  refine r_one rfl rfl ?_
  exact ⟨rfl, hS.nil⟩
 ·
  intro hc2
  have hLC := bnf (by assumption : (!lightC l) = false)
  have hl60 := lightC_len hLC
  refine c_skip (c_seq (c_region ?_))
  refine t_q (q_mv (.int _ _) rfl) ?_
  first | refine t_q (q_conv_u64 Try.runUnderlying3 Try.runUnderlying25 rfl (by omega)) ?_ | refine t_q (q_convm_u64 Try.runUnderlying3 Try.runUnderlying25 rfl) ?_
  refine t_q (q_rem_n rfl rfl (by omega) (by omega)) ?_
  refine t_q (q_conv_i64 Try.runUnderlying25 Try.runUnderlying3 rfl (by omega)) ?_
  refine t_q (q_cast (v' := .int .i64 n) (q_add_i64 rfl rfl (by omega)) (by rw [hn0])) ?_
  refine t_q (q_as (.int _ _) rfl) ?_
  refine t_nil (c_seq (c_region ?_))
  refine t_q (q_mv (.int _ _) rfl) ?_
  refine t_call Try.call17 (begin_calls (n := n) hS (by omega)) rfl ?_
  rintro e w ⟨g, q, Aq, cq, ps0, y0, rfl, hy0, hb0, hS⟩
  refine ⟨_, rfl, ?_⟩
  rw [show [(bas 1 none 0 none 0)] = [y0].map nf from by rw [List.map_cons, hy0]; rfl] at hS
  refine t_q (q_mv (.tuple _) rfl) ?_
  refine t_q (q_extract rfl rfl) ?_
  refine t_q (q_extract rfl rfl) ?_
  refine t_alloc Try.zeroValue34 rfl hS (fun g5 w hS => ?_)
  refine t_alloc Try.zeroValue41 rfl hS (fun g6 w hS => ?_)
  refine t_store (v := (.agg _)) Try.sizeOf34 hS (by repeat constructor) rfl rfl rfl rfl rfl rfl (fun w hS => ?_)
  replace hS := hS.recast (congrArg (blkA g5 34) (rset_full (vs := bdc (⟨1, 0, 0, 0, 0⟩ : StV) (some ⟨g, 0, none⟩) n (fun _ => 0)) rfl))
  replace hS := hS.recast (show blkA g5 34 _ = blkA g5 34 [.int .i64 (⟨1, 0, 0, 0, 0⟩ : StV).active, .int .i64 (⟨1, 0, 0, 0, 0⟩ : StV).previous, .int .i64 (⟨1, 0, 0, 0, 0⟩ : StV).pending, .int .u64 (⟨1, 0, 0, 0, 0⟩ : StV).at_, .int .i64 (⟨1, 0, 0, 0, 0⟩ : StV).shadow, .pointer (some ⟨g, 0, none⟩), .int .i64 n, .int .u64 ((fun _ => 0) 0), .int .u64 ((fun _ => 0) 1), .int .u64 ((fun _ => 0) 2), .int .u64 ((fun _ => 0) 3), .int .u64 ((fun _ => 0) 4), .int .u64 ((fun _ => 0) 5), .int .u64 ((fun _ => 0) 6)] from rfl)
  replace hS := hS.recast (show _ = blkA g5 34 [.int .i64 (⟨1, 0, 0, 0, 0⟩ : StV).active, .int .i64 (⟨1, 0, 0, 0, 0⟩ : StV).previous, .int .i64 (⟨1, 0, 0, 0, 0⟩ : StV).pending, .int .u64 (⟨1, 0, 0, 0, 0⟩ : StV).at_, .int .i64 (⟨1, 0, 0, 0, 0⟩ : StV).shadow, .pointer (some ⟨g, 0, none⟩), .int .i64 n, .int .u64 ((ofF ([] : AckL)) 0), .int .u64 ((ofF ([] : AckL)) 1), .int .u64 ((ofF ([] : AckL)) 2), .int .u64 ((ofF ([] : AckL)) 3), .int .u64 ((ofF ([] : AckL)) 4), .int .u64 ((ofF ([] : AckL)) 5), .int .u64 ((ofF ([] : AckL)) 6)] from congrArg (blkA g5 34) (show bdc (⟨1, 0, 0, 0, 0⟩ : StV) (some ⟨g, 0, none⟩) n (fun _ => 0) = bdc (⟨1, 0, 0, 0, 0⟩ : StV) (some ⟨g, 0, none⟩) n (ofF ([] : AckL)) from bdc_congr rfl))
  refine t_store (v := (.agg _)) Try.sizeOf41 hS (by repeat constructor) rfl rfl rfl rfl rfl rfl (fun w hS => ?_)
  replace hS := hS.recast (congrArg (blkA g6 41) (rset_full (vs := [.int .i64 (⟨1, 0, 0, 0, 0⟩ : StV).active, .int .i64 (⟨1, 0, 0, 0, 0⟩ : StV).previous, .int .i64 (⟨1, 0, 0, 0, 0⟩ : StV).pending, .int .u64 (⟨1, 0, 0, 0, 0⟩ : StV).at_, .int .i64 (⟨1, 0, 0, 0, 0⟩ : StV).shadow, .pointer (some ⟨q, 0, none⟩), .int .i64 n, .slice none ([] : AckL).length 0]) rfl))
  replace hS := hS.recast (show blkA g6 41 _ = blkA g6 41 [.int .i64 (⟨1, 0, 0, 0, 0⟩ : StV).active, .int .i64 (⟨1, 0, 0, 0, 0⟩ : StV).previous, .int .i64 (⟨1, 0, 0, 0, 0⟩ : StV).pending, .int .u64 (⟨1, 0, 0, 0, 0⟩ : StV).at_, .int .i64 (⟨1, 0, 0, 0, 0⟩ : StV).shadow, .pointer (some ⟨q, 0, none⟩), .int .i64 n, .slice none ([] : AckL).length 0] from rfl)
  replace hS := (hS.nilrow 199 2).recast (show _ = rowA 199 2 none ([] : AckL).length 0 (([] : AckL).flatMap ackC) from rfl)
  refine t_nil (c_seq (c_seq (c_region ?_)))
  refine t_q (q_mv (.slice _ _ _) rfl) ?_
  refine t_q (q_len_slice Try.runUnderlying22 rfl) ?_
  refine t_q (q_move) ?_
  refine t_nil (c_block ?_)
  refine c_loop [4, 7, 8, 9, 10, 11, 12, 13, 14, 15, 16, 17, 18, 19, 36, 37, 38, 39, 40, 41, 42, 43, 44, 45, 46, 47, 48, 49, 50, 51, 52, 53, 54, 55, 56, 57, 58, 59, 60, 61, 62, 63, 64, 65, 66, 67, 68, 69, 70, 71, 72, 73, 74, 75, 76, 77, 78, 79, 80, 81, 82, 83, 84, 85, 86, 87, 88, 89, 90, 91, 92, 93, 94, 95, 96, 97, 98, 99, 100, 101, 102, 103, 104, 105, 106, 107, 108, 109, 110, 111, 112, 113, 114, 115, 116, 117, 118, 119, 120, 121, 122, 123, 124, 125, 126, 127, 128, 129, 130] (fun k σ w => ∃ (j : Nat) (s : StV) (q : Nat) (A : Option Addr) (c1 : Nat) (Y : List RuV) (A2 : Option Addr) (c2 : Nat) (K : AckL) (ps : List RdP), σ 36 = .int .i64 (j : Int) ∧ j ≤ l.length ∧ l.length - j ≤ k ∧ s.In ∧ SndP (Y.map nf) s ∧ GReg (Y.map nf) ∧ (∀ y ∈ Y, RuBy W ps y) ∧ AckOk n K ∧ K.length ≤ j ∧ St W w [blkA g5 34 [.int .i64 s.active, .int .i64 s.previous, .int .i64 s.pending, .int .u64 s.at_, .int .i64 s.shadow, .pointer (some ⟨g, 0, none⟩), .int .i64 n, .int .u64 ((ofF K) 0), .int .u64 ((ofF K) 1), .int .u64 ((ofF K) 2), .int .u64 ((ofF K) 3), .int .u64 ((ofF K) 4), .int .u64 ((ofF K) 5), .int .u64 ((ofF K) 6)], blkA g6 41 [.int .i64 s.active, .int .i64 s.previous, .int .i64 s.pending, .int .u64 s.at_, .int .i64 s.shadow, .pointer (some ⟨q, 0, none⟩), .int .i64 n, .slice A2 K.length c2], regA W g (Y.map nf) ps, blkA q 141 [.slice A Y.length c1], rowA 47 9 A Y.length c1 (Y.flatMap RuV.cells), rowA 199 2 A2 K.length c2 (K.flatMap ackC), rdsA ps]) (l.length) rfl (⟨0, (⟨1, 0, 0, 0, 0⟩ : StV), q, Aq, cq, [y0], none, 0, ([] : AckL), ps0, rfl, by omega, by omega, one_in, SndP.one (by rw [List.map_cons, hy0]; rfl), greg_one6 hy0, (fun y hy => by rw [List.mem_singleton.1 hy]; exact hb0), (fun a h => by cases h), Nat.le_refl _, (((((((((hS.pick (A := rdsA ps0) (by repeat constructor)).pick (A := rowA 199 2 none ([] : AckL).length 0 (([] : AckL).flatMap ackC)) (by repeat constructor)).pick (A := rowA 47 9 Aq [y0].length cq ([y0].flatMap RuV.cells)) (by repeat constructor)).pick (A := blkA q 141 [.slice Aq [y0].length cq]) (by repeat constructor)).pick (A := regA W g ([y0].map nf) ps0) (by repeat constructor)).pick (A := blkA g6 41 [.int .i64 (⟨1, 0, 0, 0, 0⟩ : StV).active, .int .i64 (⟨1, 0, 0, 0, 0⟩ : StV).previous, .int .i64 (⟨1, 0, 0, 0, 0⟩ : StV).pending, .int .u64 (⟨1, 0, 0, 0, 0⟩ : StV).at_, .int .i64 (⟨1, 0, 0, 0, 0⟩ : StV).shadow, .pointer (some ⟨q, 0, none⟩), .int .i64 n, .slice none ([] : AckL).length 0]) (by repeat constructor)).pick (A := blkA g5 34 [.int .i64 (⟨1, 0, 0, 0, 0⟩ : StV).active, .int .i64 (⟨1, 0, 0, 0, 0⟩ : StV).previous, .int .i64 (⟨1, 0, 0, 0, 0⟩ : StV).pending, .int .u64 (⟨1, 0, 0, 0, 0⟩ : StV).at_, .int .i64 (⟨1, 0, 0, 0, 0⟩ : StV).shadow, .pointer (some ⟨g, 0, none⟩), .int .i64 n, .int .u64 ((ofF ([] : AckL)) 0), .int .u64 ((ofF ([] : AckL)) 1), .int .u64 ((ofF ([] : AckL)) 2), .int .u64 ((ofF ([] : AckL)) 3), .int .u64 ((ofF ([] : AckL)) 4), .int .u64 ((ofF ([] : AckL)) 5), .int .u64 ((ofF ([] : AckL)) 6)]) (by repeat constructor))).front [_, _, _, _, _, _, _])⟩) ?_
  skip
  rintro k σ w ⟨j, s, q, A, c1, Y, A2, c2, K, ps, h36, hj, hk, hI, hsn, hG, hD, hak, hKj, hS⟩
  refine c_know 36 h36 ?_
  clear h36
  have hY16 : Y.length ≤ 16 := by have := hG.len; rwa [List.length_map] at this
  refine c_seq (c_region ?_)
  refine t_q (q_lss rfl rfl) ?_
  refine t_nil (c_seq ?_)
  refine c_cond rfl ?_ ?_
  ·
   intro hc8
   have hc8d := of_decide_eq_true hc8
   have hgj := lightC_gd hLC hok (j := j) (by omega)
   have hco := hok (l.getD j default) (getD_mem (d := default) (show j < l.length by omega))
   have hcat := hco.at_
   have hcv := hco.version
   have hcr := hco.replica
   have hcrv := hco.rules.version
   refine c_skip (c_seq (c_block (c_seq (c_region ?_))))
   refine t_q (q_mv (.int _ _) rfl) ?_
   first | refine t_index_nat Try.runUnderlying22 Try.sizeOf49 (Rd.st hl hS) rfl rfl (by omega) (fun ad9 hl9 hx9 => ?_) | refine t_index Try.runUnderlying22 Try.sizeOf49 (Rd.st hl hS) rfl rfl (by omega) (fun ad9 hl9 hx9 => ?_)
   refine t_q (q_loadN Try.isAgg49 Try.sizeOf49 rfl hl9 hx9) ?_
   refine t_alloc Try.zeroValue49 rfl hS (fun g8 w hS => ?_)
   refine t_q (q_as (.int _ _) rfl) ?_
   refine t_store (v := (.agg _)) Try.sizeOf49 hS (by repeat constructor) rfl rfl rfl rfl rfl rfl (fun w hS => ?_)
   replace hS := hS.recast (congrArg (blkA g8 49) (setN_full (vs := (l.getD j default).cells) (cmd_len (l.getD j default)).symm))
   replace hS := hS.recast (show _ = blkA g8 49 [.int .i64 (l.getD j default).kind, .int .u64 (l.getD j default).client, .int .u64 (l.getD j default).req, .int .i64 (l.getD j default).account, .int .u64 (l.getD j default).id, .int .i64 (l.getD j default).side, .int .i64 (l.getD j default).typ, .int .i64 (l.getD j default).asset, .int .i64 (l.getD j default).price, .int .i64 (l.getD j default).qty, .int .i64 (l.getD j default).version, .int .i64 (l.getD j default).replica, .int .u64 (l.getD j default).at_, .int .i64 (l.getD j default).rules.version, .slice (l.getD j default).rules.ticks.A (l.getD j default).rules.ticks.l.length (l.getD j default).rules.ticks.c, .int .i64 (l.getD j default).rules.lot, .int .i64 (l.getD j default).rules.band, .slice (l.getD j default).rules.fees.A (l.getD j default).rules.fees.l.length (l.getD j default).rules.fees.c, .int .i64 (l.getD j default).rules.round, .int .i64 (l.getD j default).rules.priority, .int .i64 (l.getD j default).rules.self, .int .i64 (l.getD j default).rules.layout] from rfl)
   refine t_nil (c_seq (c_region ?_))
   refine t_q (q_mv (.int _ _) rfl) ?_
   refine t_q (q_add_i64 rfl rfl (by omega)) ?_
   first | refine t_q (q_conv_u64 Try.runUnderlying3 Try.runUnderlying26 rfl (by omega)) ?_ | refine t_q (q_convm_u64 Try.runUnderlying3 Try.runUnderlying26 rfl) ?_
   refine t_q (q_as (.int _ _) rfl) ?_
   refine t_nil (c_seq (c_seq (c_draw ?_)))
   refine d_keep3 (blkA g5 34 [.int .i64 s.active, .int .i64 s.previous, .int .i64 s.pending, .int .u64 s.at_, .int .i64 s.shadow, .pointer (some ⟨g, 0, none⟩), .int .i64 n, .int .u64 ((ofF K) 0), .int .u64 ((ofF K) 1), .int .u64 ((ofF K) 2), .int .u64 ((ofF K) 3), .int .u64 ((ofF K) 4), .int .u64 ((ofF K) 5), .int .u64 ((ofF K) 6)]) (blkA g6 41 [.int .i64 s.active, .int .i64 s.previous, .int .i64 s.pending, .int .u64 s.at_, .int .i64 s.shadow, .pointer (some ⟨q, 0, none⟩), .int .i64 n, .slice A2 K.length c2]) (blkA g8 49 [.int .i64 (l.getD j default).kind, .int .u64 (l.getD j default).client, .int .u64 (l.getD j default).req, .int .i64 (l.getD j default).account, .int .u64 (l.getD j default).id, .int .i64 (l.getD j default).side, .int .i64 (l.getD j default).typ, .int .i64 (l.getD j default).asset, .int .i64 (l.getD j default).price, .int .i64 (l.getD j default).qty, .int .i64 (l.getD j default).version, .int .i64 (l.getD j default).replica, .int .u64 (l.getD j default).at_, .int .i64 (l.getD j default).rules.version, .slice (l.getD j default).rules.ticks.A (l.getD j default).rules.ticks.l.length (l.getD j default).rules.ticks.c, .int .i64 (l.getD j default).rules.lot, .int .i64 (l.getD j default).rules.band, .slice (l.getD j default).rules.fees.A (l.getD j default).rules.fees.l.length (l.getD j default).rules.fees.c, .int .i64 (l.getD j default).rules.round, .int .i64 (l.getD j default).rules.priority, .int .i64 (l.getD j default).rules.self, .int .i64 (l.getD j default).rules.layout]) 23 [0, 1, 2, 3, 4, 5, 6, 7, 8, 9, 10, 11, 12, 13, 14, 15, 16, 17, 18, 19, 20, 21, 22] [0, 1, 2, 3, 4, 5, 6, 7, 8, 9, 10, 11, 12, 13, 14, 15, 16, 17, 18, 19, 20, 21, 22] hS rfl (by kernel_rfl) (by kernel_rfl) (by kernel_rfl) (by kernel_rfl) (fun hap hsel w hS => ?_)
   refine p_q hap hsel 0 rfl rfl ⟨_, (((hS.pick (A := blkA g8 49 [.int .i64 (l.getD j default).kind, .int .u64 (l.getD j default).client, .int .u64 (l.getD j default).req, .int .i64 (l.getD j default).account, .int .u64 (l.getD j default).id, .int .i64 (l.getD j default).side, .int .i64 (l.getD j default).typ, .int .i64 (l.getD j default).asset, .int .i64 (l.getD j default).price, .int .i64 (l.getD j default).qty, .int .i64 (l.getD j default).version, .int .i64 (l.getD j default).replica, .int .u64 (l.getD j default).at_, .int .i64 (l.getD j default).rules.version, .slice (l.getD j default).rules.ticks.A (l.getD j default).rules.ticks.l.length (l.getD j default).rules.ticks.c, .int .i64 (l.getD j default).rules.lot, .int .i64 (l.getD j default).rules.band, .slice (l.getD j default).rules.fees.A (l.getD j default).rules.fees.l.length (l.getD j default).rules.fees.c, .int .i64 (l.getD j default).rules.round, .int .i64 (l.getD j default).rules.priority, .int .i64 (l.getD j default).rules.self, .int .i64 (l.getD j default).rules.layout]) (by repeat constructor)).pick (A := blkA g6 41 [.int .i64 s.active, .int .i64 s.previous, .int .i64 s.pending, .int .u64 s.at_, .int .i64 s.shadow, .pointer (some ⟨q, 0, none⟩), .int .i64 n, .slice A2 K.length c2]) (by repeat constructor)).pick (A := blkA g5 34 [.int .i64 s.active, .int .i64 s.previous, .int .i64 s.pending, .int .u64 s.at_, .int .i64 s.shadow, .pointer (some ⟨g, 0, none⟩), .int .i64 n, .int .u64 ((ofF K) 0), .int .u64 ((ofF K) 1), .int .u64 ((ofF K) 2), .int .u64 ((ofF K) 3), .int .u64 ((ofF K) 4), .int .u64 ((ofF K) 5), .int .u64 ((ofF K) 6)]) (by repeat constructor))⟩ (fun w hI => q_fieldAddr 0 Try.runUnderlying34 rfl Try.sizeOf28 (by decide) rfl rfl) ?_
   refine p_q hap hsel 1 rfl rfl ⟨_, (((hS.pick (A := blkA g8 49 [.int .i64 (l.getD j default).kind, .int .u64 (l.getD j default).client, .int .u64 (l.getD j default).req, .int .i64 (l.getD j default).account, .int .u64 (l.getD j default).id, .int .i64 (l.getD j default).side, .int .i64 (l.getD j default).typ, .int .i64 (l.getD j default).asset, .int .i64 (l.getD j default).price, .int .i64 (l.getD j default).qty, .int .i64 (l.getD j default).version, .int .i64 (l.getD j default).replica, .int .u64 (l.getD j default).at_, .int .i64 (l.getD j default).rules.version, .slice (l.getD j default).rules.ticks.A (l.getD j default).rules.ticks.l.length (l.getD j default).rules.ticks.c, .int .i64 (l.getD j default).rules.lot, .int .i64 (l.getD j default).rules.band, .slice (l.getD j default).rules.fees.A (l.getD j default).rules.fees.l.length (l.getD j default).rules.fees.c, .int .i64 (l.getD j default).rules.round, .int .i64 (l.getD j default).rules.priority, .int .i64 (l.getD j default).rules.self, .int .i64 (l.getD j default).rules.layout]) (by repeat constructor)).pick (A := blkA g6 41 [.int .i64 s.active, .int .i64 s.previous, .int .i64 s.pending, .int .u64 s.at_, .int .i64 s.shadow, .pointer (some ⟨q, 0, none⟩), .int .i64 n, .slice A2 K.length c2]) (by repeat constructor)).pick (A := blkA g5 34 [.int .i64 s.active, .int .i64 s.previous, .int .i64 s.pending, .int .u64 s.at_, .int .i64 s.shadow, .pointer (some ⟨g, 0, none⟩), .int .i64 n, .int .u64 ((ofF K) 0), .int .u64 ((ofF K) 1), .int .u64 ((ofF K) 2), .int .u64 ((ofF K) 3), .int .u64 ((ofF K) 4), .int .u64 ((ofF K) 5), .int .u64 ((ofF K) 6)]) (by repeat constructor))⟩ (fun w hI => (q_cast (v' := .agg s.cells.toArray) (q_load_sub Try.isAgg28 Try.sizeOf28 rfl (hI.choose_spec.blk (by repeat constructor)) (by show 0 + 0 + 5 ≤ 14; decide)) (by rfl))) ?_
   refine p_q hap hsel 2 rfl rfl ⟨_, (((hS.pick (A := blkA g8 49 [.int .i64 (l.getD j default).kind, .int .u64 (l.getD j default).client, .int .u64 (l.getD j default).req, .int .i64 (l.getD j default).account, .int .u64 (l.getD j default).id, .int .i64 (l.getD j default).side, .int .i64 (l.getD j default).typ, .int .i64 (l.getD j default).asset, .int .i64 (l.getD j default).price, .int .i64 (l.getD j default).qty, .int .i64 (l.getD j default).version, .int .i64 (l.getD j default).replica, .int .u64 (l.getD j default).at_, .int .i64 (l.getD j default).rules.version, .slice (l.getD j default).rules.ticks.A (l.getD j default).rules.ticks.l.length (l.getD j default).rules.ticks.c, .int .i64 (l.getD j default).rules.lot, .int .i64 (l.getD j default).rules.band, .slice (l.getD j default).rules.fees.A (l.getD j default).rules.fees.l.length (l.getD j default).rules.fees.c, .int .i64 (l.getD j default).rules.round, .int .i64 (l.getD j default).rules.priority, .int .i64 (l.getD j default).rules.self, .int .i64 (l.getD j default).rules.layout]) (by repeat constructor)).pick (A := blkA g6 41 [.int .i64 s.active, .int .i64 s.previous, .int .i64 s.pending, .int .u64 s.at_, .int .i64 s.shadow, .pointer (some ⟨q, 0, none⟩), .int .i64 n, .slice A2 K.length c2]) (by repeat constructor)).pick (A := blkA g5 34 [.int .i64 s.active, .int .i64 s.previous, .int .i64 s.pending, .int .u64 s.at_, .int .i64 s.shadow, .pointer (some ⟨g, 0, none⟩), .int .i64 n, .int .u64 ((ofF K) 0), .int .u64 ((ofF K) 1), .int .u64 ((ofF K) 2), .int .u64 ((ofF K) 3), .int .u64 ((ofF K) 4), .int .u64 ((ofF K) 5), .int .u64 ((ofF K) 6)]) (by repeat constructor))⟩ (fun w hI => q_mv (.int _ _) rfl) ?_
   refine p_q hap hsel 4 rfl rfl ⟨_, (((hS.pick (A := blkA g8 49 [.int .i64 (l.getD j default).kind, .int .u64 (l.getD j default).client, .int .u64 (l.getD j default).req, .int .i64 (l.getD j default).account, .int .u64 (l.getD j default).id, .int .i64 (l.getD j default).side, .int .i64 (l.getD j default).typ, .int .i64 (l.getD j default).asset, .int .i64 (l.getD j default).price, .int .i64 (l.getD j default).qty, .int .i64 (l.getD j default).version, .int .i64 (l.getD j default).replica, .int .u64 (l.getD j default).at_, .int .i64 (l.getD j default).rules.version, .slice (l.getD j default).rules.ticks.A (l.getD j default).rules.ticks.l.length (l.getD j default).rules.ticks.c, .int .i64 (l.getD j default).rules.lot, .int .i64 (l.getD j default).rules.band, .slice (l.getD j default).rules.fees.A (l.getD j default).rules.fees.l.length (l.getD j default).rules.fees.c, .int .i64 (l.getD j default).rules.round, .int .i64 (l.getD j default).rules.priority, .int .i64 (l.getD j default).rules.self, .int .i64 (l.getD j default).rules.layout]) (by repeat constructor)).pick (A := blkA g6 41 [.int .i64 s.active, .int .i64 s.previous, .int .i64 s.pending, .int .u64 s.at_, .int .i64 s.shadow, .pointer (some ⟨q, 0, none⟩), .int .i64 n, .slice A2 K.length c2]) (by repeat constructor)).pick (A := blkA g5 34 [.int .i64 s.active, .int .i64 s.previous, .int .i64 s.pending, .int .u64 s.at_, .int .i64 s.shadow, .pointer (some ⟨g, 0, none⟩), .int .i64 n, .int .u64 ((ofF K) 0), .int .u64 ((ofF K) 1), .int .u64 ((ofF K) 2), .int .u64 ((ofF K) 3), .int .u64 ((ofF K) 4), .int .u64 ((ofF K) 5), .int .u64 ((ofF K) 6)]) (by repeat constructor))⟩ (fun w hI => q_fieldAddr 0 Try.runUnderlying41 rfl Try.sizeOf35 (by decide) rfl rfl) ?_
   refine p_q hap hsel 5 rfl rfl ⟨_, (((hS.pick (A := blkA g8 49 [.int .i64 (l.getD j default).kind, .int .u64 (l.getD j default).client, .int .u64 (l.getD j default).req, .int .i64 (l.getD j default).account, .int .u64 (l.getD j default).id, .int .i64 (l.getD j default).side, .int .i64 (l.getD j default).typ, .int .i64 (l.getD j default).asset, .int .i64 (l.getD j default).price, .int .i64 (l.getD j default).qty, .int .i64 (l.getD j default).version, .int .i64 (l.getD j default).replica, .int .u64 (l.getD j default).at_, .int .i64 (l.getD j default).rules.version, .slice (l.getD j default).rules.ticks.A (l.getD j default).rules.ticks.l.length (l.getD j default).rules.ticks.c, .int .i64 (l.getD j default).rules.lot, .int .i64 (l.getD j default).rules.band, .slice (l.getD j default).rules.fees.A (l.getD j default).rules.fees.l.length (l.getD j default).rules.fees.c, .int .i64 (l.getD j default).rules.round, .int .i64 (l.getD j default).rules.priority, .int .i64 (l.getD j default).rules.self, .int .i64 (l.getD j default).rules.layout]) (by repeat constructor)).pick (A := blkA g6 41 [.int .i64 s.active, .int .i64 s.previous, .int .i64 s.pending, .int .u64 s.at_, .int .i64 s.shadow, .pointer (some ⟨q, 0, none⟩), .int .i64 n, .slice A2 K.length c2]) (by repeat constructor)).pick (A := blkA g5 34 [.int .i64 s.active, .int .i64 s.previous, .int .i64 s.pending, .int .u64 s.at_, .int .i64 s.shadow, .pointer (some ⟨g, 0, none⟩), .int .i64 n, .int .u64 ((ofF K) 0), .int .u64 ((ofF K) 1), .int .u64 ((ofF K) 2), .int .u64 ((ofF K) 3), .int .u64 ((ofF K) 4), .int .u64 ((ofF K) 5), .int .u64 ((ofF K) 6)]) (by repeat constructor))⟩ (fun w hI => (q_cast (v' := .agg s.cells.toArray) (q_load_sub Try.isAgg35 Try.sizeOf35 rfl (hI.choose_spec.blk (by repeat constructor)) (by show 0 + 0 + 5 ≤ 8; decide)) (by rfl))) ?_
   refine p_q hap hsel 6 rfl rfl ⟨_, (((hS.pick (A := blkA g8 49 [.int .i64 (l.getD j default).kind, .int .u64 (l.getD j default).client, .int .u64 (l.getD j default).req, .int .i64 (l.getD j default).account, .int .u64 (l.getD j default).id, .int .i64 (l.getD j default).side, .int .i64 (l.getD j default).typ, .int .i64 (l.getD j default).asset, .int .i64 (l.getD j default).price, .int .i64 (l.getD j default).qty, .int .i64 (l.getD j default).version, .int .i64 (l.getD j default).replica, .int .u64 (l.getD j default).at_, .int .i64 (l.getD j default).rules.version, .slice (l.getD j default).rules.ticks.A (l.getD j default).rules.ticks.l.length (l.getD j default).rules.ticks.c, .int .i64 (l.getD j default).rules.lot, .int .i64 (l.getD j default).rules.band, .slice (l.getD j default).rules.fees.A (l.getD j default).rules.fees.l.length (l.getD j default).rules.fees.c, .int .i64 (l.getD j default).rules.round, .int .i64 (l.getD j default).rules.priority, .int .i64 (l.getD j default).rules.self, .int .i64 (l.getD j default).rules.layout]) (by repeat constructor)).pick (A := blkA g6 41 [.int .i64 s.active, .int .i64 s.previous, .int .i64 s.pending, .int .u64 s.at_, .int .i64 s.shadow, .pointer (some ⟨q, 0, none⟩), .int .i64 n, .slice A2 K.length c2]) (by repeat constructor)).pick (A := blkA g5 34 [.int .i64 s.active, .int .i64 s.previous, .int .i64 s.pending, .int .u64 s.at_, .int .i64 s.shadow, .pointer (some ⟨g, 0, none⟩), .int .i64 n, .int .u64 ((ofF K) 0), .int .u64 ((ofF K) 1), .int .u64 ((ofF K) 2), .int .u64 ((ofF K) 3), .int .u64 ((ofF K) 4), .int .u64 ((ofF K) 5), .int .u64 ((ofF K) 6)]) (by repeat constructor))⟩ (fun w hI => q_mv (.int _ _) rfl) ?_
   refine p_one 3 rfl (by kernel_rfl) ?_
   refine t_call Try.call27 (due_calls (x := s) (i := ((j : Int) + 1))) rfl ?_
   rintro e w ⟨rfl, hT⟩
   refine ⟨_, rfl, ?_⟩
   replace hS := hS.after hT
   refine t_nil ?_
   refine ⟨.inr ⟨_, (((hS.pick (A := blkA g8 49 [.int .i64 (l.getD j default).kind, .int .u64 (l.getD j default).client, .int .u64 (l.getD j default).req, .int .i64 (l.getD j default).account, .int .u64 (l.getD j default).id, .int .i64 (l.getD j default).side, .int .i64 (l.getD j default).typ, .int .i64 (l.getD j default).asset, .int .i64 (l.getD j default).price, .int .i64 (l.getD j default).qty, .int .i64 (l.getD j default).version, .int .i64 (l.getD j default).replica, .int .u64 (l.getD j default).at_, .int .i64 (l.getD j default).rules.version, .slice (l.getD j default).rules.ticks.A (l.getD j default).rules.ticks.l.length (l.getD j default).rules.ticks.c, .int .i64 (l.getD j default).rules.lot, .int .i64 (l.getD j default).rules.band, .slice (l.getD j default).rules.fees.A (l.getD j default).rules.fees.l.length (l.getD j default).rules.fees.c, .int .i64 (l.getD j default).rules.round, .int .i64 (l.getD j default).rules.priority, .int .i64 (l.getD j default).rules.self, .int .i64 (l.getD j default).rules.layout]) (by repeat constructor)).pick (A := blkA g6 41 [.int .i64 s.active, .int .i64 s.previous, .int .i64 s.pending, .int .u64 s.at_, .int .i64 s.shadow, .pointer (some ⟨q, 0, none⟩), .int .i64 n, .slice A2 K.length c2]) (by repeat constructor)).pick (A := blkA g5 34 [.int .i64 s.active, .int .i64 s.previous, .int .i64 s.pending, .int .u64 s.at_, .int .i64 s.shadow, .pointer (some ⟨g, 0, none⟩), .int .i64 n, .int .u64 ((ofF K) 0), .int .u64 ((ofF K) 1), .int .u64 ((ofF K) 2), .int .u64 ((ofF K) 3), .int .u64 ((ofF K) 4), .int .u64 ((ofF K) 5), .int .u64 ((ofF K) 6)]) (by repeat constructor))⟩, ?_⟩
   refine p_one 7 rfl (by kernel_rfl) ?_
   refine t_call Try.call28 (qdue_calls (x := s) (i := ((j : Int) + 1))) rfl ?_
   rintro e w ⟨rfl, hT⟩
   refine ⟨_, rfl, ?_⟩
   replace hS := hS.after hT
   refine t_nil ?_
   refine ⟨.inr ⟨_, (((hS.pick (A := blkA g8 49 [.int .i64 (l.getD j default).kind, .int .u64 (l.getD j default).client, .int .u64 (l.getD j default).req, .int .i64 (l.getD j default).account, .int .u64 (l.getD j default).id, .int .i64 (l.getD j default).side, .int .i64 (l.getD j default).typ, .int .i64 (l.getD j default).asset, .int .i64 (l.getD j default).price, .int .i64 (l.getD j default).qty, .int .i64 (l.getD j default).version, .int .i64 (l.getD j default).replica, .int .u64 (l.getD j default).at_, .int .i64 (l.getD j default).rules.version, .slice (l.getD j default).rules.ticks.A (l.getD j default).rules.ticks.l.length (l.getD j default).rules.ticks.c, .int .i64 (l.getD j default).rules.lot, .int .i64 (l.getD j default).rules.band, .slice (l.getD j default).rules.fees.A (l.getD j default).rules.fees.l.length (l.getD j default).rules.fees.c, .int .i64 (l.getD j default).rules.round, .int .i64 (l.getD j default).rules.priority, .int .i64 (l.getD j default).rules.self, .int .i64 (l.getD j default).rules.layout]) (by repeat constructor)).pick (A := blkA g6 41 [.int .i64 s.active, .int .i64 s.previous, .int .i64 s.pending, .int .u64 s.at_, .int .i64 s.shadow, .pointer (some ⟨q, 0, none⟩), .int .i64 n, .slice A2 K.length c2]) (by repeat constructor)).pick (A := blkA g5 34 [.int .i64 s.active, .int .i64 s.previous, .int .i64 s.pending, .int .u64 s.at_, .int .i64 s.shadow, .pointer (some ⟨g, 0, none⟩), .int .i64 n, .int .u64 ((ofF K) 0), .int .u64 ((ofF K) 1), .int .u64 ((ofF K) 2), .int .u64 ((ofF K) 3), .int .u64 ((ofF K) 4), .int .u64 ((ofF K) 5), .int .u64 ((ofF K) 6)]) (by repeat constructor))⟩, ?_⟩
   refine p_q hap hsel 8 rfl rfl ⟨_, (((hS.pick (A := blkA g8 49 [.int .i64 (l.getD j default).kind, .int .u64 (l.getD j default).client, .int .u64 (l.getD j default).req, .int .i64 (l.getD j default).account, .int .u64 (l.getD j default).id, .int .i64 (l.getD j default).side, .int .i64 (l.getD j default).typ, .int .i64 (l.getD j default).asset, .int .i64 (l.getD j default).price, .int .i64 (l.getD j default).qty, .int .i64 (l.getD j default).version, .int .i64 (l.getD j default).replica, .int .u64 (l.getD j default).at_, .int .i64 (l.getD j default).rules.version, .slice (l.getD j default).rules.ticks.A (l.getD j default).rules.ticks.l.length (l.getD j default).rules.ticks.c, .int .i64 (l.getD j default).rules.lot, .int .i64 (l.getD j default).rules.band, .slice (l.getD j default).rules.fees.A (l.getD j default).rules.fees.l.length (l.getD j default).rules.fees.c, .int .i64 (l.getD j default).rules.round, .int .i64 (l.getD j default).rules.priority, .int .i64 (l.getD j default).rules.self, .int .i64 (l.getD j default).rules.layout]) (by repeat constructor)).pick (A := blkA g6 41 [.int .i64 s.active, .int .i64 s.previous, .int .i64 s.pending, .int .u64 s.at_, .int .i64 s.shadow, .pointer (some ⟨q, 0, none⟩), .int .i64 n, .slice A2 K.length c2]) (by repeat constructor)).pick (A := blkA g5 34 [.int .i64 s.active, .int .i64 s.previous, .int .i64 s.pending, .int .u64 s.at_, .int .i64 s.shadow, .pointer (some ⟨g, 0, none⟩), .int .i64 n, .int .u64 ((ofF K) 0), .int .u64 ((ofF K) 1), .int .u64 ((ofF K) 2), .int .u64 ((ofF K) 3), .int .u64 ((ofF K) 4), .int .u64 ((ofF K) 5), .int .u64 ((ofF K) 6)]) (by repeat constructor))⟩ (fun w hI => (q_cast (v' := .bool false) (q_neq rfl rfl) (by simp))) ?_
   refine p_q hap hsel 9 rfl rfl ⟨_, (((hS.pick (A := blkA g8 49 [.int .i64 (l.getD j default).kind, .int .u64 (l.getD j default).client, .int .u64 (l.getD j default).req, .int .i64 (l.getD j default).account, .int .u64 (l.getD j default).id, .int .i64 (l.getD j default).side, .int .i64 (l.getD j default).typ, .int .i64 (l.getD j default).asset, .int .i64 (l.getD j default).price, .int .i64 (l.getD j default).qty, .int .i64 (l.getD j default).version, .int .i64 (l.getD j default).replica, .int .u64 (l.getD j default).at_, .int .i64 (l.getD j default).rules.version, .slice (l.getD j default).rules.ticks.A (l.getD j default).rules.ticks.l.length (l.getD j default).rules.ticks.c, .int .i64 (l.getD j default).rules.lot, .int .i64 (l.getD j default).rules.band, .slice (l.getD j default).rules.fees.A (l.getD j default).rules.fees.l.length (l.getD j default).rules.fees.c, .int .i64 (l.getD j default).rules.round, .int .i64 (l.getD j default).rules.priority, .int .i64 (l.getD j default).rules.self, .int .i64 (l.getD j default).rules.layout]) (by repeat constructor)).pick (A := blkA g6 41 [.int .i64 s.active, .int .i64 s.previous, .int .i64 s.pending, .int .u64 s.at_, .int .i64 s.shadow, .pointer (some ⟨q, 0, none⟩), .int .i64 n, .slice A2 K.length c2]) (by repeat constructor)).pick (A := blkA g5 34 [.int .i64 s.active, .int .i64 s.previous, .int .i64 s.pending, .int .u64 s.at_, .int .i64 s.shadow, .pointer (some ⟨g, 0, none⟩), .int .i64 n, .int .u64 ((ofF K) 0), .int .u64 ((ofF K) 1), .int .u64 ((ofF K) 2), .int .u64 ((ofF K) 3), .int .u64 ((ofF K) 4), .int .u64 ((ofF K) 5), .int .u64 ((ofF K) 6)]) (by repeat constructor))⟩ (fun w hI => q_mv (.bool _) rfl) ?_
   refine p_yes hap hsel 10 rfl rfl ⟨_, (((hS.pick (A := blkA g8 49 [.int .i64 (l.getD j default).kind, .int .u64 (l.getD j default).client, .int .u64 (l.getD j default).req, .int .i64 (l.getD j default).account, .int .u64 (l.getD j default).id, .int .i64 (l.getD j default).side, .int .i64 (l.getD j default).typ, .int .i64 (l.getD j default).asset, .int .i64 (l.getD j default).price, .int .i64 (l.getD j default).qty, .int .i64 (l.getD j default).version, .int .i64 (l.getD j default).replica, .int .u64 (l.getD j default).at_, .int .i64 (l.getD j default).rules.version, .slice (l.getD j default).rules.ticks.A (l.getD j default).rules.ticks.l.length (l.getD j default).rules.ticks.c, .int .i64 (l.getD j default).rules.lot, .int .i64 (l.getD j default).rules.band, .slice (l.getD j default).rules.fees.A (l.getD j default).rules.fees.l.length (l.getD j default).rules.fees.c, .int .i64 (l.getD j default).rules.round, .int .i64 (l.getD j default).rules.priority, .int .i64 (l.getD j default).rules.self, .int .i64 (l.getD j default).rules.layout]) (by repeat constructor)).pick (A := blkA g6 41 [.int .i64 s.active, .int .i64 s.previous, .int .i64 s.pending, .int .u64 s.at_, .int .i64 s.shadow, .pointer (some ⟨q, 0, none⟩), .int .i64 n, .slice A2 K.length c2]) (by repeat constructor)).pick (A := blkA g5 34 [.int .i64 s.active, .int .i64 s.previous, .int .i64 s.pending, .int .u64 s.at_, .int .i64 s.shadow, .pointer (some ⟨g, 0, none⟩), .int .i64 n, .int .u64 ((ofF K) 0), .int .u64 ((ofF K) 1), .int .u64 ((ofF K) 2), .int .u64 ((ofF K) 3), .int .u64 ((ofF K) 4), .int .u64 ((ofF K) 5), .int .u64 ((ofF K) 6)]) (by repeat constructor))⟩ rfl rfl rfl (fun w hI => q_fieldAddr 0 Try.runUnderlying34 rfl Try.sizeOf28 (by decide) rfl rfl) ?_
   refine p_yes hap hsel 11 rfl rfl ⟨_, (((hS.pick (A := blkA g8 49 [.int .i64 (l.getD j default).kind, .int .u64 (l.getD j default).client, .int .u64 (l.getD j default).req, .int .i64 (l.getD j default).account, .int .u64 (l.getD j default).id, .int .i64 (l.getD j default).side, .int .i64 (l.getD j default).typ, .int .i64 (l.getD j default).asset, .int .i64 (l.getD j default).price, .int .i64 (l.getD j default).qty, .int .i64 (l.getD j default).version, .int .i64 (l.getD j default).replica, .int .u64 (l.getD j default).at_, .int .i64 (l.getD j default).rules.version, .slice (l.getD j default).rules.ticks.A (l.getD j default).rules.ticks.l.length (l.getD j default).rules.ticks.c, .int .i64 (l.getD j default).rules.lot, .int .i64 (l.getD j default).rules.band, .slice (l.getD j default).rules.fees.A (l.getD j default).rules.fees.l.length (l.getD j default).rules.fees.c, .int .i64 (l.getD j default).rules.round, .int .i64 (l.getD j default).rules.priority, .int .i64 (l.getD j default).rules.self, .int .i64 (l.getD j default).rules.layout]) (by repeat constructor)).pick (A := blkA g6 41 [.int .i64 s.active, .int .i64 s.previous, .int .i64 s.pending, .int .u64 s.at_, .int .i64 s.shadow, .pointer (some ⟨q, 0, none⟩), .int .i64 n, .slice A2 K.length c2]) (by repeat constructor)).pick (A := blkA g5 34 [.int .i64 s.active, .int .i64 s.previous, .int .i64 s.pending, .int .u64 s.at_, .int .i64 s.shadow, .pointer (some ⟨g, 0, none⟩), .int .i64 n, .int .u64 ((ofF K) 0), .int .u64 ((ofF K) 1), .int .u64 ((ofF K) 2), .int .u64 ((ofF K) 3), .int .u64 ((ofF K) 4), .int .u64 ((ofF K) 5), .int .u64 ((ofF K) 6)]) (by repeat constructor))⟩ rfl rfl rfl (fun w hI => (q_cast (v' := .agg s.cells.toArray) (q_load_sub Try.isAgg28 Try.sizeOf28 rfl (hI.choose_spec.blk (by repeat constructor)) (by show 0 + 0 + 5 ≤ 14; decide)) (by rfl))) ?_
   refine p_yes hap hsel 12 rfl rfl ⟨_, (((hS.pick (A := blkA g8 49 [.int .i64 (l.getD j default).kind, .int .u64 (l.getD j default).client, .int .u64 (l.getD j default).req, .int .i64 (l.getD j default).account, .int .u64 (l.getD j default).id, .int .i64 (l.getD j default).side, .int .i64 (l.getD j default).typ, .int .i64 (l.getD j default).asset, .int .i64 (l.getD j default).price, .int .i64 (l.getD j default).qty, .int .i64 (l.getD j default).version, .int .i64 (l.getD j default).replica, .int .u64 (l.getD j default).at_, .int .i64 (l.getD j default).rules.version, .slice (l.getD j default).rules.ticks.A (l.getD j default).rules.ticks.l.length (l.getD j default).rules.ticks.c, .int .i64 (l.getD j default).rules.lot, .int .i64 (l.getD j default).rules.band, .slice (l.getD j default).rules.fees.A (l.getD j default).rules.fees.l.length (l.getD j default).rules.fees.c, .int .i64 (l.getD j default).rules.round, .int .i64 (l.getD j default).rules.priority, .int .i64 (l.getD j default).rules.self, .int .i64 (l.getD j default).rules.layout]) (by repeat constructor)).pick (A := blkA g6 41 [.int .i64 s.active, .int .i64 s.previous, .int .i64 s.pending, .int .u64 s.at_, .int .i64 s.shadow, .pointer (some ⟨q, 0, none⟩), .int .i64 n, .slice A2 K.length c2]) (by repeat constructor)).pick (A := blkA g5 34 [.int .i64 s.active, .int .i64 s.previous, .int .i64 s.pending, .int .u64 s.at_, .int .i64 s.shadow, .pointer (some ⟨g, 0, none⟩), .int .i64 n, .int .u64 ((ofF K) 0), .int .u64 ((ofF K) 1), .int .u64 ((ofF K) 2), .int .u64 ((ofF K) 3), .int .u64 ((ofF K) 4), .int .u64 ((ofF K) 5), .int .u64 ((ofF K) 6)]) (by repeat constructor))⟩ rfl rfl rfl (fun w hI => (q_cast (v' := .agg (l.getD j default).cells.toArray) (q_load_blk Try.isAgg49 Try.sizeOf49 rfl (hI.choose_spec.blk (by repeat constructor)) rfl) (by rfl))) ?_
   refine p_yes hap hsel 13 rfl rfl ⟨_, (((hS.pick (A := blkA g8 49 [.int .i64 (l.getD j default).kind, .int .u64 (l.getD j default).client, .int .u64 (l.getD j default).req, .int .i64 (l.getD j default).account, .int .u64 (l.getD j default).id, .int .i64 (l.getD j default).side, .int .i64 (l.getD j default).typ, .int .i64 (l.getD j default).asset, .int .i64 (l.getD j default).price, .int .i64 (l.getD j default).qty, .int .i64 (l.getD j default).version, .int .i64 (l.getD j default).replica, .int .u64 (l.getD j default).at_, .int .i64 (l.getD j default).rules.version, .slice (l.getD j default).rules.ticks.A (l.getD j default).rules.ticks.l.length (l.getD j default).rules.ticks.c, .int .i64 (l.getD j default).rules.lot, .int .i64 (l.getD j default).rules.band, .slice (l.getD j default).rules.fees.A (l.getD j default).rules.fees.l.length (l.getD j default).rules.fees.c, .int .i64 (l.getD j default).rules.round, .int .i64 (l.getD j default).rules.priority, .int .i64 (l.getD j default).rules.self, .int .i64 (l.getD j default).rules.layout]) (by repeat constructor)).pick (A := blkA g6 41 [.int .i64 s.active, .int .i64 s.previous, .int .i64 s.pending, .int .u64 s.at_, .int .i64 s.shadow, .pointer (some ⟨q, 0, none⟩), .int .i64 n, .slice A2 K.length c2]) (by repeat constructor)).pick (A := blkA g5 34 [.int .i64 s.active, .int .i64 s.previous, .int .i64 s.pending, .int .u64 s.at_, .int .i64 s.shadow, .pointer (some ⟨g, 0, none⟩), .int .i64 n, .int .u64 ((ofF K) 0), .int .u64 ((ofF K) 1), .int .u64 ((ofF K) 2), .int .u64 ((ofF K) 3), .int .u64 ((ofF K) 4), .int .u64 ((ofF K) 5), .int .u64 ((ofF K) 6)]) (by repeat constructor))⟩ rfl rfl rfl (fun w hI => q_mv (.int _ _) rfl) ?_
   refine p_yes hap hsel 15 rfl rfl ⟨_, (((hS.pick (A := blkA g8 49 [.int .i64 (l.getD j default).kind, .int .u64 (l.getD j default).client, .int .u64 (l.getD j default).req, .int .i64 (l.getD j default).account, .int .u64 (l.getD j default).id, .int .i64 (l.getD j default).side, .int .i64 (l.getD j default).typ, .int .i64 (l.getD j default).asset, .int .i64 (l.getD j default).price, .int .i64 (l.getD j default).qty, .int .i64 (l.getD j default).version, .int .i64 (l.getD j default).replica, .int .u64 (l.getD j default).at_, .int .i64 (l.getD j default).rules.version, .slice (l.getD j default).rules.ticks.A (l.getD j default).rules.ticks.l.length (l.getD j default).rules.ticks.c, .int .i64 (l.getD j default).rules.lot, .int .i64 (l.getD j default).rules.band, .slice (l.getD j default).rules.fees.A (l.getD j default).rules.fees.l.length (l.getD j default).rules.fees.c, .int .i64 (l.getD j default).rules.round, .int .i64 (l.getD j default).rules.priority, .int .i64 (l.getD j default).rules.self, .int .i64 (l.getD j default).rules.layout]) (by repeat constructor)).pick (A := blkA g6 41 [.int .i64 s.active, .int .i64 s.previous, .int .i64 s.pending, .int .u64 s.at_, .int .i64 s.shadow, .pointer (some ⟨q, 0, none⟩), .int .i64 n, .slice A2 K.length c2]) (by repeat constructor)).pick (A := blkA g5 34 [.int .i64 s.active, .int .i64 s.previous, .int .i64 s.pending, .int .u64 s.at_, .int .i64 s.shadow, .pointer (some ⟨g, 0, none⟩), .int .i64 n, .int .u64 ((ofF K) 0), .int .u64 ((ofF K) 1), .int .u64 ((ofF K) 2), .int .u64 ((ofF K) 3), .int .u64 ((ofF K) 4), .int .u64 ((ofF K) 5), .int .u64 ((ofF K) 6)]) (by repeat constructor))⟩ rfl rfl rfl (fun w hI => q_fieldAddr 0 Try.runUnderlying41 rfl Try.sizeOf35 (by decide) rfl rfl) ?_
   refine p_yes hap hsel 16 rfl rfl ⟨_, (((hS.pick (A := blkA g8 49 [.int .i64 (l.getD j default).kind, .int .u64 (l.getD j default).client, .int .u64 (l.getD j default).req, .int .i64 (l.getD j default).account, .int .u64 (l.getD j default).id, .int .i64 (l.getD j default).side, .int .i64 (l.getD j default).typ, .int .i64 (l.getD j default).asset, .int .i64 (l.getD j default).price, .int .i64 (l.getD j default).qty, .int .i64 (l.getD j default).version, .int .i64 (l.getD j default).replica, .int .u64 (l.getD j default).at_, .int .i64 (l.getD j default).rules.version, .slice (l.getD j default).rules.ticks.A (l.getD j default).rules.ticks.l.length (l.getD j default).rules.ticks.c, .int .i64 (l.getD j default).rules.lot, .int .i64 (l.getD j default).rules.band, .slice (l.getD j default).rules.fees.A (l.getD j default).rules.fees.l.length (l.getD j default).rules.fees.c, .int .i64 (l.getD j default).rules.round, .int .i64 (l.getD j default).rules.priority, .int .i64 (l.getD j default).rules.self, .int .i64 (l.getD j default).rules.layout]) (by repeat constructor)).pick (A := blkA g6 41 [.int .i64 s.active, .int .i64 s.previous, .int .i64 s.pending, .int .u64 s.at_, .int .i64 s.shadow, .pointer (some ⟨q, 0, none⟩), .int .i64 n, .slice A2 K.length c2]) (by repeat constructor)).pick (A := blkA g5 34 [.int .i64 s.active, .int .i64 s.previous, .int .i64 s.pending, .int .u64 s.at_, .int .i64 s.shadow, .pointer (some ⟨g, 0, none⟩), .int .i64 n, .int .u64 ((ofF K) 0), .int .u64 ((ofF K) 1), .int .u64 ((ofF K) 2), .int .u64 ((ofF K) 3), .int .u64 ((ofF K) 4), .int .u64 ((ofF K) 5), .int .u64 ((ofF K) 6)]) (by repeat constructor))⟩ rfl rfl rfl (fun w hI => (q_cast (v' := .agg s.cells.toArray) (q_load_sub Try.isAgg35 Try.sizeOf35 rfl (hI.choose_spec.blk (by repeat constructor)) (by show 0 + 0 + 5 ≤ 8; decide)) (by rfl))) ?_
   refine p_yes hap hsel 17 rfl rfl ⟨_, (((hS.pick (A := blkA g8 49 [.int .i64 (l.getD j default).kind, .int .u64 (l.getD j default).client, .int .u64 (l.getD j default).req, .int .i64 (l.getD j default).account, .int .u64 (l.getD j default).id, .int .i64 (l.getD j default).side, .int .i64 (l.getD j default).typ, .int .i64 (l.getD j default).asset, .int .i64 (l.getD j default).price, .int .i64 (l.getD j default).qty, .int .i64 (l.getD j default).version, .int .i64 (l.getD j default).replica, .int .u64 (l.getD j default).at_, .int .i64 (l.getD j default).rules.version, .slice (l.getD j default).rules.ticks.A (l.getD j default).rules.ticks.l.length (l.getD j default).rules.ticks.c, .int .i64 (l.getD j default).rules.lot, .int .i64 (l.getD j default).rules.band, .slice (l.getD j default).rules.fees.A (l.getD j default).rules.fees.l.length (l.getD j default).rules.fees.c, .int .i64 (l.getD j default).rules.round, .int .i64 (l.getD j default).rules.priority, .int .i64 (l.getD j default).rules.self, .int .i64 (l.getD j default).rules.layout]) (by repeat constructor)).pick (A := blkA g6 41 [.int .i64 s.active, .int .i64 s.previous, .int .i64 s.pending, .int .u64 s.at_, .int .i64 s.shadow, .pointer (some ⟨q, 0, none⟩), .int .i64 n, .slice A2 K.length c2]) (by repeat constructor)).pick (A := blkA g5 34 [.int .i64 s.active, .int .i64 s.previous, .int .i64 s.pending, .int .u64 s.at_, .int .i64 s.shadow, .pointer (some ⟨g, 0, none⟩), .int .i64 n, .int .u64 ((ofF K) 0), .int .u64 ((ofF K) 1), .int .u64 ((ofF K) 2), .int .u64 ((ofF K) 3), .int .u64 ((ofF K) 4), .int .u64 ((ofF K) 5), .int .u64 ((ofF K) 6)]) (by repeat constructor))⟩ rfl rfl rfl (fun w hI => (q_cast (v' := .agg (l.getD j default).cells.toArray) (q_load_blk Try.isAgg49 Try.sizeOf49 rfl (hI.choose_spec.blk (by repeat constructor)) rfl) (by rfl))) ?_
   refine p_yes hap hsel 18 rfl rfl ⟨_, (((hS.pick (A := blkA g8 49 [.int .i64 (l.getD j default).kind, .int .u64 (l.getD j default).client, .int .u64 (l.getD j default).req, .int .i64 (l.getD j default).account, .int .u64 (l.getD j default).id, .int .i64 (l.getD j default).side, .int .i64 (l.getD j default).typ, .int .i64 (l.getD j default).asset, .int .i64 (l.getD j default).price, .int .i64 (l.getD j default).qty, .int .i64 (l.getD j default).version, .int .i64 (l.getD j default).replica, .int .u64 (l.getD j default).at_, .int .i64 (l.getD j default).rules.version, .slice (l.getD j default).rules.ticks.A (l.getD j default).rules.ticks.l.length (l.getD j default).rules.ticks.c, .int .i64 (l.getD j default).rules.lot, .int .i64 (l.getD j default).rules.band, .slice (l.getD j default).rules.fees.A (l.getD j default).rules.fees.l.length (l.getD j default).rules.fees.c, .int .i64 (l.getD j default).rules.round, .int .i64 (l.getD j default).rules.priority, .int .i64 (l.getD j default).rules.self, .int .i64 (l.getD j default).rules.layout]) (by repeat constructor)).pick (A := blkA g6 41 [.int .i64 s.active, .int .i64 s.previous, .int .i64 s.pending, .int .u64 s.at_, .int .i64 s.shadow, .pointer (some ⟨q, 0, none⟩), .int .i64 n, .slice A2 K.length c2]) (by repeat constructor)).pick (A := blkA g5 34 [.int .i64 s.active, .int .i64 s.previous, .int .i64 s.pending, .int .u64 s.at_, .int .i64 s.shadow, .pointer (some ⟨g, 0, none⟩), .int .i64 n, .int .u64 ((ofF K) 0), .int .u64 ((ofF K) 1), .int .u64 ((ofF K) 2), .int .u64 ((ofF K) 3), .int .u64 ((ofF K) 4), .int .u64 ((ofF K) 5), .int .u64 ((ofF K) 6)]) (by repeat constructor))⟩ rfl rfl rfl (fun w hI => q_mv (.int _ _) rfl) ?_
   refine p_one 14 rfl (by kernel_rfl) ?_
   refine t_yes rfl rfl rfl ?_
   refine t_call Try.call29 (needs_calls (x := s) (c := (l.getD j default)) (i := ((j : Int) + 1))) rfl ?_
   rintro e w ⟨rfl, hT⟩
   refine ⟨_, rfl, ?_⟩
   replace hS := hS.after hT
   refine t_nil ?_
   refine ⟨.inr ⟨_, (((hS.pick (A := blkA g8 49 [.int .i64 (l.getD j default).kind, .int .u64 (l.getD j default).client, .int .u64 (l.getD j default).req, .int .i64 (l.getD j default).account, .int .u64 (l.getD j default).id, .int .i64 (l.getD j default).side, .int .i64 (l.getD j default).typ, .int .i64 (l.getD j default).asset, .int .i64 (l.getD j default).price, .int .i64 (l.getD j default).qty, .int .i64 (l.getD j default).version, .int .i64 (l.getD j default).replica, .int .u64 (l.getD j default).at_, .int .i64 (l.getD j default).rules.version, .slice (l.getD j default).rules.ticks.A (l.getD j default).rules.ticks.l.length (l.getD j default).rules.ticks.c, .int .i64 (l.getD j default).rules.lot, .int .i64 (l.getD j default).rules.band, .slice (l.getD j default).rules.fees.A (l.getD j default).rules.fees.l.length (l.getD j default).rules.fees.c, .int .i64 (l.getD j default).rules.round, .int .i64 (l.getD j default).rules.priority, .int .i64 (l.getD j default).rules.self, .int .i64 (l.getD j default).rules.layout]) (by repeat constructor)).pick (A := blkA g6 41 [.int .i64 s.active, .int .i64 s.previous, .int .i64 s.pending, .int .u64 s.at_, .int .i64 s.shadow, .pointer (some ⟨q, 0, none⟩), .int .i64 n, .slice A2 K.length c2]) (by repeat constructor)).pick (A := blkA g5 34 [.int .i64 s.active, .int .i64 s.previous, .int .i64 s.pending, .int .u64 s.at_, .int .i64 s.shadow, .pointer (some ⟨g, 0, none⟩), .int .i64 n, .int .u64 ((ofF K) 0), .int .u64 ((ofF K) 1), .int .u64 ((ofF K) 2), .int .u64 ((ofF K) 3), .int .u64 ((ofF K) 4), .int .u64 ((ofF K) 5), .int .u64 ((ofF K) 6)]) (by repeat constructor))⟩, ?_⟩
   refine p_one 19 rfl (by kernel_rfl) ?_
   refine t_yes rfl rfl rfl ?_
   refine t_call Try.call31 (qneeds_calls (x := s) (c := (l.getD j default)) (i := ((j : Int) + 1))) rfl ?_
   rintro e w ⟨A63, c63, rfl, hT⟩
   refine ⟨_, rfl, ?_⟩
   have hS : St W w (_ :: _) := hS.lift hT
   refine t_nil ?_
   refine ⟨.inr ⟨_, (((hS.pick (A := blkA g8 49 [.int .i64 (l.getD j default).kind, .int .u64 (l.getD j default).client, .int .u64 (l.getD j default).req, .int .i64 (l.getD j default).account, .int .u64 (l.getD j default).id, .int .i64 (l.getD j default).side, .int .i64 (l.getD j default).typ, .int .i64 (l.getD j default).asset, .int .i64 (l.getD j default).price, .int .i64 (l.getD j default).qty, .int .i64 (l.getD j default).version, .int .i64 (l.getD j default).replica, .int .u64 (l.getD j default).at_, .int .i64 (l.getD j default).rules.version, .slice (l.getD j default).rules.ticks.A (l.getD j default).rules.ticks.l.length (l.getD j default).rules.ticks.c, .int .i64 (l.getD j default).rules.lot, .int .i64 (l.getD j default).rules.band, .slice (l.getD j default).rules.fees.A (l.getD j default).rules.fees.l.length (l.getD j default).rules.fees.c, .int .i64 (l.getD j default).rules.round, .int .i64 (l.getD j default).rules.priority, .int .i64 (l.getD j default).rules.self, .int .i64 (l.getD j default).rules.layout]) (by repeat constructor)).pick (A := blkA g6 41 [.int .i64 s.active, .int .i64 s.previous, .int .i64 s.pending, .int .u64 s.at_, .int .i64 s.shadow, .pointer (some ⟨q, 0, none⟩), .int .i64 n, .slice A2 K.length c2]) (by repeat constructor)).pick (A := blkA g5 34 [.int .i64 s.active, .int .i64 s.previous, .int .i64 s.pending, .int .u64 s.at_, .int .i64 s.shadow, .pointer (some ⟨g, 0, none⟩), .int .i64 n, .int .u64 ((ofF K) 0), .int .u64 ((ofF K) 1), .int .u64 ((ofF K) 2), .int .u64 ((ofF K) 3), .int .u64 ((ofF K) 4), .int .u64 ((ofF K) 5), .int .u64 ((ofF K) 6)]) (by repeat constructor))⟩, ?_⟩
   refine p_one 20 rfl (by kernel_rfl) ?_
   refine t_yes rfl rfl rfl ?_
   refine t_call Try.call30 (qbits_calls (vs := needL s (l.getD j default).kind (l.getD j default).version ((j : Int) + 1)) (hS.rowInts (A := A63) (c := c63) (by repeat constructor) rfl) (by have := needL_len s (l.getD j default).kind (l.getD j default).version ((j : Int) + 1); omega)) rfl ?_
   rintro e w ⟨rfl, hT⟩
   refine ⟨_, rfl, ?_⟩
   replace hS := hS.after hT
   refine t_nil ?_
   refine ⟨.inr ⟨_, (((hS.pick (A := blkA g8 49 [.int .i64 (l.getD j default).kind, .int .u64 (l.getD j default).client, .int .u64 (l.getD j default).req, .int .i64 (l.getD j default).account, .int .u64 (l.getD j default).id, .int .i64 (l.getD j default).side, .int .i64 (l.getD j default).typ, .int .i64 (l.getD j default).asset, .int .i64 (l.getD j default).price, .int .i64 (l.getD j default).qty, .int .i64 (l.getD j default).version, .int .i64 (l.getD j default).replica, .int .u64 (l.getD j default).at_, .int .i64 (l.getD j default).rules.version, .slice (l.getD j default).rules.ticks.A (l.getD j default).rules.ticks.l.length (l.getD j default).rules.ticks.c, .int .i64 (l.getD j default).rules.lot, .int .i64 (l.getD j default).rules.band, .slice (l.getD j default).rules.fees.A (l.getD j default).rules.fees.l.length (l.getD j default).rules.fees.c, .int .i64 (l.getD j default).rules.round, .int .i64 (l.getD j default).rules.priority, .int .i64 (l.getD j default).rules.self, .int .i64 (l.getD j default).rules.layout]) (by repeat constructor)).pick (A := blkA g6 41 [.int .i64 s.active, .int .i64 s.previous, .int .i64 s.pending, .int .u64 s.at_, .int .i64 s.shadow, .pointer (some ⟨q, 0, none⟩), .int .i64 n, .slice A2 K.length c2]) (by repeat constructor)).pick (A := blkA g5 34 [.int .i64 s.active, .int .i64 s.previous, .int .i64 s.pending, .int .u64 s.at_, .int .i64 s.shadow, .pointer (some ⟨g, 0, none⟩), .int .i64 n, .int .u64 ((ofF K) 0), .int .u64 ((ofF K) 1), .int .u64 ((ofF K) 2), .int .u64 ((ofF K) 3), .int .u64 ((ofF K) 4), .int .u64 ((ofF K) 5), .int .u64 ((ofF K) 6)]) (by repeat constructor))⟩, ?_⟩
   refine p_yes hap hsel 21 rfl rfl ⟨_, (((hS.pick (A := blkA g8 49 [.int .i64 (l.getD j default).kind, .int .u64 (l.getD j default).client, .int .u64 (l.getD j default).req, .int .i64 (l.getD j default).account, .int .u64 (l.getD j default).id, .int .i64 (l.getD j default).side, .int .i64 (l.getD j default).typ, .int .i64 (l.getD j default).asset, .int .i64 (l.getD j default).price, .int .i64 (l.getD j default).qty, .int .i64 (l.getD j default).version, .int .i64 (l.getD j default).replica, .int .u64 (l.getD j default).at_, .int .i64 (l.getD j default).rules.version, .slice (l.getD j default).rules.ticks.A (l.getD j default).rules.ticks.l.length (l.getD j default).rules.ticks.c, .int .i64 (l.getD j default).rules.lot, .int .i64 (l.getD j default).rules.band, .slice (l.getD j default).rules.fees.A (l.getD j default).rules.fees.l.length (l.getD j default).rules.fees.c, .int .i64 (l.getD j default).rules.round, .int .i64 (l.getD j default).rules.priority, .int .i64 (l.getD j default).rules.self, .int .i64 (l.getD j default).rules.layout]) (by repeat constructor)).pick (A := blkA g6 41 [.int .i64 s.active, .int .i64 s.previous, .int .i64 s.pending, .int .u64 s.at_, .int .i64 s.shadow, .pointer (some ⟨q, 0, none⟩), .int .i64 n, .slice A2 K.length c2]) (by repeat constructor)).pick (A := blkA g5 34 [.int .i64 s.active, .int .i64 s.previous, .int .i64 s.pending, .int .u64 s.at_, .int .i64 s.shadow, .pointer (some ⟨g, 0, none⟩), .int .i64 n, .int .u64 ((ofF K) 0), .int .u64 ((ofF K) 1), .int .u64 ((ofF K) 2), .int .u64 ((ofF K) 3), .int .u64 ((ofF K) 4), .int .u64 ((ofF K) 5), .int .u64 ((ofF K) 6)]) (by repeat constructor))⟩ rfl rfl rfl (fun w hI => (q_cast (v' := .bool false) (q_neq rfl rfl) (by rw [bits_set, need_eq]; simp))) ?_
   refine p_q hap hsel 22 rfl rfl ⟨_, (((hS.pick (A := blkA g8 49 [.int .i64 (l.getD j default).kind, .int .u64 (l.getD j default).client, .int .u64 (l.getD j default).req, .int .i64 (l.getD j default).account, .int .u64 (l.getD j default).id, .int .i64 (l.getD j default).side, .int .i64 (l.getD j default).typ, .int .i64 (l.getD j default).asset, .int .i64 (l.getD j default).price, .int .i64 (l.getD j default).qty, .int .i64 (l.getD j default).version, .int .i64 (l.getD j default).replica, .int .u64 (l.getD j default).at_, .int .i64 (l.getD j default).rules.version, .slice (l.getD j default).rules.ticks.A (l.getD j default).rules.ticks.l.length (l.getD j default).rules.ticks.c, .int .i64 (l.getD j default).rules.lot, .int .i64 (l.getD j default).rules.band, .slice (l.getD j default).rules.fees.A (l.getD j default).rules.fees.l.length (l.getD j default).rules.fees.c, .int .i64 (l.getD j default).rules.round, .int .i64 (l.getD j default).rules.priority, .int .i64 (l.getD j default).rules.self, .int .i64 (l.getD j default).rules.layout]) (by repeat constructor)).pick (A := blkA g6 41 [.int .i64 s.active, .int .i64 s.previous, .int .i64 s.pending, .int .u64 s.at_, .int .i64 s.shadow, .pointer (some ⟨q, 0, none⟩), .int .i64 n, .slice A2 K.length c2]) (by repeat constructor)).pick (A := blkA g5 34 [.int .i64 s.active, .int .i64 s.previous, .int .i64 s.pending, .int .u64 s.at_, .int .i64 s.shadow, .pointer (some ⟨g, 0, none⟩), .int .i64 n, .int .u64 ((ofF K) 0), .int .u64 ((ofF K) 1), .int .u64 ((ofF K) 2), .int .u64 ((ofF K) 3), .int .u64 ((ofF K) 4), .int .u64 ((ofF K) 5), .int .u64 ((ofF K) 6)]) (by repeat constructor))⟩ (fun w hI => q_pick_f rfl rfl) ?_
   refine p_end (by kernel_rfl) ?_
   refine c_cond_f rfl rfl ?_
   refine c_skip (c_seq (c_region ?_))
   refine t_q (q_fieldAddr 0 Try.runUnderlying34 rfl Try.sizeOf28 (by decide) rfl rfl) ?_
   refine t_q (q_cast (v' := .agg s.cells.toArray) (q_load_sub Try.isAgg28 Try.sizeOf28 rfl (hS.blk (by repeat constructor)) (by show 0 + 0 + 5 ≤ 14; decide)) (by rfl)) ?_
   refine t_q (q_mv (.int _ _) rfl) ?_
   refine t_call Try.call18 (step_calls (x := s) (i := ((j : Int) + 1))) rfl ?_
   rintro e w ⟨rfl, hT⟩
   refine ⟨_, rfl, ?_⟩
   replace hS := hS.after hT
   obtain ⟨s1, hs1⟩ : ∃ x, x = (stepV s ((j : Int) + 1)).1 := ⟨_, rfl⟩
   obtain ⟨b1, hb1⟩ : ∃ x, x = (stepV s ((j : Int) + 1)).2 := ⟨_, rfl⟩
   rw [← hs1, ← hb1]
   have hI1 : s1.In := by rw [hs1]; exact stepV_in hI _
   have hsn1 : SndP (Y.map nf) s1 := by rw [hs1]; exact step_snd hsn _
   refine t_q (q_mv (.tuple _) rfl) ?_
   refine t_q (q_extract rfl rfl) ?_
   refine t_q (q_extract rfl rfl) ?_
   refine t_alloc Try.zeroValue28 rfl hS (fun g10 w hS => ?_)
   refine t_store (v := (.agg _)) Try.sizeOf28 hS (by repeat constructor) rfl rfl rfl rfl rfl rfl (fun w hS => ?_)
   replace hS := hS.recast (congrArg (blkA g10 28) (rset_full (vs := s1.cells) rfl))
   replace hS := hS.recast (show _ = blkA g10 28 [.int .i64 s1.active, .int .i64 s1.previous, .int .i64 s1.pending, .int .u64 s1.at_, .int .i64 s1.shadow] from rfl)
   refine t_q (q_as (.bool _) rfl) ?_
   refine t_nil (c_seq (c_region ?_))
   refine t_q (q_fieldAddr 0 Try.runUnderlying41 rfl Try.sizeOf35 (by decide) rfl rfl) ?_
   refine t_q (q_cast (v' := .agg s.cells.toArray) (q_load_sub Try.isAgg35 Try.sizeOf35 rfl (hS.blk (by repeat constructor)) (by show 0 + 0 + 5 ≤ 8; decide)) (by rfl)) ?_
   refine t_q (q_mv (.int _ _) rfl) ?_
   refine t_call Try.call26 (qstep_calls (x := s) (i := ((j : Int) + 1))) rfl ?_
   rintro e w ⟨rfl, hT⟩
   refine ⟨_, rfl, ?_⟩
   replace hS := hS.after hT
   rw [← hs1, ← hb1]
   refine t_q (q_mv (.tuple _) rfl) ?_
   refine t_q (q_extract rfl rfl) ?_
   refine t_q (q_extract rfl rfl) ?_
   refine t_alloc Try.zeroValue35 rfl hS (fun g12 w hS => ?_)
   refine t_store (v := (.agg _)) Try.sizeOf35 hS (by repeat constructor) rfl rfl rfl rfl rfl rfl (fun w hS => ?_)
   replace hS := hS.recast (congrArg (blkA g12 35) (rset_full (vs := s1.cells) rfl))
   replace hS := hS.recast (show _ = blkA g12 35 [.int .i64 s1.active, .int .i64 s1.previous, .int .i64 s1.pending, .int .u64 s1.at_, .int .i64 s1.shadow] from rfl)
   refine t_q (q_as (.bool _) rfl) ?_
   refine t_nil (c_seq (c_seq (c_region ?_)))
   refine t_q (q_cast (v' := .agg s1.cells.toArray) (q_load_blk Try.isAgg28 Try.sizeOf28 rfl (hS.blk (by repeat constructor)) rfl) (by rfl)) ?_
   refine t_q (q_cast (v' := .agg s1.cells.toArray) (q_load_blk Try.isAgg35 Try.sizeOf35 rfl (hS.blk (by repeat constructor)) rfl) (by rfl)) ?_
   refine t_q (q_cast (v' := .bool false) (q_neq_qsv (e := s1) (q := s1) rfl rfl hI1.rg hI1.rg) (by simp)) ?_
   refine t_q (q_mv (.bool _) rfl) ?_
   refine t_yes rfl rfl rfl ?_
   refine t_q (q_mv (.bool _) rfl) ?_
   refine t_yes rfl rfl rfl ?_
   refine t_q (q_mv (.bool _) rfl) ?_
   refine t_yes rfl rfl rfl ?_
   refine t_q (q_cast (v' := .bool false) (q_neq_bool Try.runUnderlying4 rfl rfl) (by simp)) ?_
   refine t_q (q_pick_f rfl rfl) ?_
   refine t_nil ?_
   refine c_cond_f rfl rfl ?_
   refine c_skip (c_seq (c_draw ?_))
   refine d_keep2 (blkA g10 28 [.int .i64 s1.active, .int .i64 s1.previous, .int .i64 s1.pending, .int .u64 s1.at_, .int .i64 s1.shadow]) (blkA g12 35 [.int .i64 s1.active, .int .i64 s1.previous, .int .i64 s1.pending, .int .u64 s1.at_, .int .i64 s1.shadow]) 6 [0, 1, 2, 3, 4, 5] [0, 2, 3, 1, 4, 5] hS rfl (by kernel_rfl) (by kernel_rfl) (by kernel_rfl) (by kernel_rfl) (fun hap hsel w hS => ?_)
   refine p_q hap hsel 0 rfl rfl ⟨_, ((hS.pick (A := blkA g12 35 [.int .i64 s1.active, .int .i64 s1.previous, .int .i64 s1.pending, .int .u64 s1.at_, .int .i64 s1.shadow]) (by repeat constructor)).pick (A := blkA g10 28 [.int .i64 s1.active, .int .i64 s1.previous, .int .i64 s1.pending, .int .u64 s1.at_, .int .i64 s1.shadow]) (by repeat constructor))⟩ (fun w hI => (q_cast (v' := .agg s1.cells.toArray) (q_load_blk Try.isAgg28 Try.sizeOf28 rfl (hI.choose_spec.blk (by repeat constructor)) rfl) (by rfl))) ?_
   refine p_q hap hsel 1 rfl rfl ⟨_, ((hS.pick (A := blkA g12 35 [.int .i64 s1.active, .int .i64 s1.previous, .int .i64 s1.pending, .int .u64 s1.at_, .int .i64 s1.shadow]) (by repeat constructor)).pick (A := blkA g10 28 [.int .i64 s1.active, .int .i64 s1.previous, .int .i64 s1.pending, .int .u64 s1.at_, .int .i64 s1.shadow]) (by repeat constructor))⟩ (fun w hI => (q_cast (v' := .agg s1.cells.toArray) (q_load_blk Try.isAgg35 Try.sizeOf35 rfl (hI.choose_spec.blk (by repeat constructor)) rfl) (by rfl))) ?_
   refine p_q hap hsel 2 rfl rfl ⟨_, ((hS.pick (A := blkA g12 35 [.int .i64 s1.active, .int .i64 s1.previous, .int .i64 s1.pending, .int .u64 s1.at_, .int .i64 s1.shadow]) (by repeat constructor)).pick (A := blkA g10 28 [.int .i64 s1.active, .int .i64 s1.previous, .int .i64 s1.pending, .int .u64 s1.at_, .int .i64 s1.shadow]) (by repeat constructor))⟩ (fun w hI => q_fieldAddr 0 Try.runUnderlying34 rfl Try.sizeOf28 (by decide) rfl rfl) ?_
   refine p_one 3 rfl (by kernel_rfl) ?_
   refine t_store (v := (.agg _)) Try.sizeOf28 hS (by repeat constructor) rfl rfl rfl rfl rfl rfl (fun w hS => ?_)
   replace hS := hS.recast (show blkA g5 34 _ = blkA g5 34 [.int .i64 s1.active, .int .i64 s1.previous, .int .i64 s1.pending, .int .u64 s1.at_, .int .i64 s1.shadow, .pointer (some ⟨g, 0, none⟩), .int .i64 n, .int .u64 ((ofF K) 0), .int .u64 ((ofF K) 1), .int .u64 ((ofF K) 2), .int .u64 ((ofF K) 3), .int .u64 ((ofF K) 4), .int .u64 ((ofF K) 5), .int .u64 ((ofF K) 6)] from rfl)
   refine t_nil ?_
   refine ⟨.inr ⟨_, ((hS.pick (A := blkA g12 35 [.int .i64 s1.active, .int .i64 s1.previous, .int .i64 s1.pending, .int .u64 s1.at_, .int .i64 s1.shadow]) (by repeat constructor)).pick (A := blkA g10 28 [.int .i64 s1.active, .int .i64 s1.previous, .int .i64 s1.pending, .int .u64 s1.at_, .int .i64 s1.shadow]) (by repeat constructor))⟩, ?_⟩
   refine p_q hap hsel 4 rfl rfl ⟨_, ((hS.pick (A := blkA g12 35 [.int .i64 s1.active, .int .i64 s1.previous, .int .i64 s1.pending, .int .u64 s1.at_, .int .i64 s1.shadow]) (by repeat constructor)).pick (A := blkA g10 28 [.int .i64 s1.active, .int .i64 s1.previous, .int .i64 s1.pending, .int .u64 s1.at_, .int .i64 s1.shadow]) (by repeat constructor))⟩ (fun w hI => q_fieldAddr 0 Try.runUnderlying41 rfl Try.sizeOf35 (by decide) rfl rfl) ?_
   refine p_one 5 rfl (by kernel_rfl) ?_
   refine t_store (v := (.agg _)) Try.sizeOf35 hS (by repeat constructor) rfl rfl rfl rfl rfl rfl (fun w hS => ?_)
   replace hS := hS.recast (show blkA g6 41 _ = blkA g6 41 [.int .i64 s1.active, .int .i64 s1.previous, .int .i64 s1.pending, .int .u64 s1.at_, .int .i64 s1.shadow, .pointer (some ⟨q, 0, none⟩), .int .i64 n, .slice A2 K.length c2] from rfl)
   refine t_nil ?_
   refine ⟨.inl (by kernel_rfl), ?_⟩
   refine p_end (by kernel_rfl) ?_
   refine c_seq (c_region ?_)
   refine t_q (q_cast (v' := .agg (bdc s1 (some ⟨g, 0, none⟩) n (ofF K)).toArray) (q_load_blk Try.isAgg34 Try.sizeOf34 rfl (hS.blk (by repeat constructor)) rfl) (by rfl)) ?_
   refine t_q (q_cast (v' := .agg (l.getD j default).cells.toArray) (q_load_blk Try.isAgg49 Try.sizeOf49 rfl (hS.blk (by repeat constructor)) rfl) (by rfl)) ?_
   refine t_q (q_mv (.int _ _) rfl) ?_
   refine t_call Try.call20 (apply_calls (s := s1) (M := (Y.map nf)) (n := n) (a := (ofF K)) (c := (l.getD j default)) (i := ((j : Int) + 1)) ((hS.pick (A := rdsA _) (by repeat constructor)).pick (A := regA W g _ _) (by repeat constructor)) (by omega) (ofF_b K) (RuBy.base hgj) hcat (by omega)) rfl ?_
   rintro e w ⟨ps2, rfl, hsp2, hS⟩
   refine ⟨_, rfl, ?_⟩
   obtain ⟨s2, hs2⟩ : ∃ x, x = apS s1 (Y.map nf) n (ofF K) (l.getD j default) ((j : Int) + 1) := ⟨_, rfl⟩
   obtain ⟨a2, ha2⟩ : ∃ x, x = apA s1 (Y.map nf) n (ofF K) (l.getD j default) ((j : Int) + 1) := ⟨_, rfl⟩
   obtain ⟨v2, hv2⟩ : ∃ x, x = apE s1 (Y.map nf) n (ofF K) (l.getD j default) ((j : Int) + 1) := ⟨_, rfl⟩
   obtain ⟨e2, he2⟩ : ∃ x, x = (apV s1 (Y.map nf) n (ofF K) (l.getD j default) ((j : Int) + 1)).e := ⟨_, rfl⟩
   obtain ⟨M2, hM2⟩ : ∃ x, x = (apV s1 (Y.map nf) n (ofF K) (l.getD j default) ((j : Int) + 1)).M := ⟨_, rfl⟩
   rw [← hs2, ← ha2, ← hv2, ← he2]
   rw [← hM2] at hS
   have hI2 : s2.In := by rw [hs2]; exact apS_in hI1 hcv hcat
   have hv2r : v2.Rg := by rw [hv2]; exact apE_rg hI1 hcv hcat hcr hcrv
   have hsn2 : SndP M2 s2 := by rw [hs2, hM2]; exact ap_snd hsn1 (by omega)
   refine t_q (q_mv (.tuple _) rfl) ?_
   refine t_q (q_extract rfl rfl) ?_
   refine t_q (q_extract rfl rfl) ?_
   refine t_q (q_extract rfl rfl) ?_
   refine t_alloc Try.zeroValue34 rfl hS (fun g14 w hS => ?_)
   refine t_alloc Try.zeroValue55 rfl hS (fun g15 w hS => ?_)
   refine t_store (v := (.agg _)) Try.sizeOf34 hS (by repeat constructor) rfl rfl rfl rfl rfl rfl (fun w hS => ?_)
   replace hS := hS.recast (congrArg (blkA g14 34) (rset_full (vs := bdc s2 (some ⟨g, 0, none⟩) n a2) rfl))
   replace hS := hS.recast (show blkA g14 34 _ = blkA g14 34 [.int .i64 s2.active, .int .i64 s2.previous, .int .i64 s2.pending, .int .u64 s2.at_, .int .i64 s2.shadow, .pointer (some ⟨g, 0, none⟩), .int .i64 n, .int .u64 (a2 0), .int .u64 (a2 1), .int .u64 (a2 2), .int .u64 (a2 3), .int .u64 (a2 4), .int .u64 (a2 5), .int .u64 (a2 6)] from rfl)
   refine t_store (v := (.agg _)) Try.sizeOf55 hS (by repeat constructor) rfl rfl rfl rfl rfl rfl (fun w hS => ?_)
   replace hS := hS.recast (congrArg (blkA g15 55) (rset_full (vs := v2.cells) rfl))
   replace hS := hS.recast (show _ = blkA g15 55 [.int .i64 v2.kind, .int .i64 v2.account, .int .u64 v2.id, .int .u64 v2.other, .int .i64 v2.side, .int .i64 v2.price, .int .i64 v2.qty, .int .i64 v2.fee, .int .i64 v2.fee2, .int .i64 v2.code, .int .i64 v2.version, .int .u64 v2.index] from rfl)
   refine t_q (q_as (.int _ _) rfl) ?_
   refine t_nil (c_seq (c_region ?_))
   refine t_q (q_cast (v' := .agg (([.int .i64 s1.active, .int .i64 s1.previous, .int .i64 s1.pending, .int .u64 s1.at_, .int .i64 s1.shadow, .pointer (some ⟨q, 0, none⟩), .int .i64 n, .slice A2 K.length c2] : List Value)).toArray) (q_load_blk Try.isAgg41 Try.sizeOf41 rfl (hS.blk (by repeat constructor)) rfl) (by rfl)) ?_
   refine t_q (q_cast (v' := .agg (l.getD j default).cells.toArray) (q_load_blk Try.isAgg49 Try.sizeOf49 rfl (hS.blk (by repeat constructor)) rfl) (by rfl)) ?_
   refine t_q (q_mv (.int _ _) rfl) ?_
   refine t_call Try.call68 (qapply_calls (s := s1) (n := n) (c := (l.getD j default)) (i := ((j : Int) + 1)) ((((hS.pick (A := rdsA ps2) (by repeat constructor)).pick (A := rowA 199 2 A2 K.length c2 (K.flatMap ackC)) (by repeat constructor)).pick (A := rowA 47 9 A Y.length c1 (Y.flatMap RuV.cells)) (by repeat constructor)).pick (A := blkA q 141 [.slice A Y.length c1]) (by repeat constructor)) hG.srt hY16 hak (by omega) (by omega) (RuBy.base hgj) hcat (by omega)) rfl ?_
   rintro e w ⟨q', A', c', Y', A3, c3, K', rfl, hak2, hKl2, htc, hYM, hsub', hS⟩
   refine ⟨_, rfl, ?_⟩
   rw [← hs2, ← hv2, ← he2]
   rw [← hM2] at hYM
   rw [← ha2] at htc
   have hG2 : GReg (Y'.map nf) := by rw [hYM, hM2]; exact ap_reg hG
   have hD2 : ∀ y ∈ Y', RuBy W ps2 y := fun y hy => by
     rcases hsub' y hy with h | h
     · rw [h]; exact RuBy.base hgj
     · exact (hD y h).mono hsp2
   refine t_q (q_mv (.tuple _) rfl) ?_
   refine t_q (q_extract rfl rfl) ?_
   refine t_q (q_extract rfl rfl) ?_
   refine t_q (q_extract rfl rfl) ?_
   refine t_alloc Try.zeroValue41 rfl hS (fun g17 w hS => ?_)
   refine t_alloc Try.zeroValue55 rfl hS (fun g18 w hS => ?_)
   refine t_store (v := (.agg _)) Try.sizeOf41 hS (by repeat constructor) rfl rfl rfl rfl rfl rfl (fun w hS => ?_)
   replace hS := hS.recast (congrArg (blkA g17 41) (rset_full (vs := [.int .i64 s2.active, .int .i64 s2.previous, .int .i64 s2.pending, .int .u64 s2.at_, .int .i64 s2.shadow, .pointer (some ⟨q', 0, none⟩), .int .i64 n, .slice A3 K'.length c3]) rfl))
   replace hS := hS.recast (show blkA g17 41 _ = blkA g17 41 [.int .i64 s2.active, .int .i64 s2.previous, .int .i64 s2.pending, .int .u64 s2.at_, .int .i64 s2.shadow, .pointer (some ⟨q', 0, none⟩), .int .i64 n, .slice A3 K'.length c3] from rfl)
   refine t_store (v := (.agg _)) Try.sizeOf55 hS (by repeat constructor) rfl rfl rfl rfl rfl rfl (fun w hS => ?_)
   replace hS := hS.recast (congrArg (blkA g18 55) (rset_full (vs := v2.cells) rfl))
   replace hS := hS.recast (show _ = blkA g18 55 [.int .i64 v2.kind, .int .i64 v2.account, .int .u64 v2.id, .int .u64 v2.other, .int .i64 v2.side, .int .i64 v2.price, .int .i64 v2.qty, .int .i64 v2.fee, .int .i64 v2.fee2, .int .i64 v2.code, .int .i64 v2.version, .int .u64 v2.index] from rfl)
   refine t_q (q_as (.int _ _) rfl) ?_
   refine t_nil (c_seq (c_draw ?_))
   refine d_keep2 (blkA g14 34 [.int .i64 s2.active, .int .i64 s2.previous, .int .i64 s2.pending, .int .u64 s2.at_, .int .i64 s2.shadow, .pointer (some ⟨g, 0, none⟩), .int .i64 n, .int .u64 (a2 0), .int .u64 (a2 1), .int .u64 (a2 2), .int .u64 (a2 3), .int .u64 (a2 4), .int .u64 (a2 5), .int .u64 (a2 6)]) (blkA g17 41 [.int .i64 s2.active, .int .i64 s2.previous, .int .i64 s2.pending, .int .u64 s2.at_, .int .i64 s2.shadow, .pointer (some ⟨q', 0, none⟩), .int .i64 n, .slice A3 K'.length c3]) 4 [0, 1, 2, 3] [0, 2, 1, 3] hS rfl (by kernel_rfl) (by kernel_rfl) (by kernel_rfl) (by kernel_rfl) (fun hap hsel w hS => ?_)
   refine p_q hap hsel 0 rfl rfl ⟨_, ((hS.pick (A := blkA g17 41 [.int .i64 s2.active, .int .i64 s2.previous, .int .i64 s2.pending, .int .u64 s2.at_, .int .i64 s2.shadow, .pointer (some ⟨q', 0, none⟩), .int .i64 n, .slice A3 K'.length c3]) (by repeat constructor)).pick (A := blkA g14 34 [.int .i64 s2.active, .int .i64 s2.previous, .int .i64 s2.pending, .int .u64 s2.at_, .int .i64 s2.shadow, .pointer (some ⟨g, 0, none⟩), .int .i64 n, .int .u64 (a2 0), .int .u64 (a2 1), .int .u64 (a2 2), .int .u64 (a2 3), .int .u64 (a2 4), .int .u64 (a2 5), .int .u64 (a2 6)]) (by repeat constructor))⟩ (fun w hI => (q_cast (v' := .agg (bdc s2 (some ⟨g, 0, none⟩) n (ofF K')).toArray) (q_load_blk Try.isAgg34 Try.sizeOf34 rfl (hI.choose_spec.blk (by repeat constructor)) rfl) (by exact congrArg (fun l : List Value => Value.agg l.toArray) (show bdc s2 (some ⟨g, 0, none⟩) n a2 = _ from bdc_congr htc)))) ?_
   refine p_q hap hsel 1 rfl rfl ⟨_, ((hS.pick (A := blkA g17 41 [.int .i64 s2.active, .int .i64 s2.previous, .int .i64 s2.pending, .int .u64 s2.at_, .int .i64 s2.shadow, .pointer (some ⟨q', 0, none⟩), .int .i64 n, .slice A3 K'.length c3]) (by repeat constructor)).pick (A := blkA g14 34 [.int .i64 s2.active, .int .i64 s2.previous, .int .i64 s2.pending, .int .u64 s2.at_, .int .i64 s2.shadow, .pointer (some ⟨g, 0, none⟩), .int .i64 n, .int .u64 (a2 0), .int .u64 (a2 1), .int .u64 (a2 2), .int .u64 (a2 3), .int .u64 (a2 4), .int .u64 (a2 5), .int .u64 (a2 6)]) (by repeat constructor))⟩ (fun w hI => (q_cast (v' := .agg (([.int .i64 s2.active, .int .i64 s2.previous, .int .i64 s2.pending, .int .u64 s2.at_, .int .i64 s2.shadow, .pointer (some ⟨q', 0, none⟩), .int .i64 n, .slice A3 K'.length c3] : List Value)).toArray) (q_load_blk Try.isAgg41 Try.sizeOf41 rfl (hI.choose_spec.blk (by repeat constructor)) rfl) (by rfl))) ?_
   refine p_one 2 rfl (by kernel_rfl) ?_
   refine t_store (v := (.agg _)) Try.sizeOf34 hS (by repeat constructor) rfl rfl rfl rfl rfl rfl (fun w hS => ?_)
   replace hS := hS.recast (congrArg (blkA g5 34) (rset_full (vs := bdc s2 (some ⟨g, 0, none⟩) n (ofF K')) rfl))
   replace hS := hS.recast (show blkA g5 34 _ = blkA g5 34 [.int .i64 s2.active, .int .i64 s2.previous, .int .i64 s2.pending, .int .u64 s2.at_, .int .i64 s2.shadow, .pointer (some ⟨g, 0, none⟩), .int .i64 n, .int .u64 ((ofF K') 0), .int .u64 ((ofF K') 1), .int .u64 ((ofF K') 2), .int .u64 ((ofF K') 3), .int .u64 ((ofF K') 4), .int .u64 ((ofF K') 5), .int .u64 ((ofF K') 6)] from rfl)
   refine t_nil ?_
   refine ⟨.inr ⟨_, ((hS.pick (A := blkA g17 41 [.int .i64 s2.active, .int .i64 s2.previous, .int .i64 s2.pending, .int .u64 s2.at_, .int .i64 s2.shadow, .pointer (some ⟨q', 0, none⟩), .int .i64 n, .slice A3 K'.length c3]) (by repeat constructor)).pick (A := blkA g14 34 [.int .i64 s2.active, .int .i64 s2.previous, .int .i64 s2.pending, .int .u64 s2.at_, .int .i64 s2.shadow, .pointer (some ⟨g, 0, none⟩), .int .i64 n, .int .u64 (a2 0), .int .u64 (a2 1), .int .u64 (a2 2), .int .u64 (a2 3), .int .u64 (a2 4), .int .u64 (a2 5), .int .u64 (a2 6)]) (by repeat constructor))⟩, ?_⟩
   refine p_one 3 rfl (by kernel_rfl) ?_
   refine t_store (v := (.agg _)) Try.sizeOf41 hS (by repeat constructor) rfl rfl rfl rfl rfl rfl (fun w hS => ?_)
   replace hS := hS.recast (congrArg (blkA g6 41) (rset_full (vs := [.int .i64 s2.active, .int .i64 s2.previous, .int .i64 s2.pending, .int .u64 s2.at_, .int .i64 s2.shadow, .pointer (some ⟨q', 0, none⟩), .int .i64 n, .slice A3 K'.length c3]) rfl))
   replace hS := hS.recast (show blkA g6 41 _ = blkA g6 41 [.int .i64 s2.active, .int .i64 s2.previous, .int .i64 s2.pending, .int .u64 s2.at_, .int .i64 s2.shadow, .pointer (some ⟨q', 0, none⟩), .int .i64 n, .slice A3 K'.length c3] from rfl)
   refine t_nil ?_
   refine ⟨.inl (by kernel_rfl), ?_⟩
   refine p_end (by kernel_rfl) ?_
   refine c_seq (c_region ?_)
   refine t_q (q_cast (v' := .agg v2.cells.toArray) (q_load_blk Try.isAgg55 Try.sizeOf55 rfl (hS.blk (by repeat constructor)) rfl) (by rfl)) ?_
   refine t_q (q_cast (v' := .agg v2.cells.toArray) (q_load_blk Try.isAgg55 Try.sizeOf55 rfl (hS.blk (by repeat constructor)) rfl) (by rfl)) ?_
   refine t_q (q_cast (v' := .bool false) (q_neq_ee (e := v2) (q := v2) rfl rfl hv2r hv2r) (by simp)) ?_
   refine t_q (q_mv (.bool _) rfl) ?_
   refine t_yes rfl rfl rfl ?_
   refine t_q (q_mv (.int _ _) rfl) ?_
   refine t_yes rfl rfl rfl ?_
   refine t_q (q_mv (.int _ _) rfl) ?_
   refine t_yes rfl rfl rfl ?_
   refine t_q (q_cast (v' := .bool false) (q_neq rfl rfl) (by simp)) ?_
   refine t_q (q_pick_f rfl rfl) ?_
   refine t_q (q_mv (.bool _) rfl) ?_
   refine t_yes rfl rfl rfl ?_
   refine t_q (q_cast (v' := .agg (bdc s2 (some ⟨g, 0, none⟩) n (ofF K')).toArray) (q_load_blk Try.isAgg34 Try.sizeOf34 rfl (hS.blk (by repeat constructor)) rfl) (by rfl)) ?_
   refine t_yes rfl rfl rfl ?_
   refine t_q (q_cast (v' := .agg (([.int .i64 s2.active, .int .i64 s2.previous, .int .i64 s2.pending, .int .u64 s2.at_, .int .i64 s2.shadow, .pointer (some ⟨q', 0, none⟩), .int .i64 n, .slice A3 K'.length c3] : List Value)).toArray) (q_load_blk Try.isAgg41 Try.sizeOf41 rfl (hS.blk (by repeat constructor)) rfl) (by rfl)) ?_
   refine t_yes rfl rfl rfl ?_
   refine t_call Try.call69 (vlike_calls (s := s2) (n := n) (((((hS.pick (A := rdsA ps2) (by repeat constructor)).pick (A := rowA 199 2 A3 K'.length c3 (K'.flatMap ackC)) (by repeat constructor)).pick (A := rowA 47 9 A' Y'.length c' (Y'.flatMap RuV.cells)) (by repeat constructor)).pick (A := blkA q' 141 [.slice A' Y'.length c']) (by repeat constructor)).pick (A := regA W g M2 ps2) (by repeat constructor)) hYM (fun w' h y hy => (hD2 y hy).gd h (by repeat constructor)) hI2 (by omega) hak2 (by omega)) rfl ?_
   rintro e w ⟨rfl, hS⟩
   refine ⟨_, rfl, ?_⟩
   refine t_yes rfl rfl rfl ?_
   refine t_q (q_cast (v' := .bool false) (q_not rfl) (by rfl)) ?_
   refine t_q (q_pick_f rfl rfl) ?_
   refine t_q (q_mv (.bool _) rfl) ?_
   refine t_yes rfl rfl rfl ?_
   refine t_q (q_cast (v' := .agg (bdc s2 (some ⟨g, 0, none⟩) n (ofF K')).toArray) (q_load_blk Try.isAgg34 Try.sizeOf34 rfl (hS.blk (by repeat constructor)) rfl) (by rfl)) ?_
   refine t_yes rfl rfl rfl ?_
   refine t_call Try.call24 (sound_calls (s := s2) (n := n) (a := ofF K') ((hS.pick (A := rdsA ps2) (by repeat constructor)).pick (A := regA W g M2 ps2) (by repeat constructor))) rfl ?_
   rintro e w ⟨rfl, hS⟩
   refine ⟨_, rfl, ?_⟩
   refine t_yes rfl rfl rfl ?_
   refine t_q (q_cast (v' := .bool false) (q_not rfl) (by rw [hsn2.sound]; rfl)) ?_
   refine t_q (q_pick_f rfl rfl) ?_
   refine t_nil ?_
   refine c_cond_f rfl rfl ?_
   refine c_skip (c_region ?_)
   refine t_q (q_add_i64 rfl rfl (by omega)) ?_
   refine t_q (q_mv (.int _ _) rfl) ?_
   refine t_nil ?_
   rw [← hYM] at hS hsn2
   exact ⟨k - 1, by omega, j + 1, s2, q', A', c', Y', A3, c3, K', ps2, rfl, by omega, by omega, hI2, hsn2, hG2, hD2, hak2, by omega, (((((((((hS.pick (A := rdsA ps2) (by repeat constructor)).pick (A := rowA 199 2 A3 K'.length c3 (K'.flatMap ackC)) (by repeat constructor)).pick (A := rowA 47 9 A' Y'.length c' (Y'.flatMap RuV.cells)) (by repeat constructor)).pick (A := blkA q' 141 [.slice A' Y'.length c']) (by repeat constructor)).pick (A := regA W g (Y'.map nf) ps2) (by repeat constructor)).pick (A := blkA g6 41 [.int .i64 s2.active, .int .i64 s2.previous, .int .i64 s2.pending, .int .u64 s2.at_, .int .i64 s2.shadow, .pointer (some ⟨q', 0, none⟩), .int .i64 n, .slice A3 K'.length c3]) (by repeat constructor)).pick (A := blkA g5 34 [.int .i64 s2.active, .int .i64 s2.previous, .int .i64 s2.pending, .int .u64 s2.at_, .int .i64 s2.shadow, .pointer (some ⟨g, 0, none⟩), .int .i64 n, .int .u64 ((ofF K') 0), .int .u64 ((ofF K') 1), .int .u64 ((ofF K') 2), .int .u64 ((ofF K') 3), .int .u64 ((ofF K') 4), .int .u64 ((ofF K') 5), .int .u64 ((ofF K') 6)]) (by repeat constructor))).front [_, _, _, _, _, _, _])⟩
  ·
   intro hc8
   have hc8d := of_decide_eq_false hc8
   refine c_exit ?_
   refine ite_t rfl ?_
   refine c_seq (c_region ?_)
   refine t_call Try.call16 (vlives_calls) rfl ?_
   rintro e w ⟨rfl, hT⟩
   refine ⟨_, rfl, ?_⟩
   replace hS := hS.after hT
   refine t_q (q_as (.bool _) rfl) ?_
   refine t_nil (c_ret ?_)
   refine r_one rfl rfl ?_
   exact ⟨rfl, hS.nil⟩
end Go.Proofs.Ytmgobaojioaioaa
