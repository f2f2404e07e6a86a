/- A command done. -/
import Derived.Test.YtmgobaojioaioaaYc
import Derived.Test.YtmgobaojioaioaaWd
namespace Go.Proofs.Ytmgobaojioaioaa
open Go Go.RowKit Go.Lib
variable {W : World}
structure ApR where
  s : StV
  M : List RuV
  a : Nat → Int
  ev : EvE
  e : Int
/-- a command done -/
def apV (s : StV) (M : List RuV) (n : Int) (a : Nat → Int) (c : CmdV) (i : Int) : ApR :=
  if c.kind = 9 then ⟨s, gputM M c.rules, a, ⟨8, 0, 0, 0, 0, 0, 0, 0, 0, 0, c.rules.version, 0⟩, gputE M c.rules⟩ else
  if c.kind = 10 then ⟨s, M, if vknownE M c.version = 0 then (if (0 ≤ c.replica ∧ c.replica < n) ∧ (1 ≤ c.version ∧ c.version ≤ 32) then addT a c.replica c.version else a) else a, ⟨9, c.replica, 0, 0, 0, 0, 0, 0, 0, 0, c.version, 0⟩, if vknownE M c.version = 0 then (if (0 ≤ c.replica ∧ c.replica < n) ∧ (1 ≤ c.version ∧ c.version ≤ 32) then 0 else 2) else vknownE M c.version⟩ else
  if c.kind = 11 then ⟨{ s with shadow := c.version }, M, a, ⟨10, 0, 0, 0, 0, 0, 0, 0, 0, 0, c.version, 0⟩, if vreadyE M s c.version s.shadow = 0 ∧ allT n a c.version = false then 61 else vreadyE M s c.version s.shadow⟩ else
  if c.kind = 12 then ⟨{ s with shadow := 0 }, M, a, ⟨11, 0, 0, 0, 0, 0, 0, 0, 0, 0, s.shadow, 0⟩, if s.shadow = 0 then 54 else 0⟩ else
  if c.kind = 13 then ⟨{ s with pending := c.version, at_ := c.at_ }, M, a, ⟨12, 0, 0, 0, 0, 0, 0, 0, 0, 0, c.version, c.at_⟩, vschedE M s n a c.version c.at_ i⟩ else
  if c.kind = 14 then ⟨(backV s).1, M, a, ⟨14, 0, 0, 0, 0, 0, 0, 0, 0, 0, (backV s).1.active, 0⟩, (backV s).2⟩ else
  ⟨s, M, a, ⟨0, 0, 0, 0, 0, 0, 0, 0, 0, 0, c.version, 0⟩, 2⟩
theorem ap_9 {s : StV} {M : List RuV} {n : Int} {a : Nat → Int} {c : CmdV} {i : Int} (hk : c.kind = 9) : apV s M n a c i = ⟨s, gputM M c.rules, a, ⟨8, 0, 0, 0, 0, 0, 0, 0, 0, 0, c.rules.version, 0⟩, gputE M c.rules⟩ := by
  unfold apV
  rw [if_pos hk]
theorem ap_10 {s : StV} {M : List RuV} {n : Int} {a : Nat → Int} {c : CmdV} {i : Int} (hk : c.kind = 10) : apV s M n a c i = ⟨s, M, if vknownE M c.version = 0 then (if (0 ≤ c.replica ∧ c.replica < n) ∧ (1 ≤ c.version ∧ c.version ≤ 32) then addT a c.replica c.version else a) else a, ⟨9, c.replica, 0, 0, 0, 0, 0, 0, 0, 0, c.version, 0⟩, if vknownE M c.version = 0 then (if (0 ≤ c.replica ∧ c.replica < n) ∧ (1 ≤ c.version ∧ c.version ≤ 32) then 0 else 2) else vknownE M c.version⟩ := by
  unfold apV
  rw [if_neg (by omega), if_pos hk]
theorem ap_11 {s : StV} {M : List RuV} {n : Int} {a : Nat → Int} {c : CmdV} {i : Int} (hk : c.kind = 11) : apV s M n a c i = ⟨{ s with shadow := c.version }, M, a, ⟨10, 0, 0, 0, 0, 0, 0, 0, 0, 0, c.version, 0⟩, if vreadyE M s c.version s.shadow = 0 ∧ allT n a c.version = false then 61 else vreadyE M s c.version s.shadow⟩ := by
  unfold apV
  rw [if_neg (by omega), if_neg (by omega), if_pos hk]
theorem ap_12 {s : StV} {M : List RuV} {n : Int} {a : Nat → Int} {c : CmdV} {i : Int} (hk : c.kind = 12) : apV s M n a c i = ⟨{ s with shadow := 0 }, M, a, ⟨11, 0, 0, 0, 0, 0, 0, 0, 0, 0, s.shadow, 0⟩, if s.shadow = 0 then 54 else 0⟩ := by
  unfold apV
  rw [if_neg (by omega), if_neg (by omega), if_neg (by omega), if_pos hk]
theorem ap_13 {s : StV} {M : List RuV} {n : Int} {a : Nat → Int} {c : CmdV} {i : Int} (hk : c.kind = 13) : apV s M n a c i = ⟨{ s with pending := c.version, at_ := c.at_ }, M, a, ⟨12, 0, 0, 0, 0, 0, 0, 0, 0, 0, c.version, c.at_⟩, vschedE M s n a c.version c.at_ i⟩ := by
  unfold apV
  rw [if_neg (by omega), if_neg (by omega), if_neg (by omega), if_neg (by omega), if_pos hk]
theorem ap_14 {s : StV} {M : List RuV} {n : Int} {a : Nat → Int} {c : CmdV} {i : Int} (hk : c.kind = 14) : apV s M n a c i = ⟨(backV s).1, M, a, ⟨14, 0, 0, 0, 0, 0, 0, 0, 0, 0, (backV s).1.active, 0⟩, (backV s).2⟩ := by
  unfold apV
  rw [if_neg (by omega), if_neg (by omega), if_neg (by omega), if_neg (by omega), if_neg (by omega), if_pos hk]
theorem ap_0 {s : StV} {M : List RuV} {n : Int} {a : Nat → Int} {c : CmdV} {i : Int} (hk : ¬ (c.kind = 9 ∨ c.kind = 10 ∨ c.kind = 11 ∨ c.kind = 12 ∨ c.kind = 13 ∨ c.kind = 14)) : apV s M n a c i = ⟨s, M, a, ⟨0, 0, 0, 0, 0, 0, 0, 0, 0, 0, c.version, 0⟩, 2⟩ := by
  unfold apV
  rw [if_neg (by omega), if_neg (by omega), if_neg (by omega), if_neg (by omega), if_neg (by omega), if_neg (by omega)]
theorem ap_10a {s : StV} {M : List RuV} {n : Int} {a : Nat → Int} {c : CmdV} {i : Int} (hk : c.kind = 10) (h : vknownE M c.version = 0) : apV s M n a c i = ⟨s, M, (if (0 ≤ c.replica ∧ c.replica < n) ∧ (1 ≤ c.version ∧ c.version ≤ 32) then addT a c.replica c.version else a), ⟨9, c.replica, 0, 0, 0, 0, 0, 0, 0, 0, c.version, 0⟩, if (0 ≤ c.replica ∧ c.replica < n) ∧ (1 ≤ c.version ∧ c.version ≤ 32) then 0 else 2⟩ := by
  rw [ap_10 hk, if_pos h, if_pos h]
theorem ap_10b {s : StV} {M : List RuV} {n : Int} {a : Nat → Int} {c : CmdV} {i : Int} (hk : c.kind = 10) (h : ¬ vknownE M c.version = 0) : apV s M n a c i = ⟨s, M, a, ⟨9, c.replica, 0, 0, 0, 0, 0, 0, 0, 0, c.version, 0⟩, vknownE M c.version⟩ := by
  rw [ap_10 hk, if_neg h, if_neg h]
theorem ap_11a {s : StV} {M : List RuV} {n : Int} {a : Nat → Int} {c : CmdV} {i : Int} (hk : c.kind = 11) (h : vreadyE M s c.version s.shadow = 0) (h2 : allT n a c.version = false) : apV s M n a c i = ⟨{ s with shadow := c.version }, M, a, ⟨10, 0, 0, 0, 0, 0, 0, 0, 0, 0, c.version, 0⟩, 61⟩ := by
  rw [ap_11 hk, if_pos ⟨h, h2⟩]
theorem ap_11b {s : StV} {M : List RuV} {n : Int} {a : Nat → Int} {c : CmdV} {i : Int} (hk : c.kind = 11) (h : ¬ (vreadyE M s c.version s.shadow = 0 ∧ allT n a c.version = false)) : apV s M n a c i = ⟨{ s with shadow := c.version }, M, a, ⟨10, 0, 0, 0, 0, 0, 0, 0, 0, 0, c.version, 0⟩, vreadyE M s c.version s.shadow⟩ := by
  rw [ap_11 hk, if_neg h]
theorem ap_12a {s : StV} {M : List RuV} {n : Int} {a : Nat → Int} {c : CmdV} {i : Int} (hk : c.kind = 12) (h : s.shadow = 0) : apV s M n a c i = ⟨{ s with shadow := 0 }, M, a, ⟨11, 0, 0, 0, 0, 0, 0, 0, 0, 0, s.shadow, 0⟩, 54⟩ := by
  rw [ap_12 hk, if_pos h]
theorem ap_12b {s : StV} {M : List RuV} {n : Int} {a : Nat → Int} {c : CmdV} {i : Int} (hk : c.kind = 12) (h : ¬ s.shadow = 0) : apV s M n a c i = ⟨{ s with shadow := 0 }, M, a, ⟨11, 0, 0, 0, 0, 0, 0, 0, 0, 0, s.shadow, 0⟩, 0⟩ := by
  rw [ap_12 hk, if_neg h]
theorem ap_M {s : StV} {M : List RuV} {n : Int} {a : Nat → Int} {c : CmdV} {i : Int} (h : (apV s M n a c i).e ≠ 0) : (apV s M n a c i).M = M := by
  by_cases h9 : c.kind = 9
  · rw [ap_9 h9] at h ⊢
    show gputM M c.rules = M
    unfold gputM
    rw [if_neg h]
  · unfold apV
    rw [if_neg h9]
    repeat' split
    all_goals rfl
def evZ : EvE := ⟨0, 0, 0, 0, 0, 0, 0, 0, 0, 0, 0, 0⟩
def apS (s : StV) (M : List RuV) (n : Int) (a : Nat → Int) (c : CmdV) (i : Int) : StV := if (apV s M n a c i).e = 0 then (apV s M n a c i).s else s
def apA (s : StV) (M : List RuV) (n : Int) (a : Nat → Int) (c : CmdV) (i : Int) : Nat → Int := if (apV s M n a c i).e = 0 then (apV s M n a c i).a else a
def apE (s : StV) (M : List RuV) (n : Int) (a : Nat → Int) (c : CmdV) (i : Int) : EvE := if (apV s M n a c i).e = 0 then (apV s M n a c i).ev else evZ
attribute [local irreducible] blkA rowA rdsA mapA regA
set_option maxHeartbeats 8000000 in
set_option maxRecDepth 100000 in
theorem apply1_calls {w : World} {R : List Asn} {g : Nat} {M : List RuV} {ps : List RdP} {s : StV} {n : Int} {a : Nat → Int} {c : CmdV} {i : Int} (hS : St W w (regA W g M ps :: rdsA ps :: R)) (hn : 0 ≤ n ∧ n ≤ 7) (hs : Sb a) (hb : RuBy W ps c.rules) (hat : 0 ≤ c.at_ ∧ c.at_ < 18446744073709551616) (hi : 0 ≤ i ∧ i < 18446744073709551616) : Calls Try.prog 72 #[.agg (bdc s (some ⟨g, 0, none⟩) n a).toArray, .agg c.cells.toArray, .int .u64 i] w fun e w' => ∃ ps', e = .returned (.tuple #[.agg (bdc (apV s M n a c i).s (some ⟨g, 0, none⟩) n (apV s M n a c i).a).toArray, .agg (apV s M n a c i).ev.cells.toArray, .int .i64 (apV s M n a c i).e]) ∧ (∀ p ∈ ps, p ∈ ps') ∧ St W w' (regA W g (apV s M n a c i).M ps' :: rdsA ps' :: R) := by
  refine calls_of_wpE (args := [_, _, _]) Try.func72 rfl rfl rfl ?_
  refine c_seq ?_
  refine c_region ?_
  refine t_box (v := (.agg _)) rfl rfl hS (fun g3 w hS => ?_)
  replace hS := hS.recast (show _ = blkA g3 34 [.int .i64 s.active, .int .i64 s.previous, .int .i64 s.pending, .int .u64 s.at_, .int .i64 s.shadow, .pointer (some ⟨g, 0, none⟩), .int .i64 n, .int .u64 (a 0), .int .u64 (a 1), .int .u64 (a 2), .int .u64 (a 3), .int .u64 (a 4), .int .u64 (a 5), .int .u64 (a 6)] from rfl)
  refine t_box (v := (.agg _)) rfl rfl hS (fun g4 w hS => ?_)
  replace hS := hS.recast (show _ = blkA g4 49 [.int .i64 c.kind, .int .u64 c.client, .int .u64 c.req, .int .i64 c.account, .int .u64 c.id, .int .i64 c.side, .int .i64 c.typ, .int .i64 c.asset, .int .i64 c.price, .int .i64 c.qty, .int .i64 c.version, .int .i64 c.replica, .int .u64 c.at_, .int .i64 c.rules.version, .slice c.rules.ticks.A c.rules.ticks.l.length c.rules.ticks.c, .int .i64 c.rules.lot, .int .i64 c.rules.band, .slice c.rules.fees.A c.rules.fees.l.length c.rules.fees.c, .int .i64 c.rules.round, .int .i64 c.rules.priority, .int .i64 c.rules.self, .int .i64 c.rules.layout] from rfl)
  refine t_alloc Try.zeroValue34 rfl hS (fun g6 w hS => ?_)
  refine t_alloc Try.zeroValue55 rfl hS (fun g7 w hS => ?_)
  refine t_q (q_assign) ?_
  refine t_nil ?_
  refine c_seq ?_
  refine c_region ?_
  refine t_q (q_fieldAddr 10 Try.runUnderlying49 rfl Try.sizeOf3 (by decide) rfl rfl) ?_
  refine t_q (q_load1 Try.isAgg3 rfl (hS.cell (by repeat first | exact .here _ _ | assumption | apply Pick.there) rfl)) ?_
  refine t_q (q_build (qs := [(0, 1), (1, 1), (2, 1), (3, 1), (4, 1), (5, 1), (6, 1), (7, 1), (8, 1), (9, 1), (10, 1), (11, 1)]) [(.int _ _), (.int _ _), (.int _ _), (.int _ _), (.int _ _), (.int _ _), (.int _ _), (.int _ _), (.int _ _), (.int _ _), (.int _ _), (.int _ _)] Try.zeroValue55 Try.runUnderlying55 ⟨rfl, Try.sizeOf3, rfl, Try.sizeOf3, rfl, Try.sizeOf26, rfl, Try.sizeOf26, rfl, Try.sizeOf3, rfl, Try.sizeOf2, rfl, Try.sizeOf2, rfl, Try.sizeOf2, rfl, Try.sizeOf2, rfl, Try.sizeOf53, rfl, Try.sizeOf3, rfl, Try.sizeOf26, trivial⟩ rfl rfl) ?_
  refine t_alloc Try.zeroValue55 rfl hS (fun g9 w hS => ?_)
  refine t_store (v := (.agg _)) Try.sizeOf55 hS (by repeat first | exact .here _ _ | assumption | apply Pick.there) rfl rfl rfl rfl rfl rfl (fun w hS => ?_)
  replace hS := hS.recast (show blkA g9 55 _ = blkA g9 55 [.int .i64 0, .int .i64 0, .int .u64 0, .int .u64 0, .int .i64 0, .int .i64 0, .int .i64 0, .int .i64 0, .int .i64 0, .int .i64 0, .int .i64 c.version, .int .u64 0] from rfl)
  refine t_nil ?_
  refine c_seq ?_
  refine c_region ?_
  refine t_q (q_assign) ?_
  refine t_nil ?_
  refine c_cut [10, 11, 15, 16, 17, 18, 19, 20, 21, 22, 23, 24, 25, 26, 27, 28, 29, 30, 31, 32, 33, 34, 35, 36, 37, 38, 39, 40, 41, 42, 43, 44, 45, 46, 47, 48, 49, 50, 51, 52, 53, 54, 55, 56, 57, 58, 59, 60, 61, 62, 63, 64, 65, 66, 67, 68, 69, 70, 71, 72, 73, 74, 75, 76, 77, 78, 79, 80, 81, 82, 83, 84, 85, 86, 87, 88, 89, 90, 91, 92, 93, 94, 95, 96, 97, 98, 99, 100, 101, 102, 103, 104, 105, 106, 107, 108, 109, 110, 111, 112, 113, 114, 115, 116, 117, 118, 119, 120, 121, 122, 123, 124, 125, 126, 127, 128, 129, 130, 131] (fun σ w => ∃ (r : ApR) (ps' : List RdP), r = apV s M n a c i ∧ σ 10 = .int .i64 r.e ∧ (∀ p ∈ ps, p ∈ ps') ∧ St W w (blkA g3 34 [.int .i64 r.s.active, .int .i64 r.s.previous, .int .i64 r.s.pending, .int .u64 r.s.at_, .int .i64 r.s.shadow, .pointer (some ⟨g, 0, none⟩), .int .i64 n, .int .u64 (r.a 0), .int .u64 (r.a 1), .int .u64 (r.a 2), .int .u64 (r.a 3), .int .u64 (r.a 4), .int .u64 (r.a 5), .int .u64 (r.a 6)] :: blkA g9 55 [.int .i64 r.ev.kind, .int .i64 r.ev.account, .int .u64 r.ev.id, .int .u64 r.ev.other, .int .i64 r.ev.side, .int .i64 r.ev.price, .int .i64 r.ev.qty, .int .i64 r.ev.fee, .int .i64 r.ev.fee2, .int .i64 r.ev.code, .int .i64 r.ev.version, .int .u64 r.ev.index] :: blkA g6 34 [.int .i64 0, .int .i64 0, .int .i64 0, .int .u64 0, .int .i64 0, .pointer none, .int .i64 0, .int .u64 0, .int .u64 0, .int .u64 0, .int .u64 0, .int .u64 0, .int .u64 0, .int .u64 0] :: blkA g7 55 [.int .i64 0, .int .i64 0, .int .u64 0, .int .u64 0, .int .i64 0, .int .i64 0, .int .i64 0, .int .i64 0, .int .i64 0, .int .i64 0, .int .i64 0, .int .u64 0] :: regA W g r.M ps' :: rdsA ps' :: R)) rfl ?_ ?_
  ·
    refine c_seq ?_
    refine c_region ?_
    refine t_q (q_fieldAddr 0 Try.runUnderlying34 rfl Try.sizeOf28 (by decide) rfl rfl) ?_
    refine t_q (q_as (.pointer _) rfl) ?_
    refine t_nil ?_
    refine c_seq ?_
    refine c_region ?_
    refine t_q (q_fieldAddr 0 Try.runUnderlying49 rfl Try.sizeOf3 (by decide) rfl rfl) ?_
    refine t_q (q_load1 Try.isAgg3 rfl (hS.cell (by repeat first | exact .here _ _ | assumption | apply Pick.there) rfl)) ?_
    refine t_nil ?_
    refine c_block ?_
    refine c_seq ?_
    refine c_region ?_
    refine t_q (q_eql rfl rfl) ?_
    refine t_q (q_as (.bool _) rfl) ?_
    refine t_nil ?_
    refine c_cond rfl ?_ ?_
    · intro hc2
      have hc2d := of_decide_eq_true hc2
      have hk := hc2d
      refine c_seq ?_
      refine c_region ?_
      refine t_q (q_fieldAddr 5 Try.runUnderlying34 rfl Try.sizeOf29 (by decide) rfl rfl) ?_
      refine t_q (q_load1 Try.isAgg29 rfl (hS.cell (by repeat first | exact .here _ _ | assumption | apply Pick.there) rfl)) ?_
      refine t_q (q_fieldAddr 13 Try.runUnderlying49 rfl Try.sizeOf47 (by decide) rfl rfl) ?_
      refine t_q (q_cast (v' := .agg c.rules.cells.toArray) (q_load_sub Try.isAgg47 Try.sizeOf47 rfl (hS.blk (by repeat first | exact .here _ _ | assumption | apply Pick.there)) (by show 0 + 13 + 9 ≤ 22; decide)) (by rfl)) ?_
      refine t_call Try.call21 (rgput_calls (x := c.rules) ((hS.pick (A := rdsA ps) (by repeat first | exact .here _ _ | assumption | apply Pick.there)).pick (A := regA W g M ps) (by repeat first | exact .here _ _ | assumption | apply Pick.there)) hb) rfl ?_
      rintro e w ⟨ps1, rfl, hsub, hS⟩
      refine ⟨_, rfl, ?_⟩
      refine t_q (q_as (.int _ _) rfl) ?_
      refine t_nil ?_
      refine c_draw ?_
      refine d_keep (blkA g4 49 [.int .i64 c.kind, .int .u64 c.client, .int .u64 c.req, .int .i64 c.account, .int .u64 c.id, .int .i64 c.side, .int .i64 c.typ, .int .i64 c.asset, .int .i64 c.price, .int .i64 c.qty, .int .i64 c.version, .int .i64 c.replica, .int .u64 c.at_, .int .i64 c.rules.version, .slice c.rules.ticks.A c.rules.ticks.l.length c.rules.ticks.c, .int .i64 c.rules.lot, .int .i64 c.rules.band, .slice c.rules.fees.A c.rules.fees.l.length c.rules.fees.c, .int .i64 c.rules.round, .int .i64 c.rules.priority, .int .i64 c.rules.self, .int .i64 c.rules.layout]) 7 [0, 1, 2, 3, 4, 5, 6] [3, 4, 0, 1, 2, 5, 6] hS rfl (by kernel_rfl) (by kernel_rfl) (by kernel_rfl) (by kernel_rfl) (fun hap hsel w hS => ?_)
      refine p_q hap hsel 0 rfl rfl ⟨_, hS.pick (by repeat first | exact .here _ _ | assumption | apply Pick.there)⟩ (fun w hI => q_fieldAddr 13 Try.runUnderlying49 rfl Try.sizeOf47 (by decide) rfl rfl) ?_
      refine p_q hap hsel 1 rfl rfl ⟨_, hS.pick (by repeat first | exact .here _ _ | assumption | apply Pick.there)⟩ (fun w hI => q_fieldAddr 0 Try.runUnderlying47 rfl Try.sizeOf3 (by decide) rfl rfl) ?_
      refine p_q hap hsel 2 rfl rfl ⟨_, hS.pick (by repeat first | exact .here _ _ | assumption | apply Pick.there)⟩ (fun w hI => q_load1 Try.isAgg3 rfl (hI.choose_spec.cell (by repeat first | exact .here _ _ | assumption | apply Pick.there) rfl)) ?_
      refine p_q hap hsel 3 rfl rfl ⟨_, hS.pick (by repeat first | exact .here _ _ | assumption | apply Pick.there)⟩ (fun w hI => q_fieldAddr 0 Try.runUnderlying55 rfl Try.sizeOf3 (by decide) rfl rfl) ?_
      refine p_one 4 rfl (by kernel_rfl) ?_
      refine t_store (v := (.int _ _)) Try.sizeOf3 hS (by repeat first | exact .here _ _ | assumption | apply Pick.there) rfl rfl rfl rfl rfl rfl (fun w hS => ?_)
      replace hS := hS.recast (show blkA g9 55 _ = blkA g9 55 [.int .i64 8, .int .i64 0, .int .u64 0, .int .u64 0, .int .i64 0, .int .i64 0, .int .i64 0, .int .i64 0, .int .i64 0, .int .i64 0, .int .i64 c.version, .int .u64 0] from rfl)
      refine t_nil ?_
      refine ⟨.inr ⟨_, hS.pick (by repeat first | exact .here _ _ | assumption | apply Pick.there)⟩, ?_⟩
      refine p_q hap hsel 5 rfl rfl ⟨_, hS.pick (by repeat first | exact .here _ _ | assumption | apply Pick.there)⟩ (fun w hI => q_fieldAddr 10 Try.runUnderlying55 rfl Try.sizeOf3 (by decide) rfl rfl) ?_
      refine p_one 6 rfl (by kernel_rfl) ?_
      refine t_store (v := (.int _ _)) Try.sizeOf3 hS (by repeat first | exact .here _ _ | assumption | apply Pick.there) rfl rfl rfl rfl rfl rfl (fun w hS => ?_)
      replace hS := hS.recast (show blkA g9 55 _ = blkA g9 55 [.int .i64 8, .int .i64 0, .int .u64 0, .int .u64 0, .int .i64 0, .int .i64 0, .int .i64 0, .int .i64 0, .int .i64 0, .int .i64 0, .int .i64 c.rules.version, .int .u64 0] from rfl)
      refine t_nil ?_
      refine ⟨.inl (by kernel_rfl), ?_⟩
      refine p_end (by kernel_rfl) ?_
      exact ⟨_, ps1, (ap_9 hk).symm, rfl, hsub, (((((((hS.pick (A := blkA g4 49 [.int .i64 c.kind, .int .u64 c.client, .int .u64 c.req, .int .i64 c.account, .int .u64 c.id, .int .i64 c.side, .int .i64 c.typ, .int .i64 c.asset, .int .i64 c.price, .int .i64 c.qty, .int .i64 c.version, .int .i64 c.replica, .int .u64 c.at_, .int .i64 c.rules.version, .slice c.rules.ticks.A c.rules.ticks.l.length c.rules.ticks.c, .int .i64 c.rules.lot, .int .i64 c.rules.band, .slice c.rules.fees.A c.rules.fees.l.length c.rules.fees.c, .int .i64 c.rules.round, .int .i64 c.rules.priority, .int .i64 c.rules.self, .int .i64 c.rules.layout]) (by repeat first | exact .here _ _ | assumption | apply Pick.there)).drop.pick (A := rdsA _) (by repeat first | exact .here _ _ | assumption | apply Pick.there)).pick (A := regA W g _ _) (by repeat first | exact .here _ _ | assumption | apply Pick.there)).pick (A := blkA g7 55 [.int .i64 0, .int .i64 0, .int .u64 0, .int .u64 0, .int .i64 0, .int .i64 0, .int .i64 0, .int .i64 0, .int .i64 0, .int .i64 0, .int .i64 0, .int .u64 0]) (by repeat first | exact .here _ _ | assumption | apply Pick.there)).pick (A := blkA g6 34 [.int .i64 0, .int .i64 0, .int .i64 0, .int .u64 0, .int .i64 0, .pointer none, .int .i64 0, .int .u64 0, .int .u64 0, .int .u64 0, .int .u64 0, .int .u64 0, .int .u64 0, .int .u64 0]) (by repeat first | exact .here _ _ | assumption | apply Pick.there)).pick (A := blkA g9 55 _) (by repeat first | exact .here _ _ | assumption | apply Pick.there)).pick (A := blkA g3 34 _) (by repeat first | exact .here _ _ | assumption | apply Pick.there))⟩
    · intro hc2
      have hc2d := of_decide_eq_false hc2
      refine c_seq ?_
      refine c_region ?_
      refine t_q (q_eql rfl rfl) ?_
      refine t_q (q_as (.bool _) rfl) ?_
      refine t_nil ?_
      refine c_cond rfl ?_ ?_
      · intro hc5
        have hc5d := of_decide_eq_true hc5
        have hk := hc5d
        refine c_seq ?_
        refine c_seq ?_
        refine c_region ?_
        refine t_q (q_cast (v' := .agg (bdc s (some ⟨g, 0, none⟩) n a).toArray) (q_load_blk Try.isAgg34 Try.sizeOf34 rfl (hS.blk (by repeat first | exact .here _ _ | assumption | apply Pick.there)) rfl) (by rfl)) ?_
        refine t_q (q_fieldAddr 10 Try.runUnderlying49 rfl Try.sizeOf3 (by decide) rfl rfl) ?_
        refine t_q (q_load1 Try.isAgg3 rfl (hS.cell (by repeat first | exact .here _ _ | assumption | apply Pick.there) rfl)) ?_
        refine t_call Try.call79 (known_calls (s := s) (n := n) (a := a) (v := c.version) ((hS.pick (A := rdsA ps) (by repeat first | exact .here _ _ | assumption | apply Pick.there)).pick (A := regA W g M ps) (by repeat first | exact .here _ _ | assumption | apply Pick.there))) rfl ?_
        rintro e w ⟨rfl, hS⟩
        refine ⟨_, rfl, ?_⟩
        refine t_q (q_as (.int _ _) rfl) ?_
        refine t_nil ?_
        refine c_seq ?_
        refine c_region ?_
        refine t_q (q_mv (.int _ _) rfl) ?_
        refine t_q (q_eql rfl rfl) ?_
        refine t_nil ?_
        refine c_cond rfl ?_ ?_
        · intro hc8
          have hc8d := of_decide_eq_true hc8
          have h10 := hc8d
          refine c_region ?_
          refine t_q (q_fieldAddr 6 Try.runUnderlying34 rfl Try.sizeOf32 (by decide) rfl rfl) ?_
          refine t_q (q_cast (v' := .agg (tcs n a).toArray) (q_load_sub Try.isAgg32 Try.sizeOf32 rfl (hS.blk (by repeat first | exact .here _ _ | assumption | apply Pick.there)) (by show 0 + 6 + 8 ≤ 14; decide)) (by rfl)) ?_
          refine t_q (q_fieldAddr 11 Try.runUnderlying49 rfl Try.sizeOf3 (by decide) rfl rfl) ?_
          refine t_q (q_load1 Try.isAgg3 rfl (hS.cell (by repeat first | exact .here _ _ | assumption | apply Pick.there) rfl)) ?_
          refine t_q (q_fieldAddr 10 Try.runUnderlying49 rfl Try.sizeOf3 (by decide) rfl rfl) ?_
          refine t_q (q_load1 Try.isAgg3 rfl (hS.cell (by repeat first | exact .here _ _ | assumption | apply Pick.there) rfl)) ?_
          refine t_call Try.call114 (add_calls (n := n) (r := c.replica) (v := c.version) (s := a) hn.2 hs) rfl ?_
          rintro e w ⟨rfl, hT⟩
          refine ⟨_, rfl, ?_⟩
          replace hS := hS.after hT
          refine t_q (q_mv (.tuple _) rfl) ?_
          refine t_q (q_extract rfl rfl) ?_
          refine t_q (q_extract rfl rfl) ?_
          refine t_q (q_fieldAddr 6 Try.runUnderlying34 rfl Try.sizeOf32 (by decide) rfl rfl) ?_
          refine t_store (v := (.agg _)) Try.sizeOf32 hS (by repeat first | exact .here _ _ | assumption | apply Pick.there) rfl rfl rfl rfl rfl rfl (fun w hS => ?_)
          replace hS := hS.recast (show blkA g3 34 _ = blkA g3 34 [.int .i64 s.active, .int .i64 s.previous, .int .i64 s.pending, .int .u64 s.at_, .int .i64 s.shadow, .pointer (some ⟨g, 0, none⟩), .int .i64 n, .int .u64 ((if (0 ≤ c.replica ∧ c.replica < n) ∧ (1 ≤ c.version ∧ c.version ≤ 32) then addT a c.replica c.version else a) 0), .int .u64 ((if (0 ≤ c.replica ∧ c.replica < n) ∧ (1 ≤ c.version ∧ c.version ≤ 32) then addT a c.replica c.version else a) 1), .int .u64 ((if (0 ≤ c.replica ∧ c.replica < n) ∧ (1 ≤ c.version ∧ c.version ≤ 32) then addT a c.replica c.version else a) 2), .int .u64 ((if (0 ≤ c.replica ∧ c.replica < n) ∧ (1 ≤ c.version ∧ c.version ≤ 32) then addT a c.replica c.version else a) 3), .int .u64 ((if (0 ≤ c.replica ∧ c.replica < n) ∧ (1 ≤ c.version ∧ c.version ≤ 32) then addT a c.replica c.version else a) 4), .int .u64 ((if (0 ≤ c.replica ∧ c.replica < n) ∧ (1 ≤ c.version ∧ c.version ≤ 32) then addT a c.replica c.version else a) 5), .int .u64 ((if (0 ≤ c.replica ∧ c.replica < n) ∧ (1 ≤ c.version ∧ c.version ≤ 32) then addT a c.replica c.version else a) 6)] from rfl)
          refine t_q (q_as (.int _ _) rfl) ?_
          refine t_nil ?_
          refine c_draw ?_
          refine d_keep (blkA g4 49 [.int .i64 c.kind, .int .u64 c.client, .int .u64 c.req, .int .i64 c.account, .int .u64 c.id, .int .i64 c.side, .int .i64 c.typ, .int .i64 c.asset, .int .i64 c.price, .int .i64 c.qty, .int .i64 c.version, .int .i64 c.replica, .int .u64 c.at_, .int .i64 c.rules.version, .slice c.rules.ticks.A c.rules.ticks.l.length c.rules.ticks.c, .int .i64 c.rules.lot, .int .i64 c.rules.band, .slice c.rules.fees.A c.rules.fees.l.length c.rules.fees.c, .int .i64 c.rules.round, .int .i64 c.rules.priority, .int .i64 c.rules.self, .int .i64 c.rules.layout]) 6 [0, 1, 2, 3, 4, 5] [2, 3, 0, 1, 4, 5] hS rfl (by kernel_rfl) (by kernel_rfl) (by kernel_rfl) (by kernel_rfl) (fun hap hsel w hS => ?_)
          refine p_q hap hsel 0 rfl rfl ⟨_, hS.pick (by repeat first | exact .here _ _ | assumption | apply Pick.there)⟩ (fun w hI => q_fieldAddr 11 Try.runUnderlying49 rfl Try.sizeOf3 (by decide) rfl rfl) ?_
          refine p_q hap hsel 1 rfl rfl ⟨_, hS.pick (by repeat first | exact .here _ _ | assumption | apply Pick.there)⟩ (fun w hI => q_load1 Try.isAgg3 rfl (hI.choose_spec.cell (by repeat first | exact .here _ _ | assumption | apply Pick.there) rfl)) ?_
          refine p_q hap hsel 2 rfl rfl ⟨_, hS.pick (by repeat first | exact .here _ _ | assumption | apply Pick.there)⟩ (fun w hI => q_fieldAddr 0 Try.runUnderlying55 rfl Try.sizeOf3 (by decide) rfl rfl) ?_
          refine p_one 3 rfl (by kernel_rfl) ?_
          refine t_store (v := (.int _ _)) Try.sizeOf3 hS (by repeat first | exact .here _ _ | assumption | apply Pick.there) rfl rfl rfl rfl rfl rfl (fun w hS => ?_)
          replace hS := hS.recast (show blkA g9 55 _ = blkA g9 55 [.int .i64 9, .int .i64 0, .int .u64 0, .int .u64 0, .int .i64 0, .int .i64 0, .int .i64 0, .int .i64 0, .int .i64 0, .int .i64 0, .int .i64 c.version, .int .u64 0] from rfl)
          refine t_nil ?_
          refine ⟨.inr ⟨_, hS.pick (by repeat first | exact .here _ _ | assumption | apply Pick.there)⟩, ?_⟩
          refine p_q hap hsel 4 rfl rfl ⟨_, hS.pick (by repeat first | exact .here _ _ | assumption | apply Pick.there)⟩ (fun w hI => q_fieldAddr 1 Try.runUnderlying55 rfl Try.sizeOf3 (by decide) rfl rfl) ?_
          refine p_one 5 rfl (by kernel_rfl) ?_
          refine t_store (v := (.int _ _)) Try.sizeOf3 hS (by repeat first | exact .here _ _ | assumption | apply Pick.there) rfl rfl rfl rfl rfl rfl (fun w hS => ?_)
          replace hS := hS.recast (show blkA g9 55 _ = blkA g9 55 [.int .i64 9, .int .i64 c.replica, .int .u64 0, .int .u64 0, .int .i64 0, .int .i64 0, .int .i64 0, .int .i64 0, .int .i64 0, .int .i64 0, .int .i64 c.version, .int .u64 0] from rfl)
          refine t_nil ?_
          refine ⟨.inl (by kernel_rfl), ?_⟩
          refine p_end (by kernel_rfl) ?_
          exact ⟨_, ps, (ap_10a hk h10).symm, rfl, (fun _ h => h), (((((((hS.pick (A := blkA g4 49 [.int .i64 c.kind, .int .u64 c.client, .int .u64 c.req, .int .i64 c.account, .int .u64 c.id, .int .i64 c.side, .int .i64 c.typ, .int .i64 c.asset, .int .i64 c.price, .int .i64 c.qty, .int .i64 c.version, .int .i64 c.replica, .int .u64 c.at_, .int .i64 c.rules.version, .slice c.rules.ticks.A c.rules.ticks.l.length c.rules.ticks.c, .int .i64 c.rules.lot, .int .i64 c.rules.band, .slice c.rules.fees.A c.rules.fees.l.length c.rules.fees.c, .int .i64 c.rules.round, .int .i64 c.rules.priority, .int .i64 c.rules.self, .int .i64 c.rules.layout]) (by repeat first | exact .here _ _ | assumption | apply Pick.there)).drop.pick (A := rdsA _) (by repeat first | exact .here _ _ | assumption | apply Pick.there)).pick (A := regA W g _ _) (by repeat first | exact .here _ _ | assumption | apply Pick.there)).pick (A := blkA g7 55 [.int .i64 0, .int .i64 0, .int .u64 0, .int .u64 0, .int .i64 0, .int .i64 0, .int .i64 0, .int .i64 0, .int .i64 0, .int .i64 0, .int .i64 0, .int .u64 0]) (by repeat first | exact .here _ _ | assumption | apply Pick.there)).pick (A := blkA g6 34 [.int .i64 0, .int .i64 0, .int .i64 0, .int .u64 0, .int .i64 0, .pointer none, .int .i64 0, .int .u64 0, .int .u64 0, .int .u64 0, .int .u64 0, .int .u64 0, .int .u64 0, .int .u64 0]) (by repeat first | exact .here _ _ | assumption | apply Pick.there)).pick (A := blkA g9 55 _) (by repeat first | exact .here _ _ | assumption | apply Pick.there)).pick (A := blkA g3 34 _) (by repeat first | exact .here _ _ | assumption | apply Pick.there))⟩
        · intro hc8
          have hc8d := of_decide_eq_false hc8
          have h10 := hc8d
          refine c_skip ?_
          refine c_draw ?_
          refine d_keep (blkA g4 49 [.int .i64 c.kind, .int .u64 c.client, .int .u64 c.req, .int .i64 c.account, .int .u64 c.id, .int .i64 c.side, .int .i64 c.typ, .int .i64 c.asset, .int .i64 c.price, .int .i64 c.qty, .int .i64 c.version, .int .i64 c.replica, .int .u64 c.at_, .int .i64 c.rules.version, .slice c.rules.ticks.A c.rules.ticks.l.length c.rules.ticks.c, .int .i64 c.rules.lot, .int .i64 c.rules.band, .slice c.rules.fees.A c.rules.fees.l.length c.rules.fees.c, .int .i64 c.rules.round, .int .i64 c.rules.priority, .int .i64 c.rules.self, .int .i64 c.rules.layout]) 6 [0, 1, 2, 3, 4, 5] [2, 3, 0, 1, 4, 5] hS rfl (by kernel_rfl) (by kernel_rfl) (by kernel_rfl) (by kernel_rfl) (fun hap hsel w hS => ?_)
          refine p_q hap hsel 0 rfl rfl ⟨_, hS.pick (by repeat first | exact .here _ _ | assumption | apply Pick.there)⟩ (fun w hI => q_fieldAddr 11 Try.runUnderlying49 rfl Try.sizeOf3 (by decide) rfl rfl) ?_
          refine p_q hap hsel 1 rfl rfl ⟨_, hS.pick (by repeat first | exact .here _ _ | assumption | apply Pick.there)⟩ (fun w hI => q_load1 Try.isAgg3 rfl (hI.choose_spec.cell (by repeat first | exact .here _ _ | assumption | apply Pick.there) rfl)) ?_
          refine p_q hap hsel 2 rfl rfl ⟨_, hS.pick (by repeat first | exact .here _ _ | assumption | apply Pick.there)⟩ (fun w hI => q_fieldAddr 0 Try.runUnderlying55 rfl Try.sizeOf3 (by decide) rfl rfl) ?_
          refine p_one 3 rfl (by kernel_rfl) ?_
          refine t_store (v := (.int _ _)) Try.sizeOf3 hS (by repeat first | exact .here _ _ | assumption | apply Pick.there) rfl rfl rfl rfl rfl rfl (fun w hS => ?_)
          replace hS := hS.recast (show blkA g9 55 _ = blkA g9 55 [.int .i64 9, .int .i64 0, .int .u64 0, .int .u64 0, .int .i64 0, .int .i64 0, .int .i64 0, .int .i64 0, .int .i64 0, .int .i64 0, .int .i64 c.version, .int .u64 0] from rfl)
          refine t_nil ?_
          refine ⟨.inr ⟨_, hS.pick (by repeat first | exact .here _ _ | assumption | apply Pick.there)⟩, ?_⟩
          refine p_q hap hsel 4 rfl rfl ⟨_, hS.pick (by repeat first | exact .here _ _ | assumption | apply Pick.there)⟩ (fun w hI => q_fieldAddr 1 Try.runUnderlying55 rfl Try.sizeOf3 (by decide) rfl rfl) ?_
          refine p_one 5 rfl (by kernel_rfl) ?_
          refine t_store (v := (.int _ _)) Try.sizeOf3 hS (by repeat first | exact .here _ _ | assumption | apply Pick.there) rfl rfl rfl rfl rfl rfl (fun w hS => ?_)
          replace hS := hS.recast (show blkA g9 55 _ = blkA g9 55 [.int .i64 9, .int .i64 c.replica, .int .u64 0, .int .u64 0, .int .i64 0, .int .i64 0, .int .i64 0, .int .i64 0, .int .i64 0, .int .i64 0, .int .i64 c.version, .int .u64 0] from rfl)
          refine t_nil ?_
          refine ⟨.inl (by kernel_rfl), ?_⟩
          refine p_end (by kernel_rfl) ?_
          exact ⟨_, ps, (ap_10b hk h10).symm, rfl, (fun _ h => h), (((((((hS.pick (A := blkA g4 49 [.int .i64 c.kind, .int .u64 c.client, .int .u64 c.req, .int .i64 c.account, .int .u64 c.id, .int .i64 c.side, .int .i64 c.typ, .int .i64 c.asset, .int .i64 c.price, .int .i64 c.qty, .int .i64 c.version, .int .i64 c.replica, .int .u64 c.at_, .int .i64 c.rules.version, .slice c.rules.ticks.A c.rules.ticks.l.length c.rules.ticks.c, .int .i64 c.rules.lot, .int .i64 c.rules.band, .slice c.rules.fees.A c.rules.fees.l.length c.rules.fees.c, .int .i64 c.rules.round, .int .i64 c.rules.priority, .int .i64 c.rules.self, .int .i64 c.rules.layout]) (by repeat first | exact .here _ _ | assumption | apply Pick.there)).drop.pick (A := rdsA _) (by repeat first | exact .here _ _ | assumption | apply Pick.there)).pick (A := regA W g _ _) (by repeat first | exact .here _ _ | assumption | apply Pick.there)).pick (A := blkA g7 55 [.int .i64 0, .int .i64 0, .int .u64 0, .int .u64 0, .int .i64 0, .int .i64 0, .int .i64 0, .int .i64 0, .int .i64 0, .int .i64 0, .int .i64 0, .int .u64 0]) (by repeat first | exact .here _ _ | assumption | apply Pick.there)).pick (A := blkA g6 34 [.int .i64 0, .int .i64 0, .int .i64 0, .int .u64 0, .int .i64 0, .pointer none, .int .i64 0, .int .u64 0, .int .u64 0, .int .u64 0, .int .u64 0, .int .u64 0, .int .u64 0, .int .u64 0]) (by repeat first | exact .here _ _ | assumption | apply Pick.there)).pick (A := blkA g9 55 _) (by repeat first | exact .here _ _ | assumption | apply Pick.there)).pick (A := blkA g3 34 _) (by repeat first | exact .here _ _ | assumption | apply Pick.there))⟩
      · intro hc5
        have hc5d := of_decide_eq_false hc5
        refine c_seq ?_
        refine c_region ?_
        refine t_q (q_eql rfl rfl) ?_
        refine t_q (q_as (.bool _) rfl) ?_
        refine t_nil ?_
        refine c_cond rfl ?_ ?_
        · intro hc13
          have hc13d := of_decide_eq_true hc13
          have hk := hc13d
          refine c_seq ?_
          refine c_seq ?_
          refine c_draw ?_
          refine d_keep2 (blkA g3 34 [.int .i64 s.active, .int .i64 s.previous, .int .i64 s.pending, .int .u64 s.at_, .int .i64 s.shadow, .pointer (some ⟨g, 0, none⟩), .int .i64 n, .int .u64 (a 0), .int .u64 (a 1), .int .u64 (a 2), .int .u64 (a 3), .int .u64 (a 4), .int .u64 (a 5), .int .u64 (a 6)]) (blkA g4 49 [.int .i64 c.kind, .int .u64 c.client, .int .u64 c.req, .int .i64 c.account, .int .u64 c.id, .int .i64 c.side, .int .i64 c.typ, .int .i64 c.asset, .int .i64 c.price, .int .i64 c.qty, .int .i64 c.version, .int .i64 c.replica, .int .u64 c.at_, .int .i64 c.rules.version, .slice c.rules.ticks.A c.rules.ticks.l.length c.rules.ticks.c, .int .i64 c.rules.lot, .int .i64 c.rules.band, .slice c.rules.fees.A c.rules.fees.l.length c.rules.fees.c, .int .i64 c.rules.round, .int .i64 c.rules.priority, .int .i64 c.rules.self, .int .i64 c.rules.layout]) 9 [0, 1, 2, 3, 4, 5, 6, 7, 8] [0, 1, 2, 3, 4, 5, 6, 7, 8] hS rfl (by kernel_rfl) (by kernel_rfl) (by kernel_rfl) (by kernel_rfl) (fun hap hsel w hS => ?_)
          refine p_q hap hsel 0 rfl rfl ⟨_, ((hS.pick (A := blkA g4 49 [.int .i64 c.kind, .int .u64 c.client, .int .u64 c.req, .int .i64 c.account, .int .u64 c.id, .int .i64 c.side, .int .i64 c.typ, .int .i64 c.asset, .int .i64 c.price, .int .i64 c.qty, .int .i64 c.version, .int .i64 c.replica, .int .u64 c.at_, .int .i64 c.rules.version, .slice c.rules.ticks.A c.rules.ticks.l.length c.rules.ticks.c, .int .i64 c.rules.lot, .int .i64 c.rules.band, .slice c.rules.fees.A c.rules.fees.l.length c.rules.fees.c, .int .i64 c.rules.round, .int .i64 c.rules.priority, .int .i64 c.rules.self, .int .i64 c.rules.layout]) (by repeat first | exact .here _ _ | assumption | apply Pick.there)).pick (A := blkA g3 34 [.int .i64 s.active, .int .i64 s.previous, .int .i64 s.pending, .int .u64 s.at_, .int .i64 s.shadow, .pointer (some ⟨g, 0, none⟩), .int .i64 n, .int .u64 (a 0), .int .u64 (a 1), .int .u64 (a 2), .int .u64 (a 3), .int .u64 (a 4), .int .u64 (a 5), .int .u64 (a 6)]) (by repeat first | exact .here _ _ | assumption | apply Pick.there))⟩ (fun w hI => (q_cast (v' := .agg (bdc s (some ⟨g, 0, none⟩) n a).toArray) (q_load_blk Try.isAgg34 Try.sizeOf34 rfl (hI.choose_spec.blk (by repeat first | exact .here _ _ | assumption | apply Pick.there)) rfl) (by rfl))) ?_
          refine p_q hap hsel 1 rfl rfl ⟨_, ((hS.pick (A := blkA g4 49 [.int .i64 c.kind, .int .u64 c.client, .int .u64 c.req, .int .i64 c.account, .int .u64 c.id, .int .i64 c.side, .int .i64 c.typ, .int .i64 c.asset, .int .i64 c.price, .int .i64 c.qty, .int .i64 c.version, .int .i64 c.replica, .int .u64 c.at_, .int .i64 c.rules.version, .slice c.rules.ticks.A c.rules.ticks.l.length c.rules.ticks.c, .int .i64 c.rules.lot, .int .i64 c.rules.band, .slice c.rules.fees.A c.rules.fees.l.length c.rules.fees.c, .int .i64 c.rules.round, .int .i64 c.rules.priority, .int .i64 c.rules.self, .int .i64 c.rules.layout]) (by repeat first | exact .here _ _ | assumption | apply Pick.there)).pick (A := blkA g3 34 [.int .i64 s.active, .int .i64 s.previous, .int .i64 s.pending, .int .u64 s.at_, .int .i64 s.shadow, .pointer (some ⟨g, 0, none⟩), .int .i64 n, .int .u64 (a 0), .int .u64 (a 1), .int .u64 (a 2), .int .u64 (a 3), .int .u64 (a 4), .int .u64 (a 5), .int .u64 (a 6)]) (by repeat first | exact .here _ _ | assumption | apply Pick.there))⟩ (fun w hI => q_fieldAddr 10 Try.runUnderlying49 rfl Try.sizeOf3 (by decide) rfl rfl) ?_
          refine p_q hap hsel 2 rfl rfl ⟨_, ((hS.pick (A := blkA g4 49 [.int .i64 c.kind, .int .u64 c.client, .int .u64 c.req, .int .i64 c.account, .int .u64 c.id, .int .i64 c.side, .int .i64 c.typ, .int .i64 c.asset, .int .i64 c.price, .int .i64 c.qty, .int .i64 c.version, .int .i64 c.replica, .int .u64 c.at_, .int .i64 c.rules.version, .slice c.rules.ticks.A c.rules.ticks.l.length c.rules.ticks.c, .int .i64 c.rules.lot, .int .i64 c.rules.band, .slice c.rules.fees.A c.rules.fees.l.length c.rules.fees.c, .int .i64 c.rules.round, .int .i64 c.rules.priority, .int .i64 c.rules.self, .int .i64 c.rules.layout]) (by repeat first | exact .here _ _ | assumption | apply Pick.there)).pick (A := blkA g3 34 [.int .i64 s.active, .int .i64 s.previous, .int .i64 s.pending, .int .u64 s.at_, .int .i64 s.shadow, .pointer (some ⟨g, 0, none⟩), .int .i64 n, .int .u64 (a 0), .int .u64 (a 1), .int .u64 (a 2), .int .u64 (a 3), .int .u64 (a 4), .int .u64 (a 5), .int .u64 (a 6)]) (by repeat first | exact .here _ _ | assumption | apply Pick.there))⟩ (fun w hI => q_load1 Try.isAgg3 rfl (hI.choose_spec.cell (by repeat first | exact .here _ _ | assumption | apply Pick.there) rfl)) ?_
          refine p_q hap hsel 3 rfl rfl ⟨_, ((hS.pick (A := blkA g4 49 [.int .i64 c.kind, .int .u64 c.client, .int .u64 c.req, .int .i64 c.account, .int .u64 c.id, .int .i64 c.side, .int .i64 c.typ, .int .i64 c.asset, .int .i64 c.price, .int .i64 c.qty, .int .i64 c.version, .int .i64 c.replica, .int .u64 c.at_, .int .i64 c.rules.version, .slice c.rules.ticks.A c.rules.ticks.l.length c.rules.ticks.c, .int .i64 c.rules.lot, .int .i64 c.rules.band, .slice c.rules.fees.A c.rules.fees.l.length c.rules.fees.c, .int .i64 c.rules.round, .int .i64 c.rules.priority, .int .i64 c.rules.self, .int .i64 c.rules.layout]) (by repeat first | exact .here _ _ | assumption | apply Pick.there)).pick (A := blkA g3 34 [.int .i64 s.active, .int .i64 s.previous, .int .i64 s.pending, .int .u64 s.at_, .int .i64 s.shadow, .pointer (some ⟨g, 0, none⟩), .int .i64 n, .int .u64 (a 0), .int .u64 (a 1), .int .u64 (a 2), .int .u64 (a 3), .int .u64 (a 4), .int .u64 (a 5), .int .u64 (a 6)]) (by repeat first | exact .here _ _ | assumption | apply Pick.there))⟩ (fun w hI => q_mv (.pointer _) rfl) ?_
          refine p_q hap hsel 4 rfl rfl ⟨_, ((hS.pick (A := blkA g4 49 [.int .i64 c.kind, .int .u64 c.client, .int .u64 c.req, .int .i64 c.account, .int .u64 c.id, .int .i64 c.side, .int .i64 c.typ, .int .i64 c.asset, .int .i64 c.price, .int .i64 c.qty, .int .i64 c.version, .int .i64 c.replica, .int .u64 c.at_, .int .i64 c.rules.version, .slice c.rules.ticks.A c.rules.ticks.l.length c.rules.ticks.c, .int .i64 c.rules.lot, .int .i64 c.rules.band, .slice c.rules.fees.A c.rules.fees.l.length c.rules.fees.c, .int .i64 c.rules.round, .int .i64 c.rules.priority, .int .i64 c.rules.self, .int .i64 c.rules.layout]) (by repeat first | exact .here _ _ | assumption | apply Pick.there)).pick (A := blkA g3 34 [.int .i64 s.active, .int .i64 s.previous, .int .i64 s.pending, .int .u64 s.at_, .int .i64 s.shadow, .pointer (some ⟨g, 0, none⟩), .int .i64 n, .int .u64 (a 0), .int .u64 (a 1), .int .u64 (a 2), .int .u64 (a 3), .int .u64 (a 4), .int .u64 (a 5), .int .u64 (a 6)]) (by repeat first | exact .here _ _ | assumption | apply Pick.there))⟩ (fun w hI => q_nilCheck rfl) ?_
          refine p_q hap hsel 5 rfl rfl ⟨_, ((hS.pick (A := blkA g4 49 [.int .i64 c.kind, .int .u64 c.client, .int .u64 c.req, .int .i64 c.account, .int .u64 c.id, .int .i64 c.side, .int .i64 c.typ, .int .i64 c.asset, .int .i64 c.price, .int .i64 c.qty, .int .i64 c.version, .int .i64 c.replica, .int .u64 c.at_, .int .i64 c.rules.version, .slice c.rules.ticks.A c.rules.ticks.l.length c.rules.ticks.c, .int .i64 c.rules.lot, .int .i64 c.rules.band, .slice c.rules.fees.A c.rules.fees.l.length c.rules.fees.c, .int .i64 c.rules.round, .int .i64 c.rules.priority, .int .i64 c.rules.self, .int .i64 c.rules.layout]) (by repeat first | exact .here _ _ | assumption | apply Pick.there)).pick (A := blkA g3 34 [.int .i64 s.active, .int .i64 s.previous, .int .i64 s.pending, .int .u64 s.at_, .int .i64 s.shadow, .pointer (some ⟨g, 0, none⟩), .int .i64 n, .int .u64 (a 0), .int .u64 (a 1), .int .u64 (a 2), .int .u64 (a 3), .int .u64 (a 4), .int .u64 (a 5), .int .u64 (a 6)]) (by repeat first | exact .here _ _ | assumption | apply Pick.there))⟩ (fun w hI => q_fieldAddr 4 Try.runUnderlying28 rfl Try.sizeOf3 (by decide) rfl rfl) ?_
          refine p_q hap hsel 6 rfl rfl ⟨_, ((hS.pick (A := blkA g4 49 [.int .i64 c.kind, .int .u64 c.client, .int .u64 c.req, .int .i64 c.account, .int .u64 c.id, .int .i64 c.side, .int .i64 c.typ, .int .i64 c.asset, .int .i64 c.price, .int .i64 c.qty, .int .i64 c.version, .int .i64 c.replica, .int .u64 c.at_, .int .i64 c.rules.version, .slice c.rules.ticks.A c.rules.ticks.l.length c.rules.ticks.c, .int .i64 c.rules.lot, .int .i64 c.rules.band, .slice c.rules.fees.A c.rules.fees.l.length c.rules.fees.c, .int .i64 c.rules.round, .int .i64 c.rules.priority, .int .i64 c.rules.self, .int .i64 c.rules.layout]) (by repeat first | exact .here _ _ | assumption | apply Pick.there)).pick (A := blkA g3 34 [.int .i64 s.active, .int .i64 s.previous, .int .i64 s.pending, .int .u64 s.at_, .int .i64 s.shadow, .pointer (some ⟨g, 0, none⟩), .int .i64 n, .int .u64 (a 0), .int .u64 (a 1), .int .u64 (a 2), .int .u64 (a 3), .int .u64 (a 4), .int .u64 (a 5), .int .u64 (a 6)]) (by repeat first | exact .here _ _ | assumption | apply Pick.there))⟩ (fun w hI => q_load1 Try.isAgg3 rfl (hI.choose_spec.cell (by repeat first | exact .here _ _ | assumption | apply Pick.there) rfl)) ?_
          refine p_one 7 rfl (by kernel_rfl) ?_
          refine t_call Try.call115 (ready_calls (s := s) (n := n) (a := a) (v := c.version) (busy := s.shadow) ((hS.pick (A := rdsA ps) (by repeat first | exact .here _ _ | assumption | apply Pick.there)).pick (A := regA W g M ps) (by repeat first | exact .here _ _ | assumption | apply Pick.there))) rfl ?_
          rintro e w ⟨rfl, hS⟩
          refine ⟨_, rfl, ?_⟩
          refine t_nil ?_
          refine ⟨.inr ⟨_, ((hS.pick (A := blkA g4 49 [.int .i64 c.kind, .int .u64 c.client, .int .u64 c.req, .int .i64 c.account, .int .u64 c.id, .int .i64 c.side, .int .i64 c.typ, .int .i64 c.asset, .int .i64 c.price, .int .i64 c.qty, .int .i64 c.version, .int .i64 c.replica, .int .u64 c.at_, .int .i64 c.rules.version, .slice c.rules.ticks.A c.rules.ticks.l.length c.rules.ticks.c, .int .i64 c.rules.lot, .int .i64 c.rules.band, .slice c.rules.fees.A c.rules.fees.l.length c.rules.fees.c, .int .i64 c.rules.round, .int .i64 c.rules.priority, .int .i64 c.rules.self, .int .i64 c.rules.layout]) (by repeat first | exact .here _ _ | assumption | apply Pick.there)).pick (A := blkA g3 34 [.int .i64 s.active, .int .i64 s.previous, .int .i64 s.pending, .int .u64 s.at_, .int .i64 s.shadow, .pointer (some ⟨g, 0, none⟩), .int .i64 n, .int .u64 (a 0), .int .u64 (a 1), .int .u64 (a 2), .int .u64 (a 3), .int .u64 (a 4), .int .u64 (a 5), .int .u64 (a 6)]) (by repeat first | exact .here _ _ | assumption | apply Pick.there))⟩, ?_⟩
          refine p_q hap hsel 8 rfl rfl ⟨_, ((hS.pick (A := blkA g4 49 [.int .i64 c.kind, .int .u64 c.client, .int .u64 c.req, .int .i64 c.account, .int .u64 c.id, .int .i64 c.side, .int .i64 c.typ, .int .i64 c.asset, .int .i64 c.price, .int .i64 c.qty, .int .i64 c.version, .int .i64 c.replica, .int .u64 c.at_, .int .i64 c.rules.version, .slice c.rules.ticks.A c.rules.ticks.l.length c.rules.ticks.c, .int .i64 c.rules.lot, .int .i64 c.rules.band, .slice c.rules.fees.A c.rules.fees.l.length c.rules.fees.c, .int .i64 c.rules.round, .int .i64 c.rules.priority, .int .i64 c.rules.self, .int .i64 c.rules.layout]) (by repeat first | exact .here _ _ | assumption | apply Pick.there)).pick (A := blkA g3 34 [.int .i64 s.active, .int .i64 s.previous, .int .i64 s.pending, .int .u64 s.at_, .int .i64 s.shadow, .pointer (some ⟨g, 0, none⟩), .int .i64 n, .int .u64 (a 0), .int .u64 (a 1), .int .u64 (a 2), .int .u64 (a 3), .int .u64 (a 4), .int .u64 (a 5), .int .u64 (a 6)]) (by repeat first | exact .here _ _ | assumption | apply Pick.there))⟩ (fun w hI => q_as (.int _ _) rfl) ?_
          refine p_end (by kernel_rfl) ?_
          refine c_seq ?_
          refine c_region ?_
          refine t_q (q_mv (.int _ _) rfl) ?_
          refine t_q (q_eql rfl rfl) ?_
          refine t_q (q_mv (.bool _) rfl) ?_
          refine t_case 65 rfl ?_ ?_
          · intro hg16
            have hg16d := of_decide_eq_true hg16
            refine t_yes rfl rfl hg16 ?_
            refine t_q (q_fieldAddr 6 Try.runUnderlying34 rfl Try.sizeOf32 (by decide) rfl rfl) ?_
            refine t_yes rfl rfl hg16 ?_
            refine t_q (q_cast (v' := .agg (tcs n a).toArray) (q_load_sub Try.isAgg32 Try.sizeOf32 rfl (hS.blk (by repeat first | exact .here _ _ | assumption | apply Pick.there)) (by show 0 + 6 + 8 ≤ 14; decide)) (by rfl)) ?_
            refine t_yes rfl rfl hg16 ?_
            refine t_q (q_fieldAddr 10 Try.runUnderlying49 rfl Try.sizeOf3 (by decide) rfl rfl) ?_
            refine t_yes rfl rfl hg16 ?_
            refine t_q (q_load1 Try.isAgg3 rfl (hS.cell (by repeat first | exact .here _ _ | assumption | apply Pick.there) rfl)) ?_
            refine t_yes rfl rfl hg16 ?_
            refine t_call Try.call19 (all_calls (n := n) (v := c.version) (s := a) hn hs) rfl ?_
            rintro e w ⟨rfl, hT⟩
            refine ⟨_, rfl, ?_⟩
            replace hS := hS.after hT
            refine t_yes rfl rfl hg16 ?_
            refine t_q (q_not rfl) ?_
            refine t_q (q_pick_t rfl hg16) ?_
            refine t_nil ?_
            refine c_cond rfl ?_ ?_
            · intro hc18
              have hr0 : vreadyE M s c.version s.shadow = 0 := by omega
              have ha0 : allT n a c.version = false := bnt (by assumption : (!allT n a c.version) = true)
              refine c_region ?_
              refine t_q (q_assign) ?_
              refine t_nil ?_
              refine c_region ?_
              refine t_q (q_mv (.pointer _) rfl) ?_
              refine t_q (q_fieldAddr 10 Try.runUnderlying49 rfl Try.sizeOf3 (by decide) rfl rfl) ?_
              refine t_q (q_load1 Try.isAgg3 rfl (hS.cell (by repeat first | exact .here _ _ | assumption | apply Pick.there) rfl)) ?_
              refine t_q (q_nilCheck rfl) ?_
              refine t_q (q_fieldAddr 4 Try.runUnderlying28 rfl Try.sizeOf3 (by decide) rfl rfl) ?_
              refine t_store (v := (.int _ _)) Try.sizeOf3 hS (by repeat first | exact .here _ _ | assumption | apply Pick.there) rfl rfl rfl rfl rfl rfl (fun w hS => ?_)
              replace hS := hS.recast (show blkA g3 34 _ = blkA g3 34 [.int .i64 ({ s with shadow := c.version } : StV).active, .int .i64 ({ s with shadow := c.version } : StV).previous, .int .i64 ({ s with shadow := c.version } : StV).pending, .int .u64 ({ s with shadow := c.version } : StV).at_, .int .i64 ({ s with shadow := c.version } : StV).shadow, .pointer (some ⟨g, 0, none⟩), .int .i64 n, .int .u64 (a 0), .int .u64 (a 1), .int .u64 (a 2), .int .u64 (a 3), .int .u64 (a 4), .int .u64 (a 5), .int .u64 (a 6)] from rfl)
              refine t_q (q_fieldAddr 0 Try.runUnderlying55 rfl Try.sizeOf3 (by decide) rfl rfl) ?_
              refine t_store (v := (.int _ _)) Try.sizeOf3 hS (by repeat first | exact .here _ _ | assumption | apply Pick.there) rfl rfl rfl rfl rfl rfl (fun w hS => ?_)
              replace hS := hS.recast (show blkA g9 55 _ = blkA g9 55 [.int .i64 10, .int .i64 0, .int .u64 0, .int .u64 0, .int .i64 0, .int .i64 0, .int .i64 0, .int .i64 0, .int .i64 0, .int .i64 0, .int .i64 c.version, .int .u64 0] from rfl)
              refine t_nil ?_
              exact ⟨_, ps, (ap_11a hk hr0 ha0).symm, rfl, (fun _ h => h), (((((((hS.pick (A := blkA g4 49 [.int .i64 c.kind, .int .u64 c.client, .int .u64 c.req, .int .i64 c.account, .int .u64 c.id, .int .i64 c.side, .int .i64 c.typ, .int .i64 c.asset, .int .i64 c.price, .int .i64 c.qty, .int .i64 c.version, .int .i64 c.replica, .int .u64 c.at_, .int .i64 c.rules.version, .slice c.rules.ticks.A c.rules.ticks.l.length c.rules.ticks.c, .int .i64 c.rules.lot, .int .i64 c.rules.band, .slice c.rules.fees.A c.rules.fees.l.length c.rules.fees.c, .int .i64 c.rules.round, .int .i64 c.rules.priority, .int .i64 c.rules.self, .int .i64 c.rules.layout]) (by repeat first | exact .here _ _ | assumption | apply Pick.there)).drop.pick (A := rdsA _) (by repeat first | exact .here _ _ | assumption | apply Pick.there)).pick (A := regA W g _ _) (by repeat first | exact .here _ _ | assumption | apply Pick.there)).pick (A := blkA g7 55 [.int .i64 0, .int .i64 0, .int .u64 0, .int .u64 0, .int .i64 0, .int .i64 0, .int .i64 0, .int .i64 0, .int .i64 0, .int .i64 0, .int .i64 0, .int .u64 0]) (by repeat first | exact .here _ _ | assumption | apply Pick.there)).pick (A := blkA g6 34 [.int .i64 0, .int .i64 0, .int .i64 0, .int .u64 0, .int .i64 0, .pointer none, .int .i64 0, .int .u64 0, .int .u64 0, .int .u64 0, .int .u64 0, .int .u64 0, .int .u64 0, .int .u64 0]) (by repeat first | exact .here _ _ | assumption | apply Pick.there)).pick (A := blkA g9 55 _) (by repeat first | exact .here _ _ | assumption | apply Pick.there)).pick (A := blkA g3 34 _) (by repeat first | exact .here _ _ | assumption | apply Pick.there))⟩
            · intro hc18
              have hna : ¬ (vreadyE M s c.version s.shadow = 0 ∧ allT n a c.version = false) := by
                first
                  | (rw [bnf (by assumption : (!allT n a c.version) = false)]; exact fun h => by cases h.2)
                  | exact fun h => by omega
              refine c_skip ?_
              refine c_region ?_
              refine t_q (q_mv (.pointer _) rfl) ?_
              refine t_q (q_fieldAddr 10 Try.runUnderlying49 rfl Try.sizeOf3 (by decide) rfl rfl) ?_
              refine t_q (q_load1 Try.isAgg3 rfl (hS.cell (by repeat first | exact .here _ _ | assumption | apply Pick.there) rfl)) ?_
              refine t_q (q_nilCheck rfl) ?_
              refine t_q (q_fieldAddr 4 Try.runUnderlying28 rfl Try.sizeOf3 (by decide) rfl rfl) ?_
              refine t_store (v := (.int _ _)) Try.sizeOf3 hS (by repeat first | exact .here _ _ | assumption | apply Pick.there) rfl rfl rfl rfl rfl rfl (fun w hS => ?_)
              replace hS := hS.recast (show blkA g3 34 _ = blkA g3 34 [.int .i64 ({ s with shadow := c.version } : StV).active, .int .i64 ({ s with shadow := c.version } : StV).previous, .int .i64 ({ s with shadow := c.version } : StV).pending, .int .u64 ({ s with shadow := c.version } : StV).at_, .int .i64 ({ s with shadow := c.version } : StV).shadow, .pointer (some ⟨g, 0, none⟩), .int .i64 n, .int .u64 (a 0), .int .u64 (a 1), .int .u64 (a 2), .int .u64 (a 3), .int .u64 (a 4), .int .u64 (a 5), .int .u64 (a 6)] from rfl)
              refine t_q (q_fieldAddr 0 Try.runUnderlying55 rfl Try.sizeOf3 (by decide) rfl rfl) ?_
              refine t_store (v := (.int _ _)) Try.sizeOf3 hS (by repeat first | exact .here _ _ | assumption | apply Pick.there) rfl rfl rfl rfl rfl rfl (fun w hS => ?_)
              replace hS := hS.recast (show blkA g9 55 _ = blkA g9 55 [.int .i64 10, .int .i64 0, .int .u64 0, .int .u64 0, .int .i64 0, .int .i64 0, .int .i64 0, .int .i64 0, .int .i64 0, .int .i64 0, .int .i64 c.version, .int .u64 0] from rfl)
              refine t_nil ?_
              exact ⟨_, ps, (ap_11b hk hna).symm, rfl, (fun _ h => h), (((((((hS.pick (A := blkA g4 49 [.int .i64 c.kind, .int .u64 c.client, .int .u64 c.req, .int .i64 c.account, .int .u64 c.id, .int .i64 c.side, .int .i64 c.typ, .int .i64 c.asset, .int .i64 c.price, .int .i64 c.qty, .int .i64 c.version, .int .i64 c.replica, .int .u64 c.at_, .int .i64 c.rules.version, .slice c.rules.ticks.A c.rules.ticks.l.length c.rules.ticks.c, .int .i64 c.rules.lot, .int .i64 c.rules.band, .slice c.rules.fees.A c.rules.fees.l.length c.rules.fees.c, .int .i64 c.rules.round, .int .i64 c.rules.priority, .int .i64 c.rules.self, .int .i64 c.rules.layout]) (by repeat first | exact .here _ _ | assumption | apply Pick.there)).drop.pick (A := rdsA _) (by repeat first | exact .here _ _ | assumption | apply Pick.there)).pick (A := regA W g _ _) (by repeat first | exact .here _ _ | assumption | apply Pick.there)).pick (A := blkA g7 55 [.int .i64 0, .int .i64 0, .int .u64 0, .int .u64 0, .int .i64 0, .int .i64 0, .int .i64 0, .int .i64 0, .int .i64 0, .int .i64 0, .int .i64 0, .int .u64 0]) (by repeat first | exact .here _ _ | assumption | apply Pick.there)).pick (A := blkA g6 34 [.int .i64 0, .int .i64 0, .int .i64 0, .int .u64 0, .int .i64 0, .pointer none, .int .i64 0, .int .u64 0, .int .u64 0, .int .u64 0, .int .u64 0, .int .u64 0, .int .u64 0, .int .u64 0]) (by repeat first | exact .here _ _ | assumption | apply Pick.there)).pick (A := blkA g9 55 _) (by repeat first | exact .here _ _ | assumption | apply Pick.there)).pick (A := blkA g3 34 _) (by repeat first | exact .here _ _ | assumption | apply Pick.there))⟩
          · intro hg16
            have hg16d := of_decide_eq_false hg16
            refine t_no rfl rfl (by rw [hg16]; decide) ?_
            refine t_no rfl rfl (by rw [hg16]; decide) ?_
            refine t_no rfl rfl (by rw [hg16]; decide) ?_
            refine t_no rfl rfl (by rw [hg16]; decide) ?_
            refine t_no rfl rfl (by rw [hg16]; decide) ?_
            refine t_no rfl rfl (by rw [hg16]; decide) ?_
            refine t_q (q_pick_f rfl hg16) ?_
            refine t_nil ?_
            refine c_cond_f rfl rfl ?_
            have hna : ¬ (vreadyE M s c.version s.shadow = 0 ∧ allT n a c.version = false) := by
              first
                | (rw [bnf (by assumption : (!allT n a c.version) = false)]; exact fun h => by cases h.2)
                | exact fun h => by omega
            refine c_skip ?_
            refine c_region ?_
            refine t_q (q_mv (.pointer _) rfl) ?_
            refine t_q (q_fieldAddr 10 Try.runUnderlying49 rfl Try.sizeOf3 (by decide) rfl rfl) ?_
            refine t_q (q_load1 Try.isAgg3 rfl (hS.cell (by repeat first | exact .here _ _ | assumption | apply Pick.there) rfl)) ?_
            refine t_q (q_nilCheck rfl) ?_
            refine t_q (q_fieldAddr 4 Try.runUnderlying28 rfl Try.sizeOf3 (by decide) rfl rfl) ?_
            refine t_store (v := (.int _ _)) Try.sizeOf3 hS (by repeat first | exact .here _ _ | assumption | apply Pick.there) rfl rfl rfl rfl rfl rfl (fun w hS => ?_)
            replace hS := hS.recast (show blkA g3 34 _ = blkA g3 34 [.int .i64 ({ s with shadow := c.version } : StV).active, .int .i64 ({ s with shadow := c.version } : StV).previous, .int .i64 ({ s with shadow := c.version } : StV).pending, .int .u64 ({ s with shadow := c.version } : StV).at_, .int .i64 ({ s with shadow := c.version } : StV).shadow, .pointer (some ⟨g, 0, none⟩), .int .i64 n, .int .u64 (a 0), .int .u64 (a 1), .int .u64 (a 2), .int .u64 (a 3), .int .u64 (a 4), .int .u64 (a 5), .int .u64 (a 6)] from rfl)
            refine t_q (q_fieldAddr 0 Try.runUnderlying55 rfl Try.sizeOf3 (by decide) rfl rfl) ?_
            refine t_store (v := (.int _ _)) Try.sizeOf3 hS (by repeat first | exact .here _ _ | assumption | apply Pick.there) rfl rfl rfl rfl rfl rfl (fun w hS => ?_)
            replace hS := hS.recast (show blkA g9 55 _ = blkA g9 55 [.int .i64 10, .int .i64 0, .int .u64 0, .int .u64 0, .int .i64 0, .int .i64 0, .int .i64 0, .int .i64 0, .int .i64 0, .int .i64 0, .int .i64 c.version, .int .u64 0] from rfl)
            refine t_nil ?_
            exact ⟨_, ps, (ap_11b hk hna).symm, rfl, (fun _ h => h), (((((((hS.pick (A := blkA g4 49 [.int .i64 c.kind, .int .u64 c.client, .int .u64 c.req, .int .i64 c.account, .int .u64 c.id, .int .i64 c.side, .int .i64 c.typ, .int .i64 c.asset, .int .i64 c.price, .int .i64 c.qty, .int .i64 c.version, .int .i64 c.replica, .int .u64 c.at_, .int .i64 c.rules.version, .slice c.rules.ticks.A c.rules.ticks.l.length c.rules.ticks.c, .int .i64 c.rules.lot, .int .i64 c.rules.band, .slice c.rules.fees.A c.rules.fees.l.length c.rules.fees.c, .int .i64 c.rules.round, .int .i64 c.rules.priority, .int .i64 c.rules.self, .int .i64 c.rules.layout]) (by repeat first | exact .here _ _ | assumption | apply Pick.there)).drop.pick (A := rdsA _) (by repeat first | exact .here _ _ | assumption | apply Pick.there)).pick (A := regA W g _ _) (by repeat first | exact .here _ _ | assumption | apply Pick.there)).pick (A := blkA g7 55 [.int .i64 0, .int .i64 0, .int .u64 0, .int .u64 0, .int .i64 0, .int .i64 0, .int .i64 0, .int .i64 0, .int .i64 0, .int .i64 0, .int .i64 0, .int .u64 0]) (by repeat first | exact .here _ _ | assumption | apply Pick.there)).pick (A := blkA g6 34 [.int .i64 0, .int .i64 0, .int .i64 0, .int .u64 0, .int .i64 0, .pointer none, .int .i64 0, .int .u64 0, .int .u64 0, .int .u64 0, .int .u64 0, .int .u64 0, .int .u64 0, .int .u64 0]) (by repeat first | exact .here _ _ | assumption | apply Pick.there)).pick (A := blkA g9 55 _) (by repeat first | exact .here _ _ | assumption | apply Pick.there)).pick (A := blkA g3 34 _) (by repeat first | exact .here _ _ | assumption | apply Pick.there))⟩
        · intro hc13
          have hc13d := of_decide_eq_false hc13
          refine c_seq ?_
          refine c_region ?_
          refine t_q (q_eql rfl rfl) ?_
          refine t_q (q_as (.bool _) rfl) ?_
          refine t_nil ?_
          refine c_cond rfl ?_ ?_
          · intro hc20
            have hc20d := of_decide_eq_true hc20
            have hk := hc20d
            refine c_seq ?_
            refine c_seq ?_
            refine c_region ?_
            refine t_q (q_mv (.pointer _) rfl) ?_
            refine t_q (q_nilCheck rfl) ?_
            refine t_q (q_fieldAddr 4 Try.runUnderlying28 rfl Try.sizeOf3 (by decide) rfl rfl) ?_
            refine t_q (q_load1 Try.isAgg3 rfl (hS.cell (by repeat first | exact .here _ _ | assumption | apply Pick.there) rfl)) ?_
            refine t_q (q_eql rfl rfl) ?_
            refine t_nil ?_
            refine c_cond rfl ?_ ?_
            · intro hc22
              have hc22d := of_decide_eq_true hc22
              have h12 := hc22d
              refine c_region ?_
              refine t_q (q_assign) ?_
              refine t_nil ?_
              refine c_draw ?_
              refine d_keep (blkA g3 34 [.int .i64 s.active, .int .i64 s.previous, .int .i64 s.pending, .int .u64 s.at_, .int .i64 s.shadow, .pointer (some ⟨g, 0, none⟩), .int .i64 n, .int .u64 (a 0), .int .u64 (a 1), .int .u64 (a 2), .int .u64 (a 3), .int .u64 (a 4), .int .u64 (a 5), .int .u64 (a 6)]) 12 [0, 1, 2, 3, 4, 5, 6, 7, 8, 9, 10, 11] [5, 6, 1, 2, 3, 4, 7, 8, 0, 9, 10, 11] hS rfl (by kernel_rfl) (by kernel_rfl) (by kernel_rfl) (by kernel_rfl) (fun hap hsel w hS => ?_)
              refine p_q hap hsel 0 rfl rfl ⟨_, hS.pick (by repeat first | exact .here _ _ | assumption | apply Pick.there)⟩ (fun w hI => q_mv (.pointer _) rfl) ?_
              refine p_q hap hsel 1 rfl rfl ⟨_, hS.pick (by repeat first | exact .here _ _ | assumption | apply Pick.there)⟩ (fun w hI => q_mv (.pointer _) rfl) ?_
              refine p_q hap hsel 2 rfl rfl ⟨_, hS.pick (by repeat first | exact .here _ _ | assumption | apply Pick.there)⟩ (fun w hI => q_nilCheck rfl) ?_
              refine p_q hap hsel 3 rfl rfl ⟨_, hS.pick (by repeat first | exact .here _ _ | assumption | apply Pick.there)⟩ (fun w hI => q_fieldAddr 4 Try.runUnderlying28 rfl Try.sizeOf3 (by decide) rfl rfl) ?_
              refine p_q hap hsel 4 rfl rfl ⟨_, hS.pick (by repeat first | exact .here _ _ | assumption | apply Pick.there)⟩ (fun w hI => q_load1 Try.isAgg3 rfl (hI.choose_spec.cell (by repeat first | exact .here _ _ | assumption | apply Pick.there) rfl)) ?_
              refine p_q hap hsel 5 rfl rfl ⟨_, hS.pick (by repeat first | exact .here _ _ | assumption | apply Pick.there)⟩ (fun w hI => q_fieldAddr 0 Try.runUnderlying55 rfl Try.sizeOf3 (by decide) rfl rfl) ?_
              refine p_one 6 rfl (by kernel_rfl) ?_
              refine t_store (v := (.int _ _)) Try.sizeOf3 hS (by repeat first | exact .here _ _ | assumption | apply Pick.there) rfl rfl rfl rfl rfl rfl (fun w hS => ?_)
              replace hS := hS.recast (show blkA g9 55 _ = blkA g9 55 [.int .i64 11, .int .i64 0, .int .u64 0, .int .u64 0, .int .i64 0, .int .i64 0, .int .i64 0, .int .i64 0, .int .i64 0, .int .i64 0, .int .i64 c.version, .int .u64 0] from rfl)
              refine t_nil ?_
              refine ⟨.inr ⟨_, hS.pick (by repeat first | exact .here _ _ | assumption | apply Pick.there)⟩, ?_⟩
              refine p_q hap hsel 7 rfl rfl ⟨_, hS.pick (by repeat first | exact .here _ _ | assumption | apply Pick.there)⟩ (fun w hI => q_fieldAddr 10 Try.runUnderlying55 rfl Try.sizeOf3 (by decide) rfl rfl) ?_
              refine p_one 8 rfl (by kernel_rfl) ?_
              refine t_store (v := (.int _ _)) Try.sizeOf3 hS (by repeat first | exact .here _ _ | assumption | apply Pick.there) rfl rfl rfl rfl rfl rfl (fun w hS => ?_)
              replace hS := hS.recast (show blkA g9 55 _ = blkA g9 55 [.int .i64 11, .int .i64 0, .int .u64 0, .int .u64 0, .int .i64 0, .int .i64 0, .int .i64 0, .int .i64 0, .int .i64 0, .int .i64 0, .int .i64 s.shadow, .int .u64 0] from rfl)
              refine t_nil ?_
              refine ⟨.inr ⟨_, hS.pick (by repeat first | exact .here _ _ | assumption | apply Pick.there)⟩, ?_⟩
              refine p_q hap hsel 9 rfl rfl ⟨_, hS.pick (by repeat first | exact .here _ _ | assumption | apply Pick.there)⟩ (fun w hI => q_nilCheck rfl) ?_
              refine p_q hap hsel 10 rfl rfl ⟨_, hS.pick (by repeat first | exact .here _ _ | assumption | apply Pick.there)⟩ (fun w hI => q_fieldAddr 4 Try.runUnderlying28 rfl Try.sizeOf3 (by decide) rfl rfl) ?_
              refine p_one 11 rfl (by kernel_rfl) ?_
              refine t_store (v := (.int _ _)) Try.sizeOf3 hS (by repeat first | exact .here _ _ | assumption | apply Pick.there) rfl rfl rfl rfl rfl rfl (fun w hS => ?_)
              replace hS := hS.recast (show blkA g3 34 _ = blkA g3 34 [.int .i64 ({ s with shadow := 0 } : StV).active, .int .i64 ({ s with shadow := 0 } : StV).previous, .int .i64 ({ s with shadow := 0 } : StV).pending, .int .u64 ({ s with shadow := 0 } : StV).at_, .int .i64 ({ s with shadow := 0 } : StV).shadow, .pointer (some ⟨g, 0, none⟩), .int .i64 n, .int .u64 (a 0), .int .u64 (a 1), .int .u64 (a 2), .int .u64 (a 3), .int .u64 (a 4), .int .u64 (a 5), .int .u64 (a 6)] from rfl)
              refine t_nil ?_
              refine ⟨.inl (by kernel_rfl), ?_⟩
              refine p_end (by kernel_rfl) ?_
              exact ⟨_, ps, (ap_12a hk h12).symm, rfl, (fun _ h => h), (((((((hS.pick (A := blkA g4 49 [.int .i64 c.kind, .int .u64 c.client, .int .u64 c.req, .int .i64 c.account, .int .u64 c.id, .int .i64 c.side, .int .i64 c.typ, .int .i64 c.asset, .int .i64 c.price, .int .i64 c.qty, .int .i64 c.version, .int .i64 c.replica, .int .u64 c.at_, .int .i64 c.rules.version, .slice c.rules.ticks.A c.rules.ticks.l.length c.rules.ticks.c, .int .i64 c.rules.lot, .int .i64 c.rules.band, .slice c.rules.fees.A c.rules.fees.l.length c.rules.fees.c, .int .i64 c.rules.round, .int .i64 c.rules.priority, .int .i64 c.rules.self, .int .i64 c.rules.layout]) (by repeat first | exact .here _ _ | assumption | apply Pick.there)).drop.pick (A := rdsA _) (by repeat first | exact .here _ _ | assumption | apply Pick.there)).pick (A := regA W g _ _) (by repeat first | exact .here _ _ | assumption | apply Pick.there)).pick (A := blkA g7 55 [.int .i64 0, .int .i64 0, .int .u64 0, .int .u64 0, .int .i64 0, .int .i64 0, .int .i64 0, .int .i64 0, .int .i64 0, .int .i64 0, .int .i64 0, .int .u64 0]) (by repeat first | exact .here _ _ | assumption | apply Pick.there)).pick (A := blkA g6 34 [.int .i64 0, .int .i64 0, .int .i64 0, .int .u64 0, .int .i64 0, .pointer none, .int .i64 0, .int .u64 0, .int .u64 0, .int .u64 0, .int .u64 0, .int .u64 0, .int .u64 0, .int .u64 0]) (by repeat first | exact .here _ _ | assumption | apply Pick.there)).pick (A := blkA g9 55 _) (by repeat first | exact .here _ _ | assumption | apply Pick.there)).pick (A := blkA g3 34 _) (by repeat first | exact .here _ _ | assumption | apply Pick.there))⟩
            · intro hc22
              have hc22d := of_decide_eq_false hc22
              have h12 := hc22d
              refine c_skip ?_
              refine c_draw ?_
              refine d_keep (blkA g3 34 [.int .i64 s.active, .int .i64 s.previous, .int .i64 s.pending, .int .u64 s.at_, .int .i64 s.shadow, .pointer (some ⟨g, 0, none⟩), .int .i64 n, .int .u64 (a 0), .int .u64 (a 1), .int .u64 (a 2), .int .u64 (a 3), .int .u64 (a 4), .int .u64 (a 5), .int .u64 (a 6)]) 12 [0, 1, 2, 3, 4, 5, 6, 7, 8, 9, 10, 11] [5, 6, 1, 2, 3, 4, 7, 8, 0, 9, 10, 11] hS rfl (by kernel_rfl) (by kernel_rfl) (by kernel_rfl) (by kernel_rfl) (fun hap hsel w hS => ?_)
              refine p_q hap hsel 0 rfl rfl ⟨_, hS.pick (by repeat first | exact .here _ _ | assumption | apply Pick.there)⟩ (fun w hI => q_mv (.pointer _) rfl) ?_
              refine p_q hap hsel 1 rfl rfl ⟨_, hS.pick (by repeat first | exact .here _ _ | assumption | apply Pick.there)⟩ (fun w hI => q_mv (.pointer _) rfl) ?_
              refine p_q hap hsel 2 rfl rfl ⟨_, hS.pick (by repeat first | exact .here _ _ | assumption | apply Pick.there)⟩ (fun w hI => q_nilCheck rfl) ?_
              refine p_q hap hsel 3 rfl rfl ⟨_, hS.pick (by repeat first | exact .here _ _ | assumption | apply Pick.there)⟩ (fun w hI => q_fieldAddr 4 Try.runUnderlying28 rfl Try.sizeOf3 (by decide) rfl rfl) ?_
              refine p_q hap hsel 4 rfl rfl ⟨_, hS.pick (by repeat first | exact .here _ _ | assumption | apply Pick.there)⟩ (fun w hI => q_load1 Try.isAgg3 rfl (hI.choose_spec.cell (by repeat first | exact .here _ _ | assumption | apply Pick.there) rfl)) ?_
              refine p_q hap hsel 5 rfl rfl ⟨_, hS.pick (by repeat first | exact .here _ _ | assumption | apply Pick.there)⟩ (fun w hI => q_fieldAddr 0 Try.runUnderlying55 rfl Try.sizeOf3 (by decide) rfl rfl) ?_
              refine p_one 6 rfl (by kernel_rfl) ?_
              refine t_store (v := (.int _ _)) Try.sizeOf3 hS (by repeat first | exact .here _ _ | assumption | apply Pick.there) rfl rfl rfl rfl rfl rfl (fun w hS => ?_)
              replace hS := hS.recast (show blkA g9 55 _ = blkA g9 55 [.int .i64 11, .int .i64 0, .int .u64 0, .int .u64 0, .int .i64 0, .int .i64 0, .int .i64 0, .int .i64 0, .int .i64 0, .int .i64 0, .int .i64 c.version, .int .u64 0] from rfl)
              refine t_nil ?_
              refine ⟨.inr ⟨_, hS.pick (by repeat first | exact .here _ _ | assumption | apply Pick.there)⟩, ?_⟩
              refine p_q hap hsel 7 rfl rfl ⟨_, hS.pick (by repeat first | exact .here _ _ | assumption | apply Pick.there)⟩ (fun w hI => q_fieldAddr 10 Try.runUnderlying55 rfl Try.sizeOf3 (by decide) rfl rfl) ?_
              refine p_one 8 rfl (by kernel_rfl) ?_
              refine t_store (v := (.int _ _)) Try.sizeOf3 hS (by repeat first | exact .here _ _ | assumption | apply Pick.there) rfl rfl rfl rfl rfl rfl (fun w hS => ?_)
              replace hS := hS.recast (show blkA g9 55 _ = blkA g9 55 [.int .i64 11, .int .i64 0, .int .u64 0, .int .u64 0, .int .i64 0, .int .i64 0, .int .i64 0, .int .i64 0, .int .i64 0, .int .i64 0, .int .i64 s.shadow, .int .u64 0] from rfl)
              refine t_nil ?_
              refine ⟨.inr ⟨_, hS.pick (by repeat first | exact .here _ _ | assumption | apply Pick.there)⟩, ?_⟩
              refine p_q hap hsel 9 rfl rfl ⟨_, hS.pick (by repeat first | exact .here _ _ | assumption | apply Pick.there)⟩ (fun w hI => q_nilCheck rfl) ?_
              refine p_q hap hsel 10 rfl rfl ⟨_, hS.pick (by repeat first | exact .here _ _ | assumption | apply Pick.there)⟩ (fun w hI => q_fieldAddr 4 Try.runUnderlying28 rfl Try.sizeOf3 (by decide) rfl rfl) ?_
              refine p_one 11 rfl (by kernel_rfl) ?_
              refine t_store (v := (.int _ _)) Try.sizeOf3 hS (by repeat first | exact .here _ _ | assumption | apply Pick.there) rfl rfl rfl rfl rfl rfl (fun w hS => ?_)
              replace hS := hS.recast (show blkA g3 34 _ = blkA g3 34 [.int .i64 ({ s with shadow := 0 } : StV).active, .int .i64 ({ s with shadow := 0 } : StV).previous, .int .i64 ({ s with shadow := 0 } : StV).pending, .int .u64 ({ s with shadow := 0 } : StV).at_, .int .i64 ({ s with shadow := 0 } : StV).shadow, .pointer (some ⟨g, 0, none⟩), .int .i64 n, .int .u64 (a 0), .int .u64 (a 1), .int .u64 (a 2), .int .u64 (a 3), .int .u64 (a 4), .int .u64 (a 5), .int .u64 (a 6)] from rfl)
              refine t_nil ?_
              refine ⟨.inl (by kernel_rfl), ?_⟩
              refine p_end (by kernel_rfl) ?_
              exact ⟨_, ps, (ap_12b hk h12).symm, rfl, (fun _ h => h), (((((((hS.pick (A := blkA g4 49 [.int .i64 c.kind, .int .u64 c.client, .int .u64 c.req, .int .i64 c.account, .int .u64 c.id, .int .i64 c.side, .int .i64 c.typ, .int .i64 c.asset, .int .i64 c.price, .int .i64 c.qty, .int .i64 c.version, .int .i64 c.replica, .int .u64 c.at_, .int .i64 c.rules.version, .slice c.rules.ticks.A c.rules.ticks.l.length c.rules.ticks.c, .int .i64 c.rules.lot, .int .i64 c.rules.band, .slice c.rules.fees.A c.rules.fees.l.length c.rules.fees.c, .int .i64 c.rules.round, .int .i64 c.rules.priority, .int .i64 c.rules.self, .int .i64 c.rules.layout]) (by repeat first | exact .here _ _ | assumption | apply Pick.there)).drop.pick (A := rdsA _) (by repeat first | exact .here _ _ | assumption | apply Pick.there)).pick (A := regA W g _ _) (by repeat first | exact .here _ _ | assumption | apply Pick.there)).pick (A := blkA g7 55 [.int .i64 0, .int .i64 0, .int .u64 0, .int .u64 0, .int .i64 0, .int .i64 0, .int .i64 0, .int .i64 0, .int .i64 0, .int .i64 0, .int .i64 0, .int .u64 0]) (by repeat first | exact .here _ _ | assumption | apply Pick.there)).pick (A := blkA g6 34 [.int .i64 0, .int .i64 0, .int .i64 0, .int .u64 0, .int .i64 0, .pointer none, .int .i64 0, .int .u64 0, .int .u64 0, .int .u64 0, .int .u64 0, .int .u64 0, .int .u64 0, .int .u64 0]) (by repeat first | exact .here _ _ | assumption | apply Pick.there)).pick (A := blkA g9 55 _) (by repeat first | exact .here _ _ | assumption | apply Pick.there)).pick (A := blkA g3 34 _) (by repeat first | exact .here _ _ | assumption | apply Pick.there))⟩
          · intro hc20
            have hc20d := of_decide_eq_false hc20
            refine c_seq ?_
            refine c_region ?_
            refine t_q (q_eql rfl rfl) ?_
            refine t_q (q_as (.bool _) rfl) ?_
            refine t_nil ?_
            refine c_cond rfl ?_ ?_
            · intro hc24
              have hc24d := of_decide_eq_true hc24
              have hk := hc24d
              refine c_seq ?_
              refine c_region ?_
              refine t_q (q_cast (v' := .agg (bdc s (some ⟨g, 0, none⟩) n a).toArray) (q_load_blk Try.isAgg34 Try.sizeOf34 rfl (hS.blk (by repeat first | exact .here _ _ | assumption | apply Pick.there)) rfl) (by rfl)) ?_
              refine t_q (q_cast (v' := .agg c.cells.toArray) (q_load_blk Try.isAgg49 Try.sizeOf49 rfl (hS.blk (by repeat first | exact .here _ _ | assumption | apply Pick.there)) rfl) (by rfl)) ?_
              refine t_q (q_mv (.int _ _) rfl) ?_
              refine t_call Try.call116 (sched_calls (c := c) (i := i) ((hS.pick (A := rdsA ps) (by repeat first | exact .here _ _ | assumption | apply Pick.there)).pick (A := regA W g M ps) (by repeat first | exact .here _ _ | assumption | apply Pick.there)) hn hs hat hi) rfl ?_
              rintro e w ⟨rfl, hS⟩
              refine ⟨_, rfl, ?_⟩
              refine t_q (q_as (.int _ _) rfl) ?_
              refine t_nil ?_
              refine c_seq ?_
              refine c_draw ?_
              refine d_keep (blkA g4 49 [.int .i64 c.kind, .int .u64 c.client, .int .u64 c.req, .int .i64 c.account, .int .u64 c.id, .int .i64 c.side, .int .i64 c.typ, .int .i64 c.asset, .int .i64 c.price, .int .i64 c.qty, .int .i64 c.version, .int .i64 c.replica, .int .u64 c.at_, .int .i64 c.rules.version, .slice c.rules.ticks.A c.rules.ticks.l.length c.rules.ticks.c, .int .i64 c.rules.lot, .int .i64 c.rules.band, .slice c.rules.fees.A c.rules.fees.l.length c.rules.fees.c, .int .i64 c.rules.round, .int .i64 c.rules.priority, .int .i64 c.rules.self, .int .i64 c.rules.layout]) 12 [0, 1, 2, 3, 4, 5, 6, 7, 8, 9, 10, 11] [0, 2, 3, 6, 7, 8, 1, 4, 5, 9, 10, 11] hS rfl (by kernel_rfl) (by kernel_rfl) (by kernel_rfl) (by kernel_rfl) (fun hap hsel w hS => ?_)
              refine p_q hap hsel 0 rfl rfl ⟨_, hS.pick (by repeat first | exact .here _ _ | assumption | apply Pick.there)⟩ (fun w hI => q_mv (.pointer _) rfl) ?_
              refine p_q hap hsel 1 rfl rfl ⟨_, hS.pick (by repeat first | exact .here _ _ | assumption | apply Pick.there)⟩ (fun w hI => q_mv (.pointer _) rfl) ?_
              refine p_q hap hsel 2 rfl rfl ⟨_, hS.pick (by repeat first | exact .here _ _ | assumption | apply Pick.there)⟩ (fun w hI => q_fieldAddr 10 Try.runUnderlying49 rfl Try.sizeOf3 (by decide) rfl rfl) ?_
              refine p_q hap hsel 3 rfl rfl ⟨_, hS.pick (by repeat first | exact .here _ _ | assumption | apply Pick.there)⟩ (fun w hI => q_load1 Try.isAgg3 rfl (hI.choose_spec.cell (by repeat first | exact .here _ _ | assumption | apply Pick.there) rfl)) ?_
              refine p_q hap hsel 4 rfl rfl ⟨_, hS.pick (by repeat first | exact .here _ _ | assumption | apply Pick.there)⟩ (fun w hI => q_fieldAddr 12 Try.runUnderlying49 rfl Try.sizeOf26 (by decide) rfl rfl) ?_
              refine p_q hap hsel 5 rfl rfl ⟨_, hS.pick (by repeat first | exact .here _ _ | assumption | apply Pick.there)⟩ (fun w hI => q_load1 Try.isAgg26 rfl (hI.choose_spec.cell (by repeat first | exact .here _ _ | assumption | apply Pick.there) rfl)) ?_
              refine p_q hap hsel 6 rfl rfl ⟨_, hS.pick (by repeat first | exact .here _ _ | assumption | apply Pick.there)⟩ (fun w hI => q_nilCheck rfl) ?_
              refine p_q hap hsel 7 rfl rfl ⟨_, hS.pick (by repeat first | exact .here _ _ | assumption | apply Pick.there)⟩ (fun w hI => q_fieldAddr 2 Try.runUnderlying28 rfl Try.sizeOf3 (by decide) rfl rfl) ?_
              refine p_one 8 rfl (by kernel_rfl) ?_
              refine t_store (v := (.int _ _)) Try.sizeOf3 hS (by repeat first | exact .here _ _ | assumption | apply Pick.there) rfl rfl rfl rfl rfl rfl (fun w hS => ?_)
              replace hS := hS.recast (show blkA g3 34 _ = blkA g3 34 [.int .i64 ({ s with pending := c.version } : StV).active, .int .i64 ({ s with pending := c.version } : StV).previous, .int .i64 ({ s with pending := c.version } : StV).pending, .int .u64 ({ s with pending := c.version } : StV).at_, .int .i64 ({ s with pending := c.version } : StV).shadow, .pointer (some ⟨g, 0, none⟩), .int .i64 n, .int .u64 (a 0), .int .u64 (a 1), .int .u64 (a 2), .int .u64 (a 3), .int .u64 (a 4), .int .u64 (a 5), .int .u64 (a 6)] from rfl)
              refine t_nil ?_
              refine ⟨.inr ⟨_, hS.pick (by repeat first | exact .here _ _ | assumption | apply Pick.there)⟩, ?_⟩
              refine p_q hap hsel 9 rfl rfl ⟨_, hS.pick (by repeat first | exact .here _ _ | assumption | apply Pick.there)⟩ (fun w hI => q_nilCheck rfl) ?_
              refine p_q hap hsel 10 rfl rfl ⟨_, hS.pick (by repeat first | exact .here _ _ | assumption | apply Pick.there)⟩ (fun w hI => q_fieldAddr 3 Try.runUnderlying28 rfl Try.sizeOf26 (by decide) rfl rfl) ?_
              refine p_one 11 rfl (by kernel_rfl) ?_
              refine t_store (v := (.int _ _)) Try.sizeOf26 hS (by repeat first | exact .here _ _ | assumption | apply Pick.there) rfl rfl rfl rfl rfl rfl (fun w hS => ?_)
              replace hS := hS.recast (show blkA g3 34 _ = blkA g3 34 [.int .i64 ({ s with pending := c.version, at_ := c.at_ } : StV).active, .int .i64 ({ s with pending := c.version, at_ := c.at_ } : StV).previous, .int .i64 ({ s with pending := c.version, at_ := c.at_ } : StV).pending, .int .u64 ({ s with pending := c.version, at_ := c.at_ } : StV).at_, .int .i64 ({ s with pending := c.version, at_ := c.at_ } : StV).shadow, .pointer (some ⟨g, 0, none⟩), .int .i64 n, .int .u64 (a 0), .int .u64 (a 1), .int .u64 (a 2), .int .u64 (a 3), .int .u64 (a 4), .int .u64 (a 5), .int .u64 (a 6)] from rfl)
              refine t_nil ?_
              refine ⟨.inl (by kernel_rfl), ?_⟩
              refine p_end (by kernel_rfl) ?_
              refine c_draw ?_
              refine d_keep (blkA g4 49 [.int .i64 c.kind, .int .u64 c.client, .int .u64 c.req, .int .i64 c.account, .int .u64 c.id, .int .i64 c.side, .int .i64 c.typ, .int .i64 c.asset, .int .i64 c.price, .int .i64 c.qty, .int .i64 c.version, .int .i64 c.replica, .int .u64 c.at_, .int .i64 c.rules.version, .slice c.rules.ticks.A c.rules.ticks.l.length c.rules.ticks.c, .int .i64 c.rules.lot, .int .i64 c.rules.band, .slice c.rules.fees.A c.rules.fees.l.length c.rules.fees.c, .int .i64 c.rules.round, .int .i64 c.rules.priority, .int .i64 c.rules.self, .int .i64 c.rules.layout]) 6 [0, 1, 2, 3, 4, 5] [2, 3, 0, 1, 4, 5] hS rfl (by kernel_rfl) (by kernel_rfl) (by kernel_rfl) (by kernel_rfl) (fun hap hsel w hS => ?_)
              refine p_q hap hsel 0 rfl rfl ⟨_, hS.pick (by repeat first | exact .here _ _ | assumption | apply Pick.there)⟩ (fun w hI => q_fieldAddr 12 Try.runUnderlying49 rfl Try.sizeOf26 (by decide) rfl rfl) ?_
              refine p_q hap hsel 1 rfl rfl ⟨_, hS.pick (by repeat first | exact .here _ _ | assumption | apply Pick.there)⟩ (fun w hI => q_load1 Try.isAgg26 rfl (hI.choose_spec.cell (by repeat first | exact .here _ _ | assumption | apply Pick.there) rfl)) ?_
              refine p_q hap hsel 2 rfl rfl ⟨_, hS.pick (by repeat first | exact .here _ _ | assumption | apply Pick.there)⟩ (fun w hI => q_fieldAddr 0 Try.runUnderlying55 rfl Try.sizeOf3 (by decide) rfl rfl) ?_
              refine p_one 3 rfl (by kernel_rfl) ?_
              refine t_store (v := (.int _ _)) Try.sizeOf3 hS (by repeat first | exact .here _ _ | assumption | apply Pick.there) rfl rfl rfl rfl rfl rfl (fun w hS => ?_)
              replace hS := hS.recast (show blkA g9 55 _ = blkA g9 55 [.int .i64 12, .int .i64 0, .int .u64 0, .int .u64 0, .int .i64 0, .int .i64 0, .int .i64 0, .int .i64 0, .int .i64 0, .int .i64 0, .int .i64 c.version, .int .u64 0] from rfl)
              refine t_nil ?_
              refine ⟨.inr ⟨_, hS.pick (by repeat first | exact .here _ _ | assumption | apply Pick.there)⟩, ?_⟩
              refine p_q hap hsel 4 rfl rfl ⟨_, hS.pick (by repeat first | exact .here _ _ | assumption | apply Pick.there)⟩ (fun w hI => q_fieldAddr 11 Try.runUnderlying55 rfl Try.sizeOf26 (by decide) rfl rfl) ?_
              refine p_one 5 rfl (by kernel_rfl) ?_
              refine t_store (v := (.int _ _)) Try.sizeOf26 hS (by repeat first | exact .here _ _ | assumption | apply Pick.there) rfl rfl rfl rfl rfl rfl (fun w hS => ?_)
              replace hS := hS.recast (show blkA g9 55 _ = blkA g9 55 [.int .i64 12, .int .i64 0, .int .u64 0, .int .u64 0, .int .i64 0, .int .i64 0, .int .i64 0, .int .i64 0, .int .i64 0, .int .i64 0, .int .i64 c.version, .int .u64 c.at_] from rfl)
              refine t_nil ?_
              refine ⟨.inl (by kernel_rfl), ?_⟩
              refine p_end (by kernel_rfl) ?_
              exact ⟨_, ps, (ap_13 hk).symm, rfl, (fun _ h => h), (((((((hS.pick (A := blkA g4 49 [.int .i64 c.kind, .int .u64 c.client, .int .u64 c.req, .int .i64 c.account, .int .u64 c.id, .int .i64 c.side, .int .i64 c.typ, .int .i64 c.asset, .int .i64 c.price, .int .i64 c.qty, .int .i64 c.version, .int .i64 c.replica, .int .u64 c.at_, .int .i64 c.rules.version, .slice c.rules.ticks.A c.rules.ticks.l.length c.rules.ticks.c, .int .i64 c.rules.lot, .int .i64 c.rules.band, .slice c.rules.fees.A c.rules.fees.l.length c.rules.fees.c, .int .i64 c.rules.round, .int .i64 c.rules.priority, .int .i64 c.rules.self, .int .i64 c.rules.layout]) (by repeat first | exact .here _ _ | assumption | apply Pick.there)).drop.pick (A := rdsA _) (by repeat first | exact .here _ _ | assumption | apply Pick.there)).pick (A := regA W g _ _) (by repeat first | exact .here _ _ | assumption | apply Pick.there)).pick (A := blkA g7 55 [.int .i64 0, .int .i64 0, .int .u64 0, .int .u64 0, .int .i64 0, .int .i64 0, .int .i64 0, .int .i64 0, .int .i64 0, .int .i64 0, .int .i64 0, .int .u64 0]) (by repeat first | exact .here _ _ | assumption | apply Pick.there)).pick (A := blkA g6 34 [.int .i64 0, .int .i64 0, .int .i64 0, .int .u64 0, .int .i64 0, .pointer none, .int .i64 0, .int .u64 0, .int .u64 0, .int .u64 0, .int .u64 0, .int .u64 0, .int .u64 0, .int .u64 0]) (by repeat first | exact .here _ _ | assumption | apply Pick.there)).pick (A := blkA g9 55 _) (by repeat first | exact .here _ _ | assumption | apply Pick.there)).pick (A := blkA g3 34 _) (by repeat first | exact .here _ _ | assumption | apply Pick.there))⟩
            · intro hc24
              have hc24d := of_decide_eq_false hc24
              refine c_seq ?_
              refine c_region ?_
              refine t_q (q_eql rfl rfl) ?_
              refine t_q (q_as (.bool _) rfl) ?_
              refine t_nil ?_
              refine c_cond rfl ?_ ?_
              · intro hc27
                have hc27d := of_decide_eq_true hc27
                have hk := hc27d
                refine c_seq ?_
                refine c_region ?_
                refine t_q (q_mv (.pointer _) rfl) ?_
                refine t_q (q_mv (.pointer _) rfl) ?_
                refine t_q (q_nilCheck rfl) ?_
                refine t_q (q_cast (v' := .agg s.cells.toArray) (q_load_sub Try.isAgg28 Try.sizeOf28 rfl (hS.blk (by repeat first | exact .here _ _ | assumption | apply Pick.there)) (by show 0 + 0 + 5 ≤ 14; decide)) (by rfl)) ?_
                refine t_call Try.call81 (back_calls (x := s)) rfl ?_
                rintro e w ⟨rfl, hT⟩
                refine ⟨_, rfl, ?_⟩
                replace hS := hS.after hT
                refine t_q (q_mv (.tuple _) rfl) ?_
                refine t_q (q_extract rfl rfl) ?_
                refine t_q (q_extract rfl rfl) ?_
                refine t_q (q_nilCheck rfl) ?_
                refine t_store (v := (.agg _)) Try.sizeOf28 hS (by repeat first | exact .here _ _ | assumption | apply Pick.there) rfl rfl rfl rfl rfl rfl (fun w hS => ?_)
                replace hS := hS.recast (show blkA g3 34 _ = blkA g3 34 [.int .i64 (backV s).1.active, .int .i64 (backV s).1.previous, .int .i64 (backV s).1.pending, .int .u64 (backV s).1.at_, .int .i64 (backV s).1.shadow, .pointer (some ⟨g, 0, none⟩), .int .i64 n, .int .u64 (a 0), .int .u64 (a 1), .int .u64 (a 2), .int .u64 (a 3), .int .u64 (a 4), .int .u64 (a 5), .int .u64 (a 6)] from rfl)
                refine t_q (q_as (.int _ _) rfl) ?_
                refine t_nil ?_
                refine c_draw ?_
                refine d_keep (blkA g3 34 [.int .i64 (backV s).1.active, .int .i64 (backV s).1.previous, .int .i64 (backV s).1.pending, .int .u64 (backV s).1.at_, .int .i64 (backV s).1.shadow, .pointer (some ⟨g, 0, none⟩), .int .i64 n, .int .u64 (a 0), .int .u64 (a 1), .int .u64 (a 2), .int .u64 (a 3), .int .u64 (a 4), .int .u64 (a 5), .int .u64 (a 6)]) 8 [0, 1, 2, 3, 4, 5, 6, 7] [4, 5, 0, 1, 2, 3, 6, 7] hS rfl (by kernel_rfl) (by kernel_rfl) (by kernel_rfl) (by kernel_rfl) (fun hap hsel w hS => ?_)
                refine p_q hap hsel 0 rfl rfl ⟨_, hS.pick (by repeat first | exact .here _ _ | assumption | apply Pick.there)⟩ (fun w hI => q_mv (.pointer _) rfl) ?_
                refine p_q hap hsel 1 rfl rfl ⟨_, hS.pick (by repeat first | exact .here _ _ | assumption | apply Pick.there)⟩ (fun w hI => q_nilCheck rfl) ?_
                refine p_q hap hsel 2 rfl rfl ⟨_, hS.pick (by repeat first | exact .here _ _ | assumption | apply Pick.there)⟩ (fun w hI => q_fieldAddr 0 Try.runUnderlying28 rfl Try.sizeOf3 (by decide) rfl rfl) ?_
                refine p_q hap hsel 3 rfl rfl ⟨_, hS.pick (by repeat first | exact .here _ _ | assumption | apply Pick.there)⟩ (fun w hI => q_load1 Try.isAgg3 rfl (hI.choose_spec.cell (by repeat first | exact .here _ _ | assumption | apply Pick.there) rfl)) ?_
                refine p_q hap hsel 4 rfl rfl ⟨_, hS.pick (by repeat first | exact .here _ _ | assumption | apply Pick.there)⟩ (fun w hI => q_fieldAddr 0 Try.runUnderlying55 rfl Try.sizeOf3 (by decide) rfl rfl) ?_
                refine p_one 5 rfl (by kernel_rfl) ?_
                refine t_store (v := (.int _ _)) Try.sizeOf3 hS (by repeat first | exact .here _ _ | assumption | apply Pick.there) rfl rfl rfl rfl rfl rfl (fun w hS => ?_)
                replace hS := hS.recast (show blkA g9 55 _ = blkA g9 55 [.int .i64 14, .int .i64 0, .int .u64 0, .int .u64 0, .int .i64 0, .int .i64 0, .int .i64 0, .int .i64 0, .int .i64 0, .int .i64 0, .int .i64 c.version, .int .u64 0] from rfl)
                refine t_nil ?_
                refine ⟨.inr ⟨_, hS.pick (by repeat first | exact .here _ _ | assumption | apply Pick.there)⟩, ?_⟩
                refine p_q hap hsel 6 rfl rfl ⟨_, hS.pick (by repeat first | exact .here _ _ | assumption | apply Pick.there)⟩ (fun w hI => q_fieldAddr 10 Try.runUnderlying55 rfl Try.sizeOf3 (by decide) rfl rfl) ?_
                refine p_one 7 rfl (by kernel_rfl) ?_
                refine t_store (v := (.int _ _)) Try.sizeOf3 hS (by repeat first | exact .here _ _ | assumption | apply Pick.there) rfl rfl rfl rfl rfl rfl (fun w hS => ?_)
                replace hS := hS.recast (show blkA g9 55 _ = blkA g9 55 [.int .i64 14, .int .i64 0, .int .u64 0, .int .u64 0, .int .i64 0, .int .i64 0, .int .i64 0, .int .i64 0, .int .i64 0, .int .i64 0, .int .i64 (backV s).1.active, .int .u64 0] from rfl)
                refine t_nil ?_
                refine ⟨.inl (by kernel_rfl), ?_⟩
                refine p_end (by kernel_rfl) ?_
                exact ⟨_, ps, (ap_14 hk).symm, rfl, (fun _ h => h), (((((((hS.pick (A := blkA g4 49 [.int .i64 c.kind, .int .u64 c.client, .int .u64 c.req, .int .i64 c.account, .int .u64 c.id, .int .i64 c.side, .int .i64 c.typ, .int .i64 c.asset, .int .i64 c.price, .int .i64 c.qty, .int .i64 c.version, .int .i64 c.replica, .int .u64 c.at_, .int .i64 c.rules.version, .slice c.rules.ticks.A c.rules.ticks.l.length c.rules.ticks.c, .int .i64 c.rules.lot, .int .i64 c.rules.band, .slice c.rules.fees.A c.rules.fees.l.length c.rules.fees.c, .int .i64 c.rules.round, .int .i64 c.rules.priority, .int .i64 c.rules.self, .int .i64 c.rules.layout]) (by repeat first | exact .here _ _ | assumption | apply Pick.there)).drop.pick (A := rdsA _) (by repeat first | exact .here _ _ | assumption | apply Pick.there)).pick (A := regA W g _ _) (by repeat first | exact .here _ _ | assumption | apply Pick.there)).pick (A := blkA g7 55 [.int .i64 0, .int .i64 0, .int .u64 0, .int .u64 0, .int .i64 0, .int .i64 0, .int .i64 0, .int .i64 0, .int .i64 0, .int .i64 0, .int .i64 0, .int .u64 0]) (by repeat first | exact .here _ _ | assumption | apply Pick.there)).pick (A := blkA g6 34 [.int .i64 0, .int .i64 0, .int .i64 0, .int .u64 0, .int .i64 0, .pointer none, .int .i64 0, .int .u64 0, .int .u64 0, .int .u64 0, .int .u64 0, .int .u64 0, .int .u64 0, .int .u64 0]) (by repeat first | exact .here _ _ | assumption | apply Pick.there)).pick (A := blkA g9 55 _) (by repeat first | exact .here _ _ | assumption | apply Pick.there)).pick (A := blkA g3 34 _) (by repeat first | exact .here _ _ | assumption | apply Pick.there))⟩
              · intro hc27
                have hc27d := of_decide_eq_false hc27
                refine c_region ?_
                refine t_q (q_assign) ?_
                refine t_nil ?_
                exact ⟨_, ps, (ap_0 (by omega)).symm, rfl, (fun _ h => h), (((((((hS.pick (A := blkA g4 49 [.int .i64 c.kind, .int .u64 c.client, .int .u64 c.req, .int .i64 c.account, .int .u64 c.id, .int .i64 c.side, .int .i64 c.typ, .int .i64 c.asset, .int .i64 c.price, .int .i64 c.qty, .int .i64 c.version, .int .i64 c.replica, .int .u64 c.at_, .int .i64 c.rules.version, .slice c.rules.ticks.A c.rules.ticks.l.length c.rules.ticks.c, .int .i64 c.rules.lot, .int .i64 c.rules.band, .slice c.rules.fees.A c.rules.fees.l.length c.rules.fees.c, .int .i64 c.rules.round, .int .i64 c.rules.priority, .int .i64 c.rules.self, .int .i64 c.rules.layout]) (by repeat first | exact .here _ _ | assumption | apply Pick.there)).drop.pick (A := rdsA _) (by repeat first | exact .here _ _ | assumption | apply Pick.there)).pick (A := regA W g _ _) (by repeat first | exact .here _ _ | assumption | apply Pick.there)).pick (A := blkA g7 55 [.int .i64 0, .int .i64 0, .int .u64 0, .int .u64 0, .int .i64 0, .int .i64 0, .int .i64 0, .int .i64 0, .int .i64 0, .int .i64 0, .int .i64 0, .int .u64 0]) (by repeat first | exact .here _ _ | assumption | apply Pick.there)).pick (A := blkA g6 34 [.int .i64 0, .int .i64 0, .int .i64 0, .int .u64 0, .int .i64 0, .pointer none, .int .i64 0, .int .u64 0, .int .u64 0, .int .u64 0, .int .u64 0, .int .u64 0, .int .u64 0, .int .u64 0]) (by repeat first | exact .here _ _ | assumption | apply Pick.there)).pick (A := blkA g9 55 _) (by repeat first | exact .here _ _ | assumption | apply Pick.there)).pick (A := blkA g3 34 _) (by repeat first | exact .here _ _ | assumption | apply Pick.there))⟩
  ·
    rintro σ w ⟨r, ps', hr, h10, hsub, hS⟩
    refine c_know 10 h10 ?_
    refine c_seq ?_
    refine c_draw ?_
    refine d_keep2 (blkA g3 34 [.int .i64 r.s.active, .int .i64 r.s.previous, .int .i64 r.s.pending, .int .u64 r.s.at_, .int .i64 r.s.shadow, .pointer (some ⟨g, 0, none⟩), .int .i64 n, .int .u64 (r.a 0), .int .u64 (r.a 1), .int .u64 (r.a 2), .int .u64 (r.a 3), .int .u64 (r.a 4), .int .u64 (r.a 5), .int .u64 (r.a 6)]) (blkA g9 55 [.int .i64 r.ev.kind, .int .i64 r.ev.account, .int .u64 r.ev.id, .int .u64 r.ev.other, .int .i64 r.ev.side, .int .i64 r.ev.price, .int .i64 r.ev.qty, .int .i64 r.ev.fee, .int .i64 r.ev.fee2, .int .i64 r.ev.code, .int .i64 r.ev.version, .int .u64 r.ev.index]) 6 [0, 1, 2, 3, 4, 5] [0, 3, 1, 4, 2, 5] hS rfl (by kernel_rfl) (by kernel_rfl) (by kernel_rfl) (by kernel_rfl) (fun hap hsel w hS => ?_)
    refine p_q hap hsel 0 rfl rfl ⟨_, ((hS.pick (A := blkA g9 55 [.int .i64 r.ev.kind, .int .i64 r.ev.account, .int .u64 r.ev.id, .int .u64 r.ev.other, .int .i64 r.ev.side, .int .i64 r.ev.price, .int .i64 r.ev.qty, .int .i64 r.ev.fee, .int .i64 r.ev.fee2, .int .i64 r.ev.code, .int .i64 r.ev.version, .int .u64 r.ev.index]) (by repeat first | exact .here _ _ | assumption | apply Pick.there)).pick (A := blkA g3 34 [.int .i64 r.s.active, .int .i64 r.s.previous, .int .i64 r.s.pending, .int .u64 r.s.at_, .int .i64 r.s.shadow, .pointer (some ⟨g, 0, none⟩), .int .i64 n, .int .u64 (r.a 0), .int .u64 (r.a 1), .int .u64 (r.a 2), .int .u64 (r.a 3), .int .u64 (r.a 4), .int .u64 (r.a 5), .int .u64 (r.a 6)]) (by repeat first | exact .here _ _ | assumption | apply Pick.there))⟩ (fun w hI => (q_cast (v' := .agg (bdc r.s (some ⟨g, 0, none⟩) n r.a).toArray) (q_load_blk Try.isAgg34 Try.sizeOf34 rfl (hI.choose_spec.blk (by repeat first | exact .here _ _ | assumption | apply Pick.there)) rfl) (by rfl))) ?_
    refine p_q hap hsel 1 rfl rfl ⟨_, ((hS.pick (A := blkA g9 55 [.int .i64 r.ev.kind, .int .i64 r.ev.account, .int .u64 r.ev.id, .int .u64 r.ev.other, .int .i64 r.ev.side, .int .i64 r.ev.price, .int .i64 r.ev.qty, .int .i64 r.ev.fee, .int .i64 r.ev.fee2, .int .i64 r.ev.code, .int .i64 r.ev.version, .int .u64 r.ev.index]) (by repeat first | exact .here _ _ | assumption | apply Pick.there)).pick (A := blkA g3 34 [.int .i64 r.s.active, .int .i64 r.s.previous, .int .i64 r.s.pending, .int .u64 r.s.at_, .int .i64 r.s.shadow, .pointer (some ⟨g, 0, none⟩), .int .i64 n, .int .u64 (r.a 0), .int .u64 (r.a 1), .int .u64 (r.a 2), .int .u64 (r.a 3), .int .u64 (r.a 4), .int .u64 (r.a 5), .int .u64 (r.a 6)]) (by repeat first | exact .here _ _ | assumption | apply Pick.there))⟩ (fun w hI => (q_cast (v' := .agg r.ev.cells.toArray) (q_load_blk Try.isAgg55 Try.sizeOf55 rfl (hI.choose_spec.blk (by repeat first | exact .here _ _ | assumption | apply Pick.there)) rfl) (by rfl))) ?_
    refine p_q hap hsel 2 rfl rfl ⟨_, ((hS.pick (A := blkA g9 55 [.int .i64 r.ev.kind, .int .i64 r.ev.account, .int .u64 r.ev.id, .int .u64 r.ev.other, .int .i64 r.ev.side, .int .i64 r.ev.price, .int .i64 r.ev.qty, .int .i64 r.ev.fee, .int .i64 r.ev.fee2, .int .i64 r.ev.code, .int .i64 r.ev.version, .int .u64 r.ev.index]) (by repeat first | exact .here _ _ | assumption | apply Pick.there)).pick (A := blkA g3 34 [.int .i64 r.s.active, .int .i64 r.s.previous, .int .i64 r.s.pending, .int .u64 r.s.at_, .int .i64 r.s.shadow, .pointer (some ⟨g, 0, none⟩), .int .i64 n, .int .u64 (r.a 0), .int .u64 (r.a 1), .int .u64 (r.a 2), .int .u64 (r.a 3), .int .u64 (r.a 4), .int .u64 (r.a 5), .int .u64 (r.a 6)]) (by repeat first | exact .here _ _ | assumption | apply Pick.there))⟩ (fun w hI => q_mv (.int _ _) rfl) ?_
    refine p_one 3 rfl (by kernel_rfl) ?_
    refine t_store (v := (.agg _)) Try.sizeOf34 hS (by repeat first | exact .here _ _ | assumption | apply Pick.there) rfl rfl rfl rfl rfl rfl (fun w hS => ?_)
    replace hS := hS.recast (congrArg (blkA g6 34) (rset_full (vs := bdc r.s (some ⟨g, 0, none⟩) n r.a) rfl))
    refine t_nil ?_
    refine ⟨.inr ⟨_, ((hS.pick (A := blkA g9 55 [.int .i64 r.ev.kind, .int .i64 r.ev.account, .int .u64 r.ev.id, .int .u64 r.ev.other, .int .i64 r.ev.side, .int .i64 r.ev.price, .int .i64 r.ev.qty, .int .i64 r.ev.fee, .int .i64 r.ev.fee2, .int .i64 r.ev.code, .int .i64 r.ev.version, .int .u64 r.ev.index]) (by repeat first | exact .here _ _ | assumption | apply Pick.there)).pick (A := blkA g3 34 [.int .i64 r.s.active, .int .i64 r.s.previous, .int .i64 r.s.pending, .int .u64 r.s.at_, .int .i64 r.s.shadow, .pointer (some ⟨g, 0, none⟩), .int .i64 n, .int .u64 (r.a 0), .int .u64 (r.a 1), .int .u64 (r.a 2), .int .u64 (r.a 3), .int .u64 (r.a 4), .int .u64 (r.a 5), .int .u64 (r.a 6)]) (by repeat first | exact .here _ _ | assumption | apply Pick.there))⟩, ?_⟩
    refine p_one 4 rfl (by kernel_rfl) ?_
    refine t_store (v := (.agg _)) Try.sizeOf55 hS (by repeat first | exact .here _ _ | assumption | apply Pick.there) rfl rfl rfl rfl rfl rfl (fun w hS => ?_)
    replace hS := hS.recast (congrArg (blkA g7 55) (rset_full (vs := r.ev.cells) rfl))
    refine t_nil ?_
    refine ⟨.inr ⟨_, ((hS.pick (A := blkA g9 55 [.int .i64 r.ev.kind, .int .i64 r.ev.account, .int .u64 r.ev.id, .int .u64 r.ev.other, .int .i64 r.ev.side, .int .i64 r.ev.price, .int .i64 r.ev.qty, .int .i64 r.ev.fee, .int .i64 r.ev.fee2, .int .i64 r.ev.code, .int .i64 r.ev.version, .int .u64 r.ev.index]) (by repeat first | exact .here _ _ | assumption | apply Pick.there)).pick (A := blkA g3 34 [.int .i64 r.s.active, .int .i64 r.s.previous, .int .i64 r.s.pending, .int .u64 r.s.at_, .int .i64 r.s.shadow, .pointer (some ⟨g, 0, none⟩), .int .i64 n, .int .u64 (r.a 0), .int .u64 (r.a 1), .int .u64 (r.a 2), .int .u64 (r.a 3), .int .u64 (r.a 4), .int .u64 (r.a 5), .int .u64 (r.a 6)]) (by repeat first | exact .here _ _ | assumption | apply Pick.there))⟩, ?_⟩
    refine p_q hap hsel 5 rfl rfl ⟨_, ((hS.pick (A := blkA g9 55 [.int .i64 r.ev.kind, .int .i64 r.ev.account, .int .u64 r.ev.id, .int .u64 r.ev.other, .int .i64 r.ev.side, .int .i64 r.ev.price, .int .i64 r.ev.qty, .int .i64 r.ev.fee, .int .i64 r.ev.fee2, .int .i64 r.ev.code, .int .i64 r.ev.version, .int .u64 r.ev.index]) (by repeat first | exact .here _ _ | assumption | apply Pick.there)).pick (A := blkA g3 34 [.int .i64 r.s.active, .int .i64 r.s.previous, .int .i64 r.s.pending, .int .u64 r.s.at_, .int .i64 r.s.shadow, .pointer (some ⟨g, 0, none⟩), .int .i64 n, .int .u64 (r.a 0), .int .u64 (r.a 1), .int .u64 (r.a 2), .int .u64 (r.a 3), .int .u64 (r.a 4), .int .u64 (r.a 5), .int .u64 (r.a 6)]) (by repeat first | exact .here _ _ | assumption | apply Pick.there))⟩ (fun w hI => q_as (.int _ _) rfl) ?_
    refine p_end (by kernel_rfl) ?_
    refine c_ret ?_
    refine r_three rfl (res1_cellN Try.isAgg34 Try.sizeOf34 rfl (hS.blk (by repeat first | exact .here _ _ | assumption | apply Pick.there)) rfl) (res1_cellN Try.isAgg55 Try.sizeOf55 rfl (hS.blk (by repeat first | exact .here _ _ | assumption | apply Pick.there)) rfl) rfl ?_
    rw [← hr]
    exact ⟨ps', rfl, hsub, ((((((hS.pick (A := blkA g3 34 _) (by repeat first | exact .here _ _ | assumption | apply Pick.there)).drop.pick (A := blkA g9 55 _) (by repeat first | exact .here _ _ | assumption | apply Pick.there)).drop.pick (A := blkA g6 34 _) (by repeat first | exact .here _ _ | assumption | apply Pick.there)).drop.pick (A := blkA g7 55 _) (by repeat first | exact .here _ _ | assumption | apply Pick.there)).drop.pick (A := rdsA _) (by repeat first | exact .here _ _ | assumption | apply Pick.there)).pick (A := regA W g _ _) (by repeat first | exact .here _ _ | assumption | apply Pick.there))⟩
end Go.Proofs.Ytmgobaojioaioaa
