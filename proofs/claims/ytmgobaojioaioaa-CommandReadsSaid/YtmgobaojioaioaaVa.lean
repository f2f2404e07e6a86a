/- Commands: plain; what a kind has. -/
import Derived.Test.YtmgobaojioaioaaUg
import Derived.Test.YtmgobaojioaioaaUc
import Derived.Test.YtmgobaojioaioaaDr
import Derived.Test.YtmgobaojioaioaaMk
namespace Go.Proofs.Ytmgobaojioaioaa
open Go Go.RowKit Go.Lib
variable {W : World}
structure CmdV where
  kind : Int
  client : Int
  req : Int
  account : Int
  id : Int
  side : Int
  typ : Int
  asset : Int
  price : Int
  qty : Int
  version : Int
  replica : Int
  at_ : Int
  rules : RuV
instance : Inhabited CmdV := ⟨⟨0, 0, 0, 0, 0, 0, 0, 0, 0, 0, 0, 0, 0, default⟩⟩
def CmdV.cells (x : CmdV) : List Value := [.int .i64 x.kind, .int .u64 x.client, .int .u64 x.req, .int .i64 x.account, .int .u64 x.id, .int .i64 x.side, .int .i64 x.typ, .int .i64 x.asset, .int .i64 x.price, .int .i64 x.qty, .int .i64 x.version, .int .i64 x.replica, .int .u64 x.at_] ++ (RuV.cells x.rules)
structure CmdV.Ok (w : World) (x : CmdV) : Prop where
  kind : -9223372036854775808 ≤ x.kind ∧ x.kind ≤ 9223372036854775807
  client : 0 ≤ x.client ∧ x.client < 18446744073709551616
  req : 0 ≤ x.req ∧ x.req < 18446744073709551616
  account : -9223372036854775808 ≤ x.account ∧ x.account ≤ 9223372036854775807
  id : 0 ≤ x.id ∧ x.id < 18446744073709551616
  side : -9223372036854775808 ≤ x.side ∧ x.side ≤ 9223372036854775807
  typ : -9223372036854775808 ≤ x.typ ∧ x.typ ≤ 9223372036854775807
  asset : -9223372036854775808 ≤ x.asset ∧ x.asset ≤ 9223372036854775807
  price : -9223372036854775808 ≤ x.price ∧ x.price ≤ 9223372036854775807
  qty : -9223372036854775808 ≤ x.qty ∧ x.qty ≤ 9223372036854775807
  version : -9223372036854775808 ≤ x.version ∧ x.version ≤ 9223372036854775807
  replica : -9223372036854775808 ≤ x.replica ∧ x.replica ≤ 9223372036854775807
  at_ : 0 ≤ x.at_ ∧ x.at_ < 18446744073709551616
  rules : (RuV.Ok w) x.rules
/-- what a kind of command has, as bits -/
def cfl (n : Int) : Int := if n = 1 ∨ n = 2 then 81 else if n = 3 then 111 else if n = 5 then 99 else if n = 4 then 3 else if n = 8 then 1 else if n = 9 then 1024 else if n = 10 then 384 else if n = 13 then 768 else if n = 11 then 256 else 0
def cok (n : Int) : Bool := decide (1 ≤ n ∧ n ≤ 15)
theorem cfl_vals (n : Int) : cfl n = 81 ∨ cfl n = 111 ∨ cfl n = 99 ∨ cfl n = 3 ∨ cfl n = 1 ∨ cfl n = 1024 ∨ cfl n = 384 ∨ cfl n = 768 ∨ cfl n = 256 ∨ cfl n = 0 := by
  unfold cfl
  split
  · simp
  · split
    · simp
    · split
      · simp
      · split
        · simp
        · split
          · simp
          · split
            · simp
            · split
              · simp
              · split
                · simp
                · split
                  · simp
                  · simp
theorem cfl_none {n : Int} (h : n = 6 ∨ n = 7 ∨ n = 12 ∨ n = 14 ∨ n = 15 ∨ n < 1 ∨ 15 < n) : cfl n = 0 := by
  unfold cfl
  rw [if_neg (by omega), if_neg (by omega), if_neg (by omega), if_neg (by omega), if_neg (by omega), if_neg (by omega), if_neg (by omega), if_neg (by omega), if_neg (by omega)]
def hasC (v : Int) (m : Nat) : Bool := decide (v.toNat / m % 2 = 1)
theorem cfl_1024 (n : Int) : hasC (cfl n) 1024 = decide (n = 9) := by
  by_cases h : n = 9
  · subst h; decide
  · rw [decide_eq_false h]
    unfold cfl
    repeat' split
    all_goals first | rfl | contradiction
/-- what a command tells -/
structure Cm where
  kind : Int
  client : Int
  req : Int
  account : Int
  id : Int
  side : Int
  typ : Int
  asset : Int
  price : Int
  qty : Int
  version : Int
  replica : Int
  at_ : Int
  rules : Ru
deriving DecidableEq
def CmdV.vw (x : CmdV) : Cm := ⟨x.kind, x.client, x.req, x.account, x.id, x.side, x.typ, x.asset, x.price, x.qty, x.version, x.replica, x.at_, x.rules.vw⟩
theorem cm_iff {x y : CmdV} : x.vw = y.vw ↔ (x.kind = y.kind ∧ x.client = y.client ∧ x.req = y.req ∧ x.account = y.account ∧ x.id = y.id ∧ x.side = y.side ∧ x.typ = y.typ ∧ x.asset = y.asset ∧ x.price = y.price ∧ x.qty = y.qty ∧ x.version = y.version ∧ x.replica = y.replica ∧ x.at_ = y.at_ ∧ x.rules.vw = y.rules.vw) := by
  unfold CmdV.vw
  rw [Cm.mk.injEq]
def keepC (v : Int) (x : CmdV) : CmdV :=
  { x with
    account := if hasC v 1 then x.account else 0
    id := if hasC v 2 then x.id else 0
    side := if hasC v 4 then x.side else 0
    typ := if hasC v 4 then x.typ else 0
    asset := if hasC v 16 then x.asset else 0
    price := if hasC v 32 then x.price else 0
    qty := if hasC v 64 then x.qty else 0
    replica := if hasC v 128 then x.replica else 0
    version := if hasC v 256 then x.version else 0
    at_ := if hasC v 512 then x.at_ else 0
    rules := if hasC v 1024 then x.rules else ruZ }
def sndC (x : CmdV) : Bool := cok x.kind && (decide (x.client ≤ 8) && (decide ((keepC (cfl x.kind) x).vw = x.vw) && (!decide (x.kind = 9) || goodR x.rules)))
structure CmdV.Gd (w : World) (x : CmdV) : Prop where
  kind : -9223372036854775808 ≤ x.kind ∧ x.kind ≤ 9223372036854775807
  client : 0 ≤ x.client ∧ x.client < 18446744073709551616
  req : 0 ≤ x.req ∧ x.req < 18446744073709551616
  account : -9223372036854775808 ≤ x.account ∧ x.account ≤ 9223372036854775807
  id : 0 ≤ x.id ∧ x.id < 18446744073709551616
  side : -9223372036854775808 ≤ x.side ∧ x.side ≤ 9223372036854775807
  typ : -9223372036854775808 ≤ x.typ ∧ x.typ ≤ 9223372036854775807
  asset : -9223372036854775808 ≤ x.asset ∧ x.asset ≤ 9223372036854775807
  price : -9223372036854775808 ≤ x.price ∧ x.price ≤ 9223372036854775807
  qty : -9223372036854775808 ≤ x.qty ∧ x.qty ≤ 9223372036854775807
  version : -9223372036854775808 ≤ x.version ∧ x.version ≤ 9223372036854775807
  replica : -9223372036854775808 ≤ x.replica ∧ x.replica ≤ 9223372036854775807
  at_ : 0 ≤ x.at_ ∧ x.at_ < 18446744073709551616
  rules : x.rules.Gd w
theorem CmdV.Gd.st {W w : World} {Q : List Asn} {x : CmdV} (h : x.Gd W) (hS : St W w Q) : x.Gd w := { h with rules := h.rules.st hS }
theorem CmdV.Ok.gd {W : World} {x : CmdV} (h : x.Ok W) (h1 : x.rules.ticks.l.length ≤ 1000000) (h2 : x.rules.fees.l.length ≤ 1000000) : x.Gd W := ⟨h.kind, h.client, h.req, h.account, h.id, h.side, h.typ, h.asset, h.price, h.qty, h.version, h.replica, h.at_, h.rules.gd h1 h2⟩
theorem ifI {b : Bool} {n : Int} (h : -9223372036854775808 ≤ n ∧ n ≤ 9223372036854775807) : -9223372036854775808 ≤ (if b then n else 0) ∧ (if b then n else 0) ≤ 9223372036854775807 := by
  cases b
  · exact (show (-9223372036854775808 : Int) ≤ 0 ∧ (0 : Int) ≤ 9223372036854775807 by decide)
  · exact h
theorem ifU {b : Bool} {n : Int} (h : 0 ≤ n ∧ n < 18446744073709551616) : 0 ≤ (if b then n else 0) ∧ (if b then n else 0) < 18446744073709551616 := by
  cases b
  · exact (show (0 : Int) ≤ 0 ∧ (0 : Int) < 18446744073709551616 by decide)
  · exact h
theorem CmdV.Gd.keep {w : World} {x : CmdV} (h : x.Gd w) (v : Int) : (keepC v x).Gd w := by
  refine ⟨h.kind, h.client, h.req, ifI h.account, ifU h.id, ifI h.side, ifI h.typ, ifI h.asset, ifI h.price, ifI h.qty, ifI h.version, ifI h.replica, ifU h.at_, ?_⟩
  show (if hasC v 1024 then x.rules else ruZ).Gd w
  cases hasC v 1024
  · exact ruZ_gd
  · exact h.rules
theorem and_ne {a : Int} {b : Bool} (h : decide (a = 0) = !b) : decide (a ≠ 0) = b := by
  rw [decide_not, h, Bool.not_not]
theorem setN_at : ∀ (vs pre cs : List Value), cs.length = vs.length → setN (pre ++ cs) pre.length vs = pre ++ vs
  | [], pre, cs, h => by rw [List.eq_nil_of_length_eq_zero h]; rfl
  | v :: vs, pre, [], h => by cases h
  | v :: vs, pre, c :: cs, h => by
    rw [setN, List.set_append_right _ _ (Nat.le_refl _), Nat.sub_self, List.set_cons_zero]
    have ih := setN_at vs (pre ++ [v]) cs (by simpa using h)
    rw [List.length_append, List.append_assoc, List.append_assoc] at ih
    exact ih
theorem setN_full {vs cs : List Value} (h : cs.length = vs.length) : setN cs 0 vs = vs := setN_at vs [] cs h
theorem and_cfl_1 (n : Int) : decide (IntKind.i64.wrap (BitVec.ofInt IntKind.i64.bits (cfl n) &&& BitVec.ofInt IntKind.i64.bits 1).toNat = 0) = !hasC (cfl n) 1 := by
  rcases cfl_vals n with h | h | h | h | h | h | h | h | h | h <;> rw [h] <;> decide
theorem and_cfl_2 (n : Int) : decide (IntKind.i64.wrap (BitVec.ofInt IntKind.i64.bits (cfl n) &&& BitVec.ofInt IntKind.i64.bits 2).toNat = 0) = !hasC (cfl n) 2 := by
  rcases cfl_vals n with h | h | h | h | h | h | h | h | h | h <;> rw [h] <;> decide
theorem and_cfl_4 (n : Int) : decide (IntKind.i64.wrap (BitVec.ofInt IntKind.i64.bits (cfl n) &&& BitVec.ofInt IntKind.i64.bits 4).toNat = 0) = !hasC (cfl n) 4 := by
  rcases cfl_vals n with h | h | h | h | h | h | h | h | h | h <;> rw [h] <;> decide
theorem and_cfl_8 (n : Int) : decide (IntKind.i64.wrap (BitVec.ofInt IntKind.i64.bits (cfl n) &&& BitVec.ofInt IntKind.i64.bits 8).toNat = 0) = !hasC (cfl n) 8 := by
  rcases cfl_vals n with h | h | h | h | h | h | h | h | h | h <;> rw [h] <;> decide
theorem and_cfl_16 (n : Int) : decide (IntKind.i64.wrap (BitVec.ofInt IntKind.i64.bits (cfl n) &&& BitVec.ofInt IntKind.i64.bits 16).toNat = 0) = !hasC (cfl n) 16 := by
  rcases cfl_vals n with h | h | h | h | h | h | h | h | h | h <;> rw [h] <;> decide
theorem and_cfl_32 (n : Int) : decide (IntKind.i64.wrap (BitVec.ofInt IntKind.i64.bits (cfl n) &&& BitVec.ofInt IntKind.i64.bits 32).toNat = 0) = !hasC (cfl n) 32 := by
  rcases cfl_vals n with h | h | h | h | h | h | h | h | h | h <;> rw [h] <;> decide
theorem and_cfl_64 (n : Int) : decide (IntKind.i64.wrap (BitVec.ofInt IntKind.i64.bits (cfl n) &&& BitVec.ofInt IntKind.i64.bits 64).toNat = 0) = !hasC (cfl n) 64 := by
  rcases cfl_vals n with h | h | h | h | h | h | h | h | h | h <;> rw [h] <;> decide
theorem and_cfl_128 (n : Int) : decide (IntKind.i64.wrap (BitVec.ofInt IntKind.i64.bits (cfl n) &&& BitVec.ofInt IntKind.i64.bits 128).toNat = 0) = !hasC (cfl n) 128 := by
  rcases cfl_vals n with h | h | h | h | h | h | h | h | h | h <;> rw [h] <;> decide
theorem and_cfl_256 (n : Int) : decide (IntKind.i64.wrap (BitVec.ofInt IntKind.i64.bits (cfl n) &&& BitVec.ofInt IntKind.i64.bits 256).toNat = 0) = !hasC (cfl n) 256 := by
  rcases cfl_vals n with h | h | h | h | h | h | h | h | h | h <;> rw [h] <;> decide
theorem and_cfl_512 (n : Int) : decide (IntKind.i64.wrap (BitVec.ofInt IntKind.i64.bits (cfl n) &&& BitVec.ofInt IntKind.i64.bits 512).toNat = 0) = !hasC (cfl n) 512 := by
  rcases cfl_vals n with h | h | h | h | h | h | h | h | h | h <;> rw [h] <;> decide
theorem and_cfl_1024 (n : Int) : decide (IntKind.i64.wrap (BitVec.ofInt IntKind.i64.bits (cfl n) &&& BitVec.ofInt IntKind.i64.bits 1024).toNat = 0) = !hasC (cfl n) 1024 := by
  rcases cfl_vals n with h | h | h | h | h | h | h | h | h | h <;> rw [h] <;> decide
theorem cmd_len (x : CmdV) : x.cells.length = 22 := by simp [CmdV.cells, RuV.cells, Sl.cells]
attribute [local irreducible] blkA rowA
set_option maxRecDepth 100000 in
theorem cfields_calls {n : Int} : Calls Try.prog 92 #[.int .i64 n] W fun e w' => e = .returned (.tuple #[.int .i64 (cfl n), .bool (cok n)]) ∧ St W w' [] := by
  have hS := St.init W
  refine calls_of_wpE (args := [_]) Try.func92 rfl rfl rfl ?_
  refine c_seq ?_
  refine c_region ?_
  refine t_q (q_assign) ?_
  refine t_q (q_assign) ?_
  refine t_nil ?_
  refine c_seq ?_
  refine c_seq ?_
  refine c_region ?_
  refine t_q (q_mv (.int _ _) rfl) ?_
  refine t_nil ?_
  refine c_block ?_
  refine c_seq ?_
  refine c_block ?_
  refine c_seq ?_
  refine c_block ?_
  refine c_seq ?_
  refine c_block ?_
  refine c_seq ?_
  refine c_block ?_
  refine c_seq ?_
  refine c_block ?_
  refine c_seq ?_
  refine c_block ?_
  refine c_seq ?_
  refine c_block ?_
  refine c_seq ?_
  refine c_block ?_
  refine c_seq ?_
  refine c_block ?_
  refine c_seq ?_
  refine c_block ?_
  refine c_seq ?_
  refine c_block ?_
  refine c_seq ?_
  refine c_seq ?_
  refine c_seq ?_
  refine c_seq ?_
  refine c_region ?_
  refine t_q (q_eql rfl rfl) ?_
  refine t_q (q_as (.bool _) rfl) ?_
  refine t_nil ?_
  refine c_cond rfl ?_ ?_
  · intro hc2
    have hc2d := of_decide_eq_true hc2
    refine c_skip ?_
    refine c_cond_t rfl hc2 ?_
    refine c_exit ?_
    refine ite_t rfl ?_
    refine c_seq ?_
    refine c_region ?_
    refine t_q (q_assign) ?_
    refine t_nil ?_
    refine c_exit ?_
    refine ite_f (by decide) ?_
    refine ite_f (by decide) ?_
    refine ite_f (by decide) ?_
    refine ite_f (by decide) ?_
    refine ite_f (by decide) ?_
    refine ite_f (by decide) ?_
    refine ite_f (by decide) ?_
    refine ite_f (by decide) ?_
    refine ite_f (by decide) ?_
    refine ite_f (by decide) ?_
    refine ite_t rfl ?_
    refine c_seq ?_
    refine c_region ?_
    refine t_q (q_mv (.int _ _) rfl) ?_
    refine t_q (q_as (.int _ _) rfl) ?_
    refine t_q (q_assign) ?_
    refine t_nil ?_
    refine c_ret ?_
    refine r_two rfl rfl rfl ?_
    have hN := hS.nil
    clear hS
    first
      | (have h1 : cfl n = 0 := cfl_none (by omega)
         have h2 : cok n = true := decide_eq_true (by omega)
         rw [h1, h2]
         exact ⟨rfl, hN⟩)
      | (have h1 : cfl n = 0 := cfl_none (by omega)
         have h2 : cok n = false := decide_eq_false (by omega)
         rw [h1, h2]
         exact ⟨rfl, hN⟩)
      | (have hn : n = 1 ∨ n = 2 ∨ n = 3 ∨ n = 5 ∨ n = 4 ∨ n = 8 ∨ n = 9 ∨ n = 10 ∨ n = 13 ∨ n = 11 := by omega
         rcases hn with h | h | h | h | h | h | h | h | h | h <;> subst h <;> first | exact ⟨rfl, hN⟩ | (exfalso; omega))
  · intro hc2
    have hc2d := of_decide_eq_false hc2
    refine c_region ?_
    refine t_q (q_eql rfl rfl) ?_
    refine t_q (q_as (.bool _) rfl) ?_
    refine t_nil ?_
    refine c_cond rfl ?_ ?_
    · intro hc4
      have hc4d := of_decide_eq_true hc4
      refine c_exit ?_
      refine ite_t rfl ?_
      refine c_seq ?_
      refine c_region ?_
      refine t_q (q_assign) ?_
      refine t_nil ?_
      refine c_exit ?_
      refine ite_f (by decide) ?_
      refine ite_f (by decide) ?_
      refine ite_f (by decide) ?_
      refine ite_f (by decide) ?_
      refine ite_f (by decide) ?_
      refine ite_f (by decide) ?_
      refine ite_f (by decide) ?_
      refine ite_f (by decide) ?_
      refine ite_f (by decide) ?_
      refine ite_f (by decide) ?_
      refine ite_t rfl ?_
      refine c_seq ?_
      refine c_region ?_
      refine t_q (q_mv (.int _ _) rfl) ?_
      refine t_q (q_as (.int _ _) rfl) ?_
      refine t_q (q_assign) ?_
      refine t_nil ?_
      refine c_ret ?_
      refine r_two rfl rfl rfl ?_
      have hN := hS.nil
      clear hS
      first
        | (have h1 : cfl n = 0 := cfl_none (by omega)
           have h2 : cok n = true := decide_eq_true (by omega)
           rw [h1, h2]
           exact ⟨rfl, hN⟩)
        | (have h1 : cfl n = 0 := cfl_none (by omega)
           have h2 : cok n = false := decide_eq_false (by omega)
           rw [h1, h2]
           exact ⟨rfl, hN⟩)
        | (have hn : n = 1 ∨ n = 2 ∨ n = 3 ∨ n = 5 ∨ n = 4 ∨ n = 8 ∨ n = 9 ∨ n = 10 ∨ n = 13 ∨ n = 11 := by omega
           rcases hn with h | h | h | h | h | h | h | h | h | h <;> subst h <;> first | exact ⟨rfl, hN⟩ | (exfalso; omega))
    · intro hc4
      have hc4d := of_decide_eq_false hc4
      refine c_skip ?_
      refine c_seq ?_
      refine c_seq ?_
      refine c_region ?_
      refine t_q (q_eql rfl rfl) ?_
      refine t_q (q_as (.bool _) rfl) ?_
      refine t_nil ?_
      refine c_cond rfl ?_ ?_
      · intro hc6
        have hc6d := of_decide_eq_true hc6
        refine c_exit ?_
        refine ite_f (by decide) ?_
        refine ite_t rfl ?_
        refine c_region ?_
        refine t_q (q_assign) ?_
        refine t_nil ?_
        refine c_region ?_
        refine t_q (q_mv (.int _ _) rfl) ?_
        refine t_q (q_or rfl rfl) ?_
        refine t_q (q_as (.int _ _) rfl) ?_
        refine t_nil ?_
        refine c_seq ?_
        refine c_region ?_
        refine t_q (q_mv (.int _ _) rfl) ?_
        refine t_q (q_or rfl rfl) ?_
        refine t_q (q_as (.int _ _) rfl) ?_
        refine t_nil ?_
        refine c_exit ?_
        refine ite_f (by decide) ?_
        refine ite_f (by decide) ?_
        refine ite_f (by decide) ?_
        refine ite_f (by decide) ?_
        refine ite_f (by decide) ?_
        refine ite_f (by decide) ?_
        refine ite_f (by decide) ?_
        refine ite_t rfl ?_
        refine c_seq ?_
        refine c_region ?_
        refine t_q (q_mv (.int _ _) rfl) ?_
        refine t_q (q_as (.int _ _) rfl) ?_
        refine t_q (q_assign) ?_
        refine t_nil ?_
        refine c_ret ?_
        refine r_two rfl rfl rfl ?_
        have hN := hS.nil
        clear hS
        first
          | (have h1 : cfl n = 0 := cfl_none (by omega)
             have h2 : cok n = true := decide_eq_true (by omega)
             rw [h1, h2]
             exact ⟨rfl, hN⟩)
          | (have h1 : cfl n = 0 := cfl_none (by omega)
             have h2 : cok n = false := decide_eq_false (by omega)
             rw [h1, h2]
             exact ⟨rfl, hN⟩)
          | (have hn : n = 1 ∨ n = 2 ∨ n = 3 ∨ n = 5 ∨ n = 4 ∨ n = 8 ∨ n = 9 ∨ n = 10 ∨ n = 13 ∨ n = 11 := by omega
             rcases hn with h | h | h | h | h | h | h | h | h | h <;> subst h <;> first | exact ⟨rfl, hN⟩ | (exfalso; omega))
      · intro hc6
        have hc6d := of_decide_eq_false hc6
        refine c_skip ?_
        refine c_seq ?_
        refine c_seq ?_
        refine c_region ?_
        refine t_q (q_eql rfl rfl) ?_
        refine t_q (q_as (.bool _) rfl) ?_
        refine t_nil ?_
        refine c_cond rfl ?_ ?_
        · intro hc8
          have hc8d := of_decide_eq_true hc8
          refine c_exit ?_
          refine ite_f (by decide) ?_
          refine ite_f (by decide) ?_
          refine ite_t rfl ?_
          refine c_region ?_
          refine t_q (q_mv (.int _ _) rfl) ?_
          refine t_q (q_or rfl rfl) ?_
          refine t_q (q_as (.int _ _) rfl) ?_
          refine t_nil ?_
          refine c_seq ?_
          refine c_region ?_
          refine t_q (q_mv (.int _ _) rfl) ?_
          refine t_q (q_or rfl rfl) ?_
          refine t_q (q_as (.int _ _) rfl) ?_
          refine t_nil ?_
          refine c_exit ?_
          refine ite_f (by decide) ?_
          refine ite_f (by decide) ?_
          refine ite_f (by decide) ?_
          refine ite_f (by decide) ?_
          refine ite_f (by decide) ?_
          refine ite_f (by decide) ?_
          refine ite_f (by decide) ?_
          refine ite_t rfl ?_
          refine c_seq ?_
          refine c_region ?_
          refine t_q (q_mv (.int _ _) rfl) ?_
          refine t_q (q_as (.int _ _) rfl) ?_
          refine t_q (q_assign) ?_
          refine t_nil ?_
          refine c_ret ?_
          refine r_two rfl rfl rfl ?_
          have hN := hS.nil
          clear hS
          first
            | (have h1 : cfl n = 0 := cfl_none (by omega)
               have h2 : cok n = true := decide_eq_true (by omega)
               rw [h1, h2]
               exact ⟨rfl, hN⟩)
            | (have h1 : cfl n = 0 := cfl_none (by omega)
               have h2 : cok n = false := decide_eq_false (by omega)
               rw [h1, h2]
               exact ⟨rfl, hN⟩)
            | (have hn : n = 1 ∨ n = 2 ∨ n = 3 ∨ n = 5 ∨ n = 4 ∨ n = 8 ∨ n = 9 ∨ n = 10 ∨ n = 13 ∨ n = 11 := by omega
               rcases hn with h | h | h | h | h | h | h | h | h | h <;> subst h <;> first | exact ⟨rfl, hN⟩ | (exfalso; omega))
        · intro hc8
          have hc8d := of_decide_eq_false hc8
          refine c_skip ?_
          refine c_seq ?_
          refine c_seq ?_
          refine c_region ?_
          refine t_q (q_eql rfl rfl) ?_
          refine t_q (q_as (.bool _) rfl) ?_
          refine t_nil ?_
          refine c_cond rfl ?_ ?_
          · intro hc10
            have hc10d := of_decide_eq_true hc10
            refine c_exit ?_
            refine ite_f (by decide) ?_
            refine ite_f (by decide) ?_
            refine ite_f (by decide) ?_
            refine ite_t rfl ?_
            refine c_seq ?_
            refine c_region ?_
            refine t_q (q_mv (.int _ _) rfl) ?_
            refine t_q (q_or rfl rfl) ?_
            refine t_q (q_as (.int _ _) rfl) ?_
            refine t_nil ?_
            refine c_exit ?_
            refine ite_f (by decide) ?_
            refine ite_f (by decide) ?_
            refine ite_f (by decide) ?_
            refine ite_f (by decide) ?_
            refine ite_f (by decide) ?_
            refine ite_f (by decide) ?_
            refine ite_f (by decide) ?_
            refine ite_t rfl ?_
            refine c_seq ?_
            refine c_region ?_
            refine t_q (q_mv (.int _ _) rfl) ?_
            refine t_q (q_as (.int _ _) rfl) ?_
            refine t_q (q_assign) ?_
            refine t_nil ?_
            refine c_ret ?_
            refine r_two rfl rfl rfl ?_
            have hN := hS.nil
            clear hS
            first
              | (have h1 : cfl n = 0 := cfl_none (by omega)
                 have h2 : cok n = true := decide_eq_true (by omega)
                 rw [h1, h2]
                 exact ⟨rfl, hN⟩)
              | (have h1 : cfl n = 0 := cfl_none (by omega)
                 have h2 : cok n = false := decide_eq_false (by omega)
                 rw [h1, h2]
                 exact ⟨rfl, hN⟩)
              | (have hn : n = 1 ∨ n = 2 ∨ n = 3 ∨ n = 5 ∨ n = 4 ∨ n = 8 ∨ n = 9 ∨ n = 10 ∨ n = 13 ∨ n = 11 := by omega
                 rcases hn with h | h | h | h | h | h | h | h | h | h <;> subst h <;> first | exact ⟨rfl, hN⟩ | (exfalso; omega))
          · intro hc10
            have hc10d := of_decide_eq_false hc10
            refine c_skip ?_
            refine c_seq ?_
            refine c_seq ?_
            refine c_region ?_
            refine t_q (q_eql rfl rfl) ?_
            refine t_q (q_as (.bool _) rfl) ?_
            refine t_nil ?_
            refine c_cond rfl ?_ ?_
            · intro hc12
              have hc12d := of_decide_eq_true hc12
              refine c_exit ?_
              refine ite_f (by decide) ?_
              refine ite_f (by decide) ?_
              refine ite_f (by decide) ?_
              refine ite_f (by decide) ?_
              refine ite_t rfl ?_
              refine c_seq ?_
              refine c_region ?_
              refine t_q (q_assign) ?_
              refine t_nil ?_
              refine c_exit ?_
              refine ite_f (by decide) ?_
              refine ite_f (by decide) ?_
              refine ite_f (by decide) ?_
              refine ite_f (by decide) ?_
              refine ite_f (by decide) ?_
              refine ite_f (by decide) ?_
              refine ite_t rfl ?_
              refine c_seq ?_
              refine c_region ?_
              refine t_q (q_mv (.int _ _) rfl) ?_
              refine t_q (q_as (.int _ _) rfl) ?_
              refine t_q (q_assign) ?_
              refine t_nil ?_
              refine c_ret ?_
              refine r_two rfl rfl rfl ?_
              have hN := hS.nil
              clear hS
              first
                | (have h1 : cfl n = 0 := cfl_none (by omega)
                   have h2 : cok n = true := decide_eq_true (by omega)
                   rw [h1, h2]
                   exact ⟨rfl, hN⟩)
                | (have h1 : cfl n = 0 := cfl_none (by omega)
                   have h2 : cok n = false := decide_eq_false (by omega)
                   rw [h1, h2]
                   exact ⟨rfl, hN⟩)
                | (have hn : n = 1 ∨ n = 2 ∨ n = 3 ∨ n = 5 ∨ n = 4 ∨ n = 8 ∨ n = 9 ∨ n = 10 ∨ n = 13 ∨ n = 11 := by omega
                   rcases hn with h | h | h | h | h | h | h | h | h | h <;> subst h <;> first | exact ⟨rfl, hN⟩ | (exfalso; omega))
            · intro hc12
              have hc12d := of_decide_eq_false hc12
              refine c_skip ?_
              refine c_seq ?_
              refine c_seq ?_
              refine c_region ?_
              refine t_q (q_eql rfl rfl) ?_
              refine t_q (q_as (.bool _) rfl) ?_
              refine t_nil ?_
              refine c_cond rfl ?_ ?_
              · intro hc14
                have hc14d := of_decide_eq_true hc14
                refine c_exit ?_
                refine ite_f (by decide) ?_
                refine ite_f (by decide) ?_
                refine ite_f (by decide) ?_
                refine ite_f (by decide) ?_
                refine ite_f (by decide) ?_
                refine ite_t rfl ?_
                refine c_seq ?_
                refine c_region ?_
                refine t_q (q_assign) ?_
                refine t_nil ?_
                refine c_exit ?_
                refine ite_f (by decide) ?_
                refine ite_f (by decide) ?_
                refine ite_f (by decide) ?_
                refine ite_f (by decide) ?_
                refine ite_f (by decide) ?_
                refine ite_t rfl ?_
                refine c_seq ?_
                refine c_region ?_
                refine t_q (q_mv (.int _ _) rfl) ?_
                refine t_q (q_as (.int _ _) rfl) ?_
                refine t_q (q_assign) ?_
                refine t_nil ?_
                refine c_ret ?_
                refine r_two rfl rfl rfl ?_
                have hN := hS.nil
                clear hS
                first
                  | (have h1 : cfl n = 0 := cfl_none (by omega)
                     have h2 : cok n = true := decide_eq_true (by omega)
                     rw [h1, h2]
                     exact ⟨rfl, hN⟩)
                  | (have h1 : cfl n = 0 := cfl_none (by omega)
                     have h2 : cok n = false := decide_eq_false (by omega)
                     rw [h1, h2]
                     exact ⟨rfl, hN⟩)
                  | (have hn : n = 1 ∨ n = 2 ∨ n = 3 ∨ n = 5 ∨ n = 4 ∨ n = 8 ∨ n = 9 ∨ n = 10 ∨ n = 13 ∨ n = 11 := by omega
                     rcases hn with h | h | h | h | h | h | h | h | h | h <;> subst h <;> first | exact ⟨rfl, hN⟩ | (exfalso; omega))
              · intro hc14
                have hc14d := of_decide_eq_false hc14
                refine c_skip ?_
                refine c_seq ?_
                refine c_seq ?_
                refine c_region ?_
                refine t_q (q_eql rfl rfl) ?_
                refine t_q (q_as (.bool _) rfl) ?_
                refine t_nil ?_
                refine c_cond rfl ?_ ?_
                · intro hc16
                  have hc16d := of_decide_eq_true hc16
                  refine c_exit ?_
                  refine ite_f (by decide) ?_
                  refine ite_f (by decide) ?_
                  refine ite_f (by decide) ?_
                  refine ite_f (by decide) ?_
                  refine ite_f (by decide) ?_
                  refine ite_f (by decide) ?_
                  refine ite_t rfl ?_
                  refine c_seq ?_
                  refine c_region ?_
                  refine t_q (q_assign) ?_
                  refine t_nil ?_
                  refine c_exit ?_
                  refine ite_f (by decide) ?_
                  refine ite_f (by decide) ?_
                  refine ite_f (by decide) ?_
                  refine ite_f (by decide) ?_
                  refine ite_t rfl ?_
                  refine c_seq ?_
                  refine c_region ?_
                  refine t_q (q_mv (.int _ _) rfl) ?_
                  refine t_q (q_as (.int _ _) rfl) ?_
                  refine t_q (q_assign) ?_
                  refine t_nil ?_
                  refine c_ret ?_
                  refine r_two rfl rfl rfl ?_
                  have hN := hS.nil
                  clear hS
                  first
                    | (have h1 : cfl n = 0 := cfl_none (by omega)
                       have h2 : cok n = true := decide_eq_true (by omega)
                       rw [h1, h2]
                       exact ⟨rfl, hN⟩)
                    | (have h1 : cfl n = 0 := cfl_none (by omega)
                       have h2 : cok n = false := decide_eq_false (by omega)
                       rw [h1, h2]
                       exact ⟨rfl, hN⟩)
                    | (have hn : n = 1 ∨ n = 2 ∨ n = 3 ∨ n = 5 ∨ n = 4 ∨ n = 8 ∨ n = 9 ∨ n = 10 ∨ n = 13 ∨ n = 11 := by omega
                       rcases hn with h | h | h | h | h | h | h | h | h | h <;> subst h <;> first | exact ⟨rfl, hN⟩ | (exfalso; omega))
                · intro hc16
                  have hc16d := of_decide_eq_false hc16
                  refine c_skip ?_
                  refine c_seq ?_
                  refine c_seq ?_
                  refine c_region ?_
                  refine t_q (q_eql rfl rfl) ?_
                  refine t_q (q_as (.bool _) rfl) ?_
                  refine t_nil ?_
                  refine c_cond rfl ?_ ?_
                  · intro hc18
                    have hc18d := of_decide_eq_true hc18
                    refine c_exit ?_
                    refine ite_f (by decide) ?_
                    refine ite_f (by decide) ?_
                    refine ite_f (by decide) ?_
                    refine ite_f (by decide) ?_
                    refine ite_f (by decide) ?_
                    refine ite_f (by decide) ?_
                    refine ite_f (by decide) ?_
                    refine ite_t rfl ?_
                    refine c_region ?_
                    refine t_q (q_assign) ?_
                    refine t_nil ?_
                    refine c_seq ?_
                    refine c_region ?_
                    refine t_q (q_mv (.int _ _) rfl) ?_
                    refine t_q (q_or rfl rfl) ?_
                    refine t_q (q_as (.int _ _) rfl) ?_
                    refine t_nil ?_
                    refine c_exit ?_
                    refine ite_f (by decide) ?_
                    refine ite_f (by decide) ?_
                    refine ite_t rfl ?_
                    refine c_seq ?_
                    refine c_region ?_
                    refine t_q (q_mv (.int _ _) rfl) ?_
                    refine t_q (q_as (.int _ _) rfl) ?_
                    refine t_q (q_assign) ?_
                    refine t_nil ?_
                    refine c_ret ?_
                    refine r_two rfl rfl rfl ?_
                    have hN := hS.nil
                    clear hS
                    first
                      | (have h1 : cfl n = 0 := cfl_none (by omega)
                         have h2 : cok n = true := decide_eq_true (by omega)
                         rw [h1, h2]
                         exact ⟨rfl, hN⟩)
                      | (have h1 : cfl n = 0 := cfl_none (by omega)
                         have h2 : cok n = false := decide_eq_false (by omega)
                         rw [h1, h2]
                         exact ⟨rfl, hN⟩)
                      | (have hn : n = 1 ∨ n = 2 ∨ n = 3 ∨ n = 5 ∨ n = 4 ∨ n = 8 ∨ n = 9 ∨ n = 10 ∨ n = 13 ∨ n = 11 := by omega
                         rcases hn with h | h | h | h | h | h | h | h | h | h <;> subst h <;> first | exact ⟨rfl, hN⟩ | (exfalso; omega))
                  · intro hc18
                    have hc18d := of_decide_eq_false hc18
                    refine c_skip ?_
                    refine c_seq ?_
                    refine c_seq ?_
                    refine c_region ?_
                    refine t_q (q_eql rfl rfl) ?_
                    refine t_q (q_as (.bool _) rfl) ?_
                    refine t_nil ?_
                    refine c_cond rfl ?_ ?_
                    · intro hc20
                      have hc20d := of_decide_eq_true hc20
                      refine c_exit ?_
                      refine ite_f (by decide) ?_
                      refine ite_f (by decide) ?_
                      refine ite_f (by decide) ?_
                      refine ite_f (by decide) ?_
                      refine ite_f (by decide) ?_
                      refine ite_f (by decide) ?_
                      refine ite_f (by decide) ?_
                      refine ite_f (by decide) ?_
                      refine ite_t rfl ?_
                      refine c_seq ?_
                      refine c_region ?_
                      refine t_q (q_mv (.int _ _) rfl) ?_
                      refine t_q (q_or rfl rfl) ?_
                      refine t_q (q_as (.int _ _) rfl) ?_
                      refine t_nil ?_
                      refine c_exit ?_
                      refine ite_f (by decide) ?_
                      refine ite_f (by decide) ?_
                      refine ite_t rfl ?_
                      refine c_seq ?_
                      refine c_region ?_
                      refine t_q (q_mv (.int _ _) rfl) ?_
                      refine t_q (q_as (.int _ _) rfl) ?_
                      refine t_q (q_assign) ?_
                      refine t_nil ?_
                      refine c_ret ?_
                      refine r_two rfl rfl rfl ?_
                      have hN := hS.nil
                      clear hS
                      first
                        | (have h1 : cfl n = 0 := cfl_none (by omega)
                           have h2 : cok n = true := decide_eq_true (by omega)
                           rw [h1, h2]
                           exact ⟨rfl, hN⟩)
                        | (have h1 : cfl n = 0 := cfl_none (by omega)
                           have h2 : cok n = false := decide_eq_false (by omega)
                           rw [h1, h2]
                           exact ⟨rfl, hN⟩)
                        | (have hn : n = 1 ∨ n = 2 ∨ n = 3 ∨ n = 5 ∨ n = 4 ∨ n = 8 ∨ n = 9 ∨ n = 10 ∨ n = 13 ∨ n = 11 := by omega
                           rcases hn with h | h | h | h | h | h | h | h | h | h <;> subst h <;> first | exact ⟨rfl, hN⟩ | (exfalso; omega))
                    · intro hc20
                      have hc20d := of_decide_eq_false hc20
                      refine c_skip ?_
                      refine c_seq ?_
                      refine c_seq ?_
                      refine c_region ?_
                      refine t_q (q_eql rfl rfl) ?_
                      refine t_q (q_as (.bool _) rfl) ?_
                      refine t_nil ?_
                      refine c_cond rfl ?_ ?_
                      · intro hc22
                        have hc22d := of_decide_eq_true hc22
                        refine c_skip ?_
                        refine c_cond_t rfl hc22 ?_
                        refine c_exit ?_
                        refine ite_f (by decide) ?_
                        refine ite_f (by decide) ?_
                        refine ite_f (by decide) ?_
                        refine ite_f (by decide) ?_
                        refine ite_f (by decide) ?_
                        refine ite_f (by decide) ?_
                        refine ite_f (by decide) ?_
                        refine ite_f (by decide) ?_
                        refine ite_f (by decide) ?_
                        refine ite_t rfl ?_
                        refine c_exit ?_
                        refine ite_f (by decide) ?_
                        refine ite_t rfl ?_
                        refine c_seq ?_
                        refine c_region ?_
                        refine t_q (q_mv (.int _ _) rfl) ?_
                        refine t_q (q_as (.int _ _) rfl) ?_
                        refine t_q (q_assign) ?_
                        refine t_nil ?_
                        refine c_ret ?_
                        refine r_two rfl rfl rfl ?_
                        have hN := hS.nil
                        clear hS
                        first
                          | (have h1 : cfl n = 0 := cfl_none (by omega)
                             have h2 : cok n = true := decide_eq_true (by omega)
                             rw [h1, h2]
                             exact ⟨rfl, hN⟩)
                          | (have h1 : cfl n = 0 := cfl_none (by omega)
                             have h2 : cok n = false := decide_eq_false (by omega)
                             rw [h1, h2]
                             exact ⟨rfl, hN⟩)
                          | (have hn : n = 1 ∨ n = 2 ∨ n = 3 ∨ n = 5 ∨ n = 4 ∨ n = 8 ∨ n = 9 ∨ n = 10 ∨ n = 13 ∨ n = 11 := by omega
                             rcases hn with h | h | h | h | h | h | h | h | h | h <;> subst h <;> first | exact ⟨rfl, hN⟩ | (exfalso; omega))
                      · intro hc22
                        have hc22d := of_decide_eq_false hc22
                        refine c_seq ?_
                        refine c_region ?_
                        refine t_q (q_eql rfl rfl) ?_
                        refine t_q (q_as (.bool _) rfl) ?_
                        refine t_nil ?_
                        refine c_cond rfl ?_ ?_
                        · intro hc24
                          have hc24d := of_decide_eq_true hc24
                          refine c_skip ?_
                          refine c_cond_t rfl hc24 ?_
                          refine c_exit ?_
                          refine ite_f (by decide) ?_
                          refine ite_f (by decide) ?_
                          refine ite_f (by decide) ?_
                          refine ite_f (by decide) ?_
                          refine ite_f (by decide) ?_
                          refine ite_f (by decide) ?_
                          refine ite_f (by decide) ?_
                          refine ite_f (by decide) ?_
                          refine ite_f (by decide) ?_
                          refine ite_t rfl ?_
                          refine c_exit ?_
                          refine ite_f (by decide) ?_
                          refine ite_t rfl ?_
                          refine c_seq ?_
                          refine c_region ?_
                          refine t_q (q_mv (.int _ _) rfl) ?_
                          refine t_q (q_as (.int _ _) rfl) ?_
                          refine t_q (q_assign) ?_
                          refine t_nil ?_
                          refine c_ret ?_
                          refine r_two rfl rfl rfl ?_
                          have hN := hS.nil
                          clear hS
                          first
                            | (have h1 : cfl n = 0 := cfl_none (by omega)
                               have h2 : cok n = true := decide_eq_true (by omega)
                               rw [h1, h2]
                               exact ⟨rfl, hN⟩)
                            | (have h1 : cfl n = 0 := cfl_none (by omega)
                               have h2 : cok n = false := decide_eq_false (by omega)
                               rw [h1, h2]
                               exact ⟨rfl, hN⟩)
                            | (have hn : n = 1 ∨ n = 2 ∨ n = 3 ∨ n = 5 ∨ n = 4 ∨ n = 8 ∨ n = 9 ∨ n = 10 ∨ n = 13 ∨ n = 11 := by omega
                               rcases hn with h | h | h | h | h | h | h | h | h | h <;> subst h <;> first | exact ⟨rfl, hN⟩ | (exfalso; omega))
                        · intro hc24
                          have hc24d := of_decide_eq_false hc24
                          refine c_seq ?_
                          refine c_region ?_
                          refine t_q (q_eql rfl rfl) ?_
                          refine t_q (q_as (.bool _) rfl) ?_
                          refine t_nil ?_
                          refine c_cond rfl ?_ ?_
                          · intro hc26
                            have hc26d := of_decide_eq_true hc26
                            refine c_skip ?_
                            refine c_cond_t rfl hc26 ?_
                            refine c_exit ?_
                            refine ite_f (by decide) ?_
                            refine ite_f (by decide) ?_
                            refine ite_f (by decide) ?_
                            refine ite_f (by decide) ?_
                            refine ite_f (by decide) ?_
                            refine ite_f (by decide) ?_
                            refine ite_f (by decide) ?_
                            refine ite_f (by decide) ?_
                            refine ite_f (by decide) ?_
                            refine ite_t rfl ?_
                            refine c_exit ?_
                            refine ite_f (by decide) ?_
                            refine ite_t rfl ?_
                            refine c_seq ?_
                            refine c_region ?_
                            refine t_q (q_mv (.int _ _) rfl) ?_
                            refine t_q (q_as (.int _ _) rfl) ?_
                            refine t_q (q_assign) ?_
                            refine t_nil ?_
                            refine c_ret ?_
                            refine r_two rfl rfl rfl ?_
                            have hN := hS.nil
                            clear hS
                            first
                              | (have h1 : cfl n = 0 := cfl_none (by omega)
                                 have h2 : cok n = true := decide_eq_true (by omega)
                                 rw [h1, h2]
                                 exact ⟨rfl, hN⟩)
                              | (have h1 : cfl n = 0 := cfl_none (by omega)
                                 have h2 : cok n = false := decide_eq_false (by omega)
                                 rw [h1, h2]
                                 exact ⟨rfl, hN⟩)
                              | (have hn : n = 1 ∨ n = 2 ∨ n = 3 ∨ n = 5 ∨ n = 4 ∨ n = 8 ∨ n = 9 ∨ n = 10 ∨ n = 13 ∨ n = 11 := by omega
                                 rcases hn with h | h | h | h | h | h | h | h | h | h <;> subst h <;> first | exact ⟨rfl, hN⟩ | (exfalso; omega))
                          · intro hc26
                            have hc26d := of_decide_eq_false hc26
                            refine c_seq ?_
                            refine c_region ?_
                            refine t_q (q_eql rfl rfl) ?_
                            refine t_q (q_as (.bool _) rfl) ?_
                            refine t_nil ?_
                            refine c_cond rfl ?_ ?_
                            · intro hc28
                              have hc28d := of_decide_eq_true hc28
                              refine c_skip ?_
                              refine c_cond_t rfl hc28 ?_
                              refine c_exit ?_
                              refine ite_f (by decide) ?_
                              refine ite_f (by decide) ?_
                              refine ite_f (by decide) ?_
                              refine ite_f (by decide) ?_
                              refine ite_f (by decide) ?_
                              refine ite_f (by decide) ?_
                              refine ite_f (by decide) ?_
                              refine ite_f (by decide) ?_
                              refine ite_f (by decide) ?_
                              refine ite_t rfl ?_
                              refine c_exit ?_
                              refine ite_f (by decide) ?_
                              refine ite_t rfl ?_
                              refine c_seq ?_
                              refine c_region ?_
                              refine t_q (q_mv (.int _ _) rfl) ?_
                              refine t_q (q_as (.int _ _) rfl) ?_
                              refine t_q (q_assign) ?_
                              refine t_nil ?_
                              refine c_ret ?_
                              refine r_two rfl rfl rfl ?_
                              have hN := hS.nil
                              clear hS
                              first
                                | (have h1 : cfl n = 0 := cfl_none (by omega)
                                   have h2 : cok n = true := decide_eq_true (by omega)
                                   rw [h1, h2]
                                   exact ⟨rfl, hN⟩)
                                | (have h1 : cfl n = 0 := cfl_none (by omega)
                                   have h2 : cok n = false := decide_eq_false (by omega)
                                   rw [h1, h2]
                                   exact ⟨rfl, hN⟩)
                                | (have hn : n = 1 ∨ n = 2 ∨ n = 3 ∨ n = 5 ∨ n = 4 ∨ n = 8 ∨ n = 9 ∨ n = 10 ∨ n = 13 ∨ n = 11 := by omega
                                   rcases hn with h | h | h | h | h | h | h | h | h | h <;> subst h <;> first | exact ⟨rfl, hN⟩ | (exfalso; omega))
                            · intro hc28
                              have hc28d := of_decide_eq_false hc28
                              refine c_region ?_
                              refine t_q (q_eql rfl rfl) ?_
                              refine t_q (q_as (.bool _) rfl) ?_
                              refine t_nil ?_
                              refine c_cond rfl ?_ ?_
                              · intro hc30
                                have hc30d := of_decide_eq_true hc30
                                refine c_exit ?_
                                refine ite_f (by decide) ?_
                                refine ite_f (by decide) ?_
                                refine ite_f (by decide) ?_
                                refine ite_f (by decide) ?_
                                refine ite_f (by decide) ?_
                                refine ite_f (by decide) ?_
                                refine ite_f (by decide) ?_
                                refine ite_f (by decide) ?_
                                refine ite_f (by decide) ?_
                                refine ite_t rfl ?_
                                refine c_exit ?_
                                refine ite_f (by decide) ?_
                                refine ite_t rfl ?_
                                refine c_seq ?_
                                refine c_region ?_
                                refine t_q (q_mv (.int _ _) rfl) ?_
                                refine t_q (q_as (.int _ _) rfl) ?_
                                refine t_q (q_assign) ?_
                                refine t_nil ?_
                                refine c_ret ?_
                                refine r_two rfl rfl rfl ?_
                                have hN := hS.nil
                                clear hS
                                first
                                  | (have h1 : cfl n = 0 := cfl_none (by omega)
                                     have h2 : cok n = true := decide_eq_true (by omega)
                                     rw [h1, h2]
                                     exact ⟨rfl, hN⟩)
                                  | (have h1 : cfl n = 0 := cfl_none (by omega)
                                     have h2 : cok n = false := decide_eq_false (by omega)
                                     rw [h1, h2]
                                     exact ⟨rfl, hN⟩)
                                  | (have hn : n = 1 ∨ n = 2 ∨ n = 3 ∨ n = 5 ∨ n = 4 ∨ n = 8 ∨ n = 9 ∨ n = 10 ∨ n = 13 ∨ n = 11 := by omega
                                     rcases hn with h | h | h | h | h | h | h | h | h | h <;> subst h <;> first | exact ⟨rfl, hN⟩ | (exfalso; omega))
                              · intro hc30
                                have hc30d := of_decide_eq_false hc30
                                refine c_skip ?_
                                refine c_exit ?_
                                refine ite_f (by decide) ?_
                                refine ite_f (by decide) ?_
                                refine ite_f (by decide) ?_
                                refine ite_f (by decide) ?_
                                refine ite_f (by decide) ?_
                                refine ite_f (by decide) ?_
                                refine ite_f (by decide) ?_
                                refine ite_f (by decide) ?_
                                refine ite_f (by decide) ?_
                                refine ite_f (by decide) ?_
                                refine ite_t rfl ?_
                                refine c_seq ?_
                                refine c_seq ?_
                                refine c_region ?_
                                refine t_q (q_assign) ?_
                                refine t_q (q_assign) ?_
                                refine t_nil ?_
                                refine c_ret ?_
                                refine r_two rfl rfl rfl ?_
                                have hN := hS.nil
                                clear hS
                                first
                                  | (have h1 : cfl n = 0 := cfl_none (by omega)
                                     have h2 : cok n = true := decide_eq_true (by omega)
                                     rw [h1, h2]
                                     exact ⟨rfl, hN⟩)
                                  | (have h1 : cfl n = 0 := cfl_none (by omega)
                                     have h2 : cok n = false := decide_eq_false (by omega)
                                     rw [h1, h2]
                                     exact ⟨rfl, hN⟩)
                                  | (have hn : n = 1 ∨ n = 2 ∨ n = 3 ∨ n = 5 ∨ n = 4 ∨ n = 8 ∨ n = 9 ∨ n = 10 ∨ n = 13 ∨ n = 11 := by omega
                                     rcases hn with h | h | h | h | h | h | h | h | h | h <;> subst h <;> first | exact ⟨rfl, hN⟩ | (exfalso; omega))
end Go.Proofs.Ytmgobaojioaioaa
