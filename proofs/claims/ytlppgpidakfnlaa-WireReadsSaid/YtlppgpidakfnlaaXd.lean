/- Messages: which may be: the fields of a kind, the numbers. -/
import Derived.Test.YtlppgpidakfnlaaXc
import Derived.Test.YtlppgpidakfnlaaCl
import Derived.Test.YtlppgpidakfnlaaDr
import Derived.Test.YtlppgpidakfnlaaQ
import Derived.Laws.MakeOwn
namespace Go.Proofs.Ytlppgpidakfnlaa
open Go Go.RowKit Go.Lib
variable {W : World}
def fl (n : Int) : Int := if n = 3 then 30 else if n = 1 then 6 else if n = 4 then 3 else if n = 2 then 1 else if n = 5 then 38 else if n = 6 then 2 else if n = 7 then 32 else if n = 8 then 64 else 0
theorem fl_some (n : Int) : (n = 1 ∧ fl n = 6) ∨ (n = 2 ∧ fl n = 1) ∨ (n = 3 ∧ fl n = 30) ∨ (n = 4 ∧ fl n = 3) ∨ (n = 5 ∧ fl n = 38) ∨ (n = 6 ∧ fl n = 2) ∨ (n = 7 ∧ fl n = 32) ∨ (n = 8 ∧ fl n = 64) ∨ ((n < 1 ∨ 8 < n) ∧ fl n = 0) := by
  by_cases h1 : n = 1
  · subst h1; simp [fl]
  · by_cases h2 : n = 2
    · subst h2; simp [fl]
    · by_cases h3 : n = 3
      · subst h3; simp [fl]
      · by_cases h4 : n = 4
        · subst h4; simp [fl]
        · by_cases h5 : n = 5
          · subst h5; simp [fl]
          · by_cases h6 : n = 6
            · subst h6; simp [fl]
            · by_cases h7 : n = 7
              · subst h7; simp [fl]
              · by_cases h8 : n = 8
                · subst h8; simp [fl]
                · have : fl n = 0 := by unfold fl; rw [if_neg h3, if_neg h1, if_neg h4, if_neg h2, if_neg h5, if_neg h6, if_neg h7, if_neg h8]
                  omega
/-- does a kind have a field? -/
def hasF (v : Int) (m : Nat) : Bool := decide (v.toNat / m % 2 = 1)
def sl0 {β : Type} : Sl β := ⟨none, 0, []⟩
def keepV (v : Int) (x : MsgV) : MsgV :=
  { x with
    index := if hasF v 2 then x.index else 0
    logTerm := if hasF v 4 then x.logTerm else 0
    commit := if hasF v 8 then x.commit else 0
    ok := if hasF v 1 then x.ok else false
    entries := if hasF v 8 then x.entries else sl0
    body := if hasF v 32 then x.body else sl0
    client := if hasF v 64 then x.client else 0
    req := if hasF v 64 then x.req else 0
    events := if hasF v 64 then x.events else sl0 }
def nodeB (n : Int) : Bool := decide (0 ≤ n ∧ n < 16)
def entFine (e : EntV) : Bool := decide (e.index ≤ 4611686018427387904 ∧ e.term ≤ 4611686018427387904 ∧ e.body.l.length ≤ 512)
def fitB (x : MsgV) : Bool := decide (x.term ≤ 4611686018427387904 ∧ x.index ≤ 4611686018427387904 ∧ x.logTerm ≤ 4611686018427387904 ∧ x.commit ≤ 4611686018427387904 ∧ x.client ≤ 8 ∧ x.entries.l.length ≤ 32 ∧ x.body.l.length ≤ 524288 ∧ (x.kind = 7 → x.body.l.length ≤ 512) ∧ evE x.events.l = 0 ∧ x.entries.l.all entFine = true)
def soundB (x : MsgV) : Bool := decide (fl x.kind ≠ 0) && (nodeB x.frm && (nodeB x.to && (decide ((keepV (fl x.kind) x).vw = x.vw) && fitB x)))
theorem all_fine {l : List EntV} (h : ∀ i, i < l.length → entFine (l.getD i default) = true) : l.all entFine = true := by
  rw [List.all_eq_true]
  intro e he
  obtain ⟨i, hi, rfl⟩ := List.mem_iff_getElem.1 he
  have := h i hi
  rwa [List.getD_eq_getElem?_getD, List.getElem?_eq_getElem hi] at this
theorem all_not {l : List EntV} {j : Nat} (hj : j < l.length) (h : entFine (l.getD j default) = false) : l.all entFine = false := by
  cases hb : l.all entFine with
  | false => rfl
  | true =>
    rw [List.all_eq_true] at hb
    have := hb _ (getD_mem (d := default) hj)
    rw [this] at h
    cases h
theorem bnt {b : Bool} (h : (!b) = true) : b = false := by cases b <;> simp_all
theorem bnf {b : Bool} (h : (!b) = false) : b = true := by cases b <;> simp_all
theorem q_max4 {P : Program} {ρ : Env} {w : World} {ty : TypeId} {x y z u : Operand} {t1 t2 t3 t4 : TypeId} {k : IntKind} {a b c d : Int} (hx : ev ρ x = .int k a) (hy : ev ρ y = .int k b) (hz : ev ρ z = .int k c) (hu : ev ρ u = .int k d) :
    qv P (.call ⟨.builtin .max, #[x, y, z, u], #[t1, t2, t3, t4]⟩) ty ρ w (.int k (max (max (max a b) c) d)) := by
  intro _ _ _ _
  simp only [execOp, resolve, invoke, builtin, hx, hy, hz, hu, List.map_toArray, List.map_cons, List.map_nil]
  simp [Builtin.max_, Builtin.max2]
  omega
attribute [local irreducible] blkA rowA
set_option maxRecDepth 100000 in
theorem fields_1 : Calls Try.prog 102 #[.int .i64 1] W fun e w' => e = .returned (.int .i64 6) ∧ St W w' [] := by
 have hS := St.init W
 refine calls_of_wpE (args := [_]) Try.func102 rfl rfl rfl ?_
 refine c_seq (c_region ?_)
 refine t_q (q_assign) ?_
 refine t_nil (c_seq (c_seq (c_region ?_)))
 refine t_q (q_mv (.int _ _) rfl) ?_
 refine t_nil (c_block (c_seq (c_block (c_seq (c_block (c_seq (c_block (c_seq (c_block (c_seq (c_block (c_seq (c_block (c_seq (c_block (c_seq (c_block (c_seq (c_seq (c_seq (c_region ?_)))))))))))))))))))))
 refine t_q (q_eql rfl rfl) ?_
 refine t_q (q_as (.bool _) rfl) ?_
 refine t_nil ?_
 refine c_cond_f rfl rfl ?_
 refine c_skip (c_seq (c_seq (c_region ?_)))
 refine t_q (q_eql rfl rfl) ?_
 refine t_q (q_as (.bool _) rfl) ?_
 refine t_nil ?_
 refine c_cond_t rfl rfl ?_
 refine c_exit ?_
 refine ite_f (by decide) ?_
 refine ite_t rfl ?_
 refine c_seq (c_seq (c_region ?_))
 refine t_q (q_mv (.int _ _) rfl) ?_
 refine t_q (q_cast (v' := .int .i64 2) (q_or rfl rfl) (by rfl)) ?_
 refine t_q (q_cast (v' := .int .i64 6) (q_or rfl rfl) (by rfl)) ?_
 refine t_q (q_as (.int _ _) rfl) ?_
 refine t_nil (c_ret ?_)
 refine r_one rfl rfl ?_
 exact ⟨rfl, hS⟩
set_option maxRecDepth 100000 in
theorem fields_2 : Calls Try.prog 102 #[.int .i64 2] W fun e w' => e = .returned (.int .i64 1) ∧ St W w' [] := by
 have hS := St.init W
 refine calls_of_wpE (args := [_]) Try.func102 rfl rfl rfl ?_
 refine c_seq (c_region ?_)
 refine t_q (q_assign) ?_
 refine t_nil (c_seq (c_seq (c_region ?_)))
 refine t_q (q_mv (.int _ _) rfl) ?_
 refine t_nil (c_block (c_seq (c_block (c_seq (c_block (c_seq (c_block (c_seq (c_block (c_seq (c_block (c_seq (c_block (c_seq (c_block (c_seq (c_block (c_seq (c_seq (c_seq (c_region ?_)))))))))))))))))))))
 refine t_q (q_eql rfl rfl) ?_
 refine t_q (q_as (.bool _) rfl) ?_
 refine t_nil ?_
 refine c_cond_f rfl rfl ?_
 refine c_skip (c_seq (c_seq (c_region ?_)))
 refine t_q (q_eql rfl rfl) ?_
 refine t_q (q_as (.bool _) rfl) ?_
 refine t_nil ?_
 refine c_cond_f rfl rfl ?_
 refine c_skip (c_seq (c_seq (c_region ?_)))
 refine t_q (q_eql rfl rfl) ?_
 refine t_q (q_as (.bool _) rfl) ?_
 refine t_nil ?_
 refine c_cond_f rfl rfl ?_
 refine c_skip (c_seq (c_seq (c_region ?_)))
 refine t_q (q_eql rfl rfl) ?_
 refine t_q (q_as (.bool _) rfl) ?_
 refine t_nil ?_
 refine c_cond_t rfl rfl ?_
 refine c_exit ?_
 refine ite_f (by decide) ?_
 refine ite_f (by decide) ?_
 refine ite_f (by decide) ?_
 refine ite_t rfl ?_
 refine c_seq (c_seq (c_region ?_))
 refine t_q (q_mv (.int _ _) rfl) ?_
 refine t_q (q_cast (v' := .int .i64 1) (q_or rfl rfl) (by rfl)) ?_
 refine t_q (q_as (.int _ _) rfl) ?_
 refine t_nil (c_ret ?_)
 refine r_one rfl rfl ?_
 exact ⟨rfl, hS⟩
set_option maxRecDepth 100000 in
theorem fields_3 : Calls Try.prog 102 #[.int .i64 3] W fun e w' => e = .returned (.int .i64 30) ∧ St W w' [] := by
 have hS := St.init W
 refine calls_of_wpE (args := [_]) Try.func102 rfl rfl rfl ?_
 refine c_seq (c_region ?_)
 refine t_q (q_assign) ?_
 refine t_nil (c_seq (c_seq (c_region ?_)))
 refine t_q (q_mv (.int _ _) rfl) ?_
 refine t_nil (c_block (c_seq (c_block (c_seq (c_block (c_seq (c_block (c_seq (c_block (c_seq (c_block (c_seq (c_block (c_seq (c_block (c_seq (c_block (c_seq (c_seq (c_seq (c_region ?_)))))))))))))))))))))
 refine t_q (q_eql rfl rfl) ?_
 refine t_q (q_as (.bool _) rfl) ?_
 refine t_nil ?_
 refine c_cond_t rfl rfl ?_
 refine c_exit ?_
 refine ite_t rfl ?_
 refine c_region ?_
 refine t_q (q_assign) ?_
 refine t_nil (c_seq (c_seq (c_region ?_)))
 refine t_q (q_mv (.int _ _) rfl) ?_
 refine t_q (q_cast (v' := .int .i64 26) (q_or rfl rfl) (by rfl)) ?_
 refine t_q (q_cast (v' := .int .i64 30) (q_or rfl rfl) (by rfl)) ?_
 refine t_q (q_as (.int _ _) rfl) ?_
 refine t_nil (c_ret ?_)
 refine r_one rfl rfl ?_
 exact ⟨rfl, hS⟩
set_option maxRecDepth 100000 in
theorem fields_4 : Calls Try.prog 102 #[.int .i64 4] W fun e w' => e = .returned (.int .i64 3) ∧ St W w' [] := by
 have hS := St.init W
 refine calls_of_wpE (args := [_]) Try.func102 rfl rfl rfl ?_
 refine c_seq (c_region ?_)
 refine t_q (q_assign) ?_
 refine t_nil (c_seq (c_seq (c_region ?_)))
 refine t_q (q_mv (.int _ _) rfl) ?_
 refine t_nil (c_block (c_seq (c_block (c_seq (c_block (c_seq (c_block (c_seq (c_block (c_seq (c_block (c_seq (c_block (c_seq (c_block (c_seq (c_block (c_seq (c_seq (c_seq (c_region ?_)))))))))))))))))))))
 refine t_q (q_eql rfl rfl) ?_
 refine t_q (q_as (.bool _) rfl) ?_
 refine t_nil ?_
 refine c_cond_f rfl rfl ?_
 refine c_skip (c_seq (c_seq (c_region ?_)))
 refine t_q (q_eql rfl rfl) ?_
 refine t_q (q_as (.bool _) rfl) ?_
 refine t_nil ?_
 refine c_cond_f rfl rfl ?_
 refine c_skip (c_seq (c_seq (c_region ?_)))
 refine t_q (q_eql rfl rfl) ?_
 refine t_q (q_as (.bool _) rfl) ?_
 refine t_nil ?_
 refine c_cond_t rfl rfl ?_
 refine c_exit ?_
 refine ite_f (by decide) ?_
 refine ite_f (by decide) ?_
 refine ite_t rfl ?_
 refine c_region ?_
 refine t_q (q_assign) ?_
 refine t_nil (c_seq (c_seq (c_region ?_)))
 refine t_q (q_mv (.int _ _) rfl) ?_
 refine t_q (q_cast (v' := .int .i64 3) (q_or rfl rfl) (by rfl)) ?_
 refine t_q (q_as (.int _ _) rfl) ?_
 refine t_nil (c_ret ?_)
 refine r_one rfl rfl ?_
 exact ⟨rfl, hS⟩
set_option maxRecDepth 100000 in
theorem fields_5 : Calls Try.prog 102 #[.int .i64 5] W fun e w' => e = .returned (.int .i64 38) ∧ St W w' [] := by
 have hS := St.init W
 refine calls_of_wpE (args := [_]) Try.func102 rfl rfl rfl ?_
 refine c_seq (c_region ?_)
 refine t_q (q_assign) ?_
 refine t_nil (c_seq (c_seq (c_region ?_)))
 refine t_q (q_mv (.int _ _) rfl) ?_
 refine t_nil (c_block (c_seq (c_block (c_seq (c_block (c_seq (c_block (c_seq (c_block (c_seq (c_block (c_seq (c_block (c_seq (c_block (c_seq (c_block (c_seq (c_seq (c_seq (c_region ?_)))))))))))))))))))))
 refine t_q (q_eql rfl rfl) ?_
 refine t_q (q_as (.bool _) rfl) ?_
 refine t_nil ?_
 refine c_cond_f rfl rfl ?_
 refine c_skip (c_seq (c_seq (c_region ?_)))
 refine t_q (q_eql rfl rfl) ?_
 refine t_q (q_as (.bool _) rfl) ?_
 refine t_nil ?_
 refine c_cond_f rfl rfl ?_
 refine c_skip (c_seq (c_seq (c_region ?_)))
 refine t_q (q_eql rfl rfl) ?_
 refine t_q (q_as (.bool _) rfl) ?_
 refine t_nil ?_
 refine c_cond_f rfl rfl ?_
 refine c_skip (c_seq (c_seq (c_region ?_)))
 refine t_q (q_eql rfl rfl) ?_
 refine t_q (q_as (.bool _) rfl) ?_
 refine t_nil ?_
 refine c_cond_f rfl rfl ?_
 refine c_skip (c_seq (c_seq (c_region ?_)))
 refine t_q (q_eql rfl rfl) ?_
 refine t_q (q_as (.bool _) rfl) ?_
 refine t_nil ?_
 refine c_cond_t rfl rfl ?_
 refine c_exit ?_
 refine ite_f (by decide) ?_
 refine ite_f (by decide) ?_
 refine ite_f (by decide) ?_
 refine ite_f (by decide) ?_
 refine ite_t rfl ?_
 refine c_seq (c_seq (c_region ?_))
 refine t_q (q_assign) ?_
 refine t_nil (c_ret ?_)
 refine r_one rfl rfl ?_
 exact ⟨rfl, hS⟩
set_option maxRecDepth 100000 in
theorem fields_6 : Calls Try.prog 102 #[.int .i64 6] W fun e w' => e = .returned (.int .i64 2) ∧ St W w' [] := by
 have hS := St.init W
 refine calls_of_wpE (args := [_]) Try.func102 rfl rfl rfl ?_
 refine c_seq (c_region ?_)
 refine t_q (q_assign) ?_
 refine t_nil (c_seq (c_seq (c_region ?_)))
 refine t_q (q_mv (.int _ _) rfl) ?_
 refine t_nil (c_block (c_seq (c_block (c_seq (c_block (c_seq (c_block (c_seq (c_block (c_seq (c_block (c_seq (c_block (c_seq (c_block (c_seq (c_block (c_seq (c_seq (c_seq (c_region ?_)))))))))))))))))))))
 refine t_q (q_eql rfl rfl) ?_
 refine t_q (q_as (.bool _) rfl) ?_
 refine t_nil ?_
 refine c_cond_f rfl rfl ?_
 refine c_skip (c_seq (c_seq (c_region ?_)))
 refine t_q (q_eql rfl rfl) ?_
 refine t_q (q_as (.bool _) rfl) ?_
 refine t_nil ?_
 refine c_cond_f rfl rfl ?_
 refine c_skip (c_seq (c_seq (c_region ?_)))
 refine t_q (q_eql rfl rfl) ?_
 refine t_q (q_as (.bool _) rfl) ?_
 refine t_nil ?_
 refine c_cond_f rfl rfl ?_
 refine c_skip (c_seq (c_seq (c_region ?_)))
 refine t_q (q_eql rfl rfl) ?_
 refine t_q (q_as (.bool _) rfl) ?_
 refine t_nil ?_
 refine c_cond_f rfl rfl ?_
 refine c_skip (c_seq (c_seq (c_region ?_)))
 refine t_q (q_eql rfl rfl) ?_
 refine t_q (q_as (.bool _) rfl) ?_
 refine t_nil ?_
 refine c_cond_f rfl rfl ?_
 refine c_skip (c_seq (c_seq (c_region ?_)))
 refine t_q (q_eql rfl rfl) ?_
 refine t_q (q_as (.bool _) rfl) ?_
 refine t_nil ?_
 refine c_cond_t rfl rfl ?_
 refine c_exit ?_
 refine ite_f (by decide) ?_
 refine ite_f (by decide) ?_
 refine ite_f (by decide) ?_
 refine ite_f (by decide) ?_
 refine ite_f (by decide) ?_
 refine ite_t rfl ?_
 refine c_seq (c_seq (c_region ?_))
 refine t_q (q_assign) ?_
 refine t_nil (c_ret ?_)
 refine r_one rfl rfl ?_
 exact ⟨rfl, hS⟩
set_option maxRecDepth 100000 in
theorem fields_7 : Calls Try.prog 102 #[.int .i64 7] W fun e w' => e = .returned (.int .i64 32) ∧ St W w' [] := by
 have hS := St.init W
 refine calls_of_wpE (args := [_]) Try.func102 rfl rfl rfl ?_
 refine c_seq (c_region ?_)
 refine t_q (q_assign) ?_
 refine t_nil (c_seq (c_seq (c_region ?_)))
 refine t_q (q_mv (.int _ _) rfl) ?_
 refine t_nil (c_block (c_seq (c_block (c_seq (c_block (c_seq (c_block (c_seq (c_block (c_seq (c_block (c_seq (c_block (c_seq (c_block (c_seq (c_block (c_seq (c_seq (c_seq (c_region ?_)))))))))))))))))))))
 refine t_q (q_eql rfl rfl) ?_
 refine t_q (q_as (.bool _) rfl) ?_
 refine t_nil ?_
 refine c_cond_f rfl rfl ?_
 refine c_skip (c_seq (c_seq (c_region ?_)))
 refine t_q (q_eql rfl rfl) ?_
 refine t_q (q_as (.bool _) rfl) ?_
 refine t_nil ?_
 refine c_cond_f rfl rfl ?_
 refine c_skip (c_seq (c_seq (c_region ?_)))
 refine t_q (q_eql rfl rfl) ?_
 refine t_q (q_as (.bool _) rfl) ?_
 refine t_nil ?_
 refine c_cond_f rfl rfl ?_
 refine c_skip (c_seq (c_seq (c_region ?_)))
 refine t_q (q_eql rfl rfl) ?_
 refine t_q (q_as (.bool _) rfl) ?_
 refine t_nil ?_
 refine c_cond_f rfl rfl ?_
 refine c_skip (c_seq (c_seq (c_region ?_)))
 refine t_q (q_eql rfl rfl) ?_
 refine t_q (q_as (.bool _) rfl) ?_
 refine t_nil ?_
 refine c_cond_f rfl rfl ?_
 refine c_skip (c_seq (c_seq (c_region ?_)))
 refine t_q (q_eql rfl rfl) ?_
 refine t_q (q_as (.bool _) rfl) ?_
 refine t_nil ?_
 refine c_cond_f rfl rfl ?_
 refine c_skip (c_seq (c_seq (c_region ?_)))
 refine t_q (q_eql rfl rfl) ?_
 refine t_q (q_as (.bool _) rfl) ?_
 refine t_nil ?_
 refine c_cond_t rfl rfl ?_
 refine c_exit ?_
 refine ite_f (by decide) ?_
 refine ite_f (by decide) ?_
 refine ite_f (by decide) ?_
 refine ite_f (by decide) ?_
 refine ite_f (by decide) ?_
 refine ite_f (by decide) ?_
 refine ite_t rfl ?_
 refine c_seq (c_seq (c_region ?_))
 refine t_q (q_assign) ?_
 refine t_nil (c_ret ?_)
 refine r_one rfl rfl ?_
 exact ⟨rfl, hS⟩
set_option maxRecDepth 100000 in
theorem fields_8 : Calls Try.prog 102 #[.int .i64 8] W fun e w' => e = .returned (.int .i64 64) ∧ St W w' [] := by
 have hS := St.init W
 refine calls_of_wpE (args := [_]) Try.func102 rfl rfl rfl ?_
 refine c_seq (c_region ?_)
 refine t_q (q_assign) ?_
 refine t_nil (c_seq (c_seq (c_region ?_)))
 refine t_q (q_mv (.int _ _) rfl) ?_
 refine t_nil (c_block (c_seq (c_block (c_seq (c_block (c_seq (c_block (c_seq (c_block (c_seq (c_block (c_seq (c_block (c_seq (c_block (c_seq (c_block (c_seq (c_seq (c_seq (c_region ?_)))))))))))))))))))))
 refine t_q (q_eql rfl rfl) ?_
 refine t_q (q_as (.bool _) rfl) ?_
 refine t_nil ?_
 refine c_cond_f rfl rfl ?_
 refine c_skip (c_seq (c_seq (c_region ?_)))
 refine t_q (q_eql rfl rfl) ?_
 refine t_q (q_as (.bool _) rfl) ?_
 refine t_nil ?_
 refine c_cond_f rfl rfl ?_
 refine c_skip (c_seq (c_seq (c_region ?_)))
 refine t_q (q_eql rfl rfl) ?_
 refine t_q (q_as (.bool _) rfl) ?_
 refine t_nil ?_
 refine c_cond_f rfl rfl ?_
 refine c_skip (c_seq (c_seq (c_region ?_)))
 refine t_q (q_eql rfl rfl) ?_
 refine t_q (q_as (.bool _) rfl) ?_
 refine t_nil ?_
 refine c_cond_f rfl rfl ?_
 refine c_skip (c_seq (c_seq (c_region ?_)))
 refine t_q (q_eql rfl rfl) ?_
 refine t_q (q_as (.bool _) rfl) ?_
 refine t_nil ?_
 refine c_cond_f rfl rfl ?_
 refine c_skip (c_seq (c_seq (c_region ?_)))
 refine t_q (q_eql rfl rfl) ?_
 refine t_q (q_as (.bool _) rfl) ?_
 refine t_nil ?_
 refine c_cond_f rfl rfl ?_
 refine c_skip (c_seq (c_seq (c_region ?_)))
 refine t_q (q_eql rfl rfl) ?_
 refine t_q (q_as (.bool _) rfl) ?_
 refine t_nil ?_
 refine c_cond_f rfl rfl ?_
 refine c_skip (c_seq (c_region ?_))
 refine t_q (q_eql rfl rfl) ?_
 refine t_q (q_as (.bool _) rfl) ?_
 refine t_nil ?_
 refine c_cond_t rfl rfl ?_
 refine c_exit ?_
 refine ite_f (by decide) ?_
 refine ite_f (by decide) ?_
 refine ite_f (by decide) ?_
 refine ite_f (by decide) ?_
 refine ite_f (by decide) ?_
 refine ite_f (by decide) ?_
 refine ite_f (by decide) ?_
 refine ite_t rfl ?_
 refine c_seq (c_seq (c_region ?_))
 refine t_q (q_assign) ?_
 refine t_nil (c_ret ?_)
 refine r_one rfl rfl ?_
 exact ⟨rfl, hS⟩
set_option maxRecDepth 100000 in
theorem fields_no {n : Int} (hn : n < 1 ∨ 8 < n) : Calls Try.prog 102 #[.int .i64 n] W fun e w' => e = .returned (.int .i64 0) ∧ St W w' [] := by
 have hS := St.init W
 refine calls_of_wpE (args := [_]) Try.func102 rfl rfl rfl ?_
 refine c_seq (c_region ?_)
 refine t_q (q_assign) ?_
 refine t_nil (c_seq (c_seq (c_region ?_)))
 refine t_q (q_mv (.int _ _) rfl) ?_
 refine t_nil (c_block (c_seq (c_block (c_seq (c_block (c_seq (c_block (c_seq (c_block (c_seq (c_block (c_seq (c_block (c_seq (c_block (c_seq (c_block (c_seq (c_seq (c_seq (c_region ?_)))))))))))))))))))))
 refine t_q (q_eql rfl rfl) ?_
 refine t_q (q_as (.bool _) rfl) ?_
 refine t_nil ?_
 refine c_cond rfl ?_ ?_
 ·
  intro hc2
  have hc2d := of_decide_eq_true hc2
  exfalso; omega
 ·
  intro hc2
  have hc2d := of_decide_eq_false hc2
  refine c_skip (c_seq (c_seq (c_region ?_)))
  refine t_q (q_eql rfl rfl) ?_
  refine t_q (q_as (.bool _) rfl) ?_
  refine t_nil ?_
  refine c_cond rfl ?_ ?_
  ·
   intro hc4
   have hc4d := of_decide_eq_true hc4
   exfalso; omega
  ·
   intro hc4
   have hc4d := of_decide_eq_false hc4
   refine c_skip (c_seq (c_seq (c_region ?_)))
   refine t_q (q_eql rfl rfl) ?_
   refine t_q (q_as (.bool _) rfl) ?_
   refine t_nil ?_
   refine c_cond rfl ?_ ?_
   ·
    intro hc6
    have hc6d := of_decide_eq_true hc6
    exfalso; omega
   ·
    intro hc6
    have hc6d := of_decide_eq_false hc6
    refine c_skip (c_seq (c_seq (c_region ?_)))
    refine t_q (q_eql rfl rfl) ?_
    refine t_q (q_as (.bool _) rfl) ?_
    refine t_nil ?_
    refine c_cond rfl ?_ ?_
    ·
     intro hc8
     have hc8d := of_decide_eq_true hc8
     exfalso; omega
    ·
     intro hc8
     have hc8d := of_decide_eq_false hc8
     refine c_skip (c_seq (c_seq (c_region ?_)))
     refine t_q (q_eql rfl rfl) ?_
     refine t_q (q_as (.bool _) rfl) ?_
     refine t_nil ?_
     refine c_cond rfl ?_ ?_
     ·
      intro hc10
      have hc10d := of_decide_eq_true hc10
      exfalso; omega
     ·
      intro hc10
      have hc10d := of_decide_eq_false hc10
      refine c_skip (c_seq (c_seq (c_region ?_)))
      refine t_q (q_eql rfl rfl) ?_
      refine t_q (q_as (.bool _) rfl) ?_
      refine t_nil ?_
      refine c_cond rfl ?_ ?_
      ·
       intro hc12
       have hc12d := of_decide_eq_true hc12
       exfalso; omega
      ·
       intro hc12
       have hc12d := of_decide_eq_false hc12
       refine c_skip (c_seq (c_seq (c_region ?_)))
       refine t_q (q_eql rfl rfl) ?_
       refine t_q (q_as (.bool _) rfl) ?_
       refine t_nil ?_
       refine c_cond rfl ?_ ?_
       ·
        intro hc14
        have hc14d := of_decide_eq_true hc14
        exfalso; omega
       ·
        intro hc14
        have hc14d := of_decide_eq_false hc14
        refine c_skip (c_seq (c_region ?_))
        refine t_q (q_eql rfl rfl) ?_
        refine t_q (q_as (.bool _) rfl) ?_
        refine t_nil ?_
        refine c_cond rfl ?_ ?_
        ·
         intro hc16
         have hc16d := of_decide_eq_true hc16
         exfalso; omega
        ·
         intro hc16
         have hc16d := of_decide_eq_false hc16
         refine c_skip ?_
         refine c_exit ?_
         refine ite_f (by decide) ?_
         refine ite_f (by decide) ?_
         refine ite_f (by decide) ?_
         refine ite_f (by decide) ?_
         refine ite_f (by decide) ?_
         refine ite_f (by decide) ?_
         refine ite_f (by decide) ?_
         refine ite_f (by decide) ?_
         refine ite_t rfl ?_
         refine c_seq (c_region ?_)
         refine t_q (q_assign) ?_
         refine t_nil (c_ret ?_)
         refine r_one rfl rfl ?_
         exact ⟨rfl, hS⟩
theorem fields_calls {n : Int} : Calls Try.prog 102 #[.int .i64 n] W fun e w' => e = .returned (.int .i64 (fl n)) ∧ St W w' [] := by
  rcases fl_some n with ⟨rfl, h⟩ | ⟨rfl, h⟩ | ⟨rfl, h⟩ | ⟨rfl, h⟩ | ⟨rfl, h⟩ | ⟨rfl, h⟩ | ⟨rfl, h⟩ | ⟨rfl, h⟩ | ⟨hn, h⟩ <;> rw [h]
  · exact fields_1
  · exact fields_2
  · exact fields_3
  · exact fields_4
  · exact fields_5
  · exact fields_6
  · exact fields_7
  · exact fields_8
  · exact fields_no hn
set_option maxRecDepth 100000 in
theorem node_calls {n : Int} : Calls Try.prog 103 #[.int .i64 n] W fun e w' => e = .returned (.bool (nodeB n)) ∧ St W w' [] := by
 have hS := St.init W
 refine calls_of_wpE (args := [_]) Try.func103 rfl rfl rfl ?_
 refine c_seq (c_region ?_)
 refine t_q (q_assign) ?_
 refine t_nil (c_seq (c_region ?_))
 refine t_q (q_mv (.int _ _) rfl) ?_
 refine t_q (q_geq rfl rfl) ?_
 refine t_q (q_mv (.bool _) rfl) ?_
 refine t_case 5 rfl ?_ ?_
 ·
  intro hg2
  have hg2d := of_decide_eq_true hg2
  refine t_yes rfl rfl hg2 ?_
  refine t_q (q_mv (.int _ _) rfl) ?_
  refine t_yes rfl rfl hg2 ?_
  refine t_q (q_lss rfl rfl) ?_
  refine t_q (q_pick_t rfl hg2) ?_
  refine t_q (q_as (.bool _) rfl) ?_
  refine t_nil (c_ret ?_)
  refine r_one rfl rfl ?_
  refine ⟨congrArg (fun b => Ending.returned (.bool b)) ?_, hS.nil⟩
  unfold nodeB
  first
    | (rw [decide_eq_decide]; omega)
    | (symm; exact decide_eq_false (by omega))
 ·
  intro hg2
  have hg2d := of_decide_eq_false hg2
  refine t_no rfl rfl (by rw [hg2]; decide) ?_
  refine t_no rfl rfl (by rw [hg2]; decide) ?_
  refine t_q (q_pick_f rfl hg2) ?_
  refine t_q (q_as (.bool _) rfl) ?_
  refine t_nil (c_ret ?_)
  refine r_one rfl rfl ?_
  refine ⟨congrArg (fun b => Ending.returned (.bool b)) ?_, hS.nil⟩
  unfold nodeB
  first
    | (rw [decide_eq_decide]; omega)
    | (symm; exact decide_eq_false (by omega))
set_option maxRecDepth 100000 in
theorem ent_calls {e : EntV} : Calls Try.prog 139 #[.agg e.cells.toArray] W fun e1 w' => e1 = .returned (.bool (!entFine e)) ∧ St W w' [] := by
 have hS := St.init W
 refine calls_of_wpE (args := [_]) Try.func139 rfl rfl rfl ?_
 refine c_seq (c_region ?_)
 refine t_box (v := (.agg _)) rfl rfl hS (fun g1 w hS => ?_)
 refine t_q (q_assign) ?_
 refine t_nil (c_seq (c_region ?_))
 refine t_q (q_fieldAddr 0 Try.runUnderlying169 rfl Try.sizeOf43 (by decide) rfl rfl) ?_
 refine t_q (q_load1 Try.isAgg43 rfl (hS.cell (by repeat constructor) rfl)) ?_
 refine t_q (q_fieldAddr 1 Try.runUnderlying169 rfl Try.sizeOf43 (by decide) rfl rfl) ?_
 refine t_q (q_load1 Try.isAgg43 rfl (hS.cell (by repeat constructor) rfl)) ?_
 refine t_q (q_max rfl rfl) ?_
 refine t_q (q_gtr rfl rfl) ?_
 refine t_q (q_mv (.bool _) rfl) ?_
 refine t_case 9 rfl ?_ ?_
 ·
  intro hg2
  have hg2d := of_decide_eq_true hg2
  refine t_no rfl rfl (by rw [hg2]; decide) ?_
  refine t_no rfl rfl (by rw [hg2]; decide) ?_
  refine t_no rfl rfl (by rw [hg2]; decide) ?_
  refine t_no rfl rfl (by rw [hg2]; decide) ?_
  refine t_q (q_pick_t rfl hg2) ?_
  refine t_q (q_as (.bool _) rfl) ?_
  refine t_nil (c_ret ?_)
  refine r_one rfl rfl ?_
  refine ⟨congrArg (fun b => Ending.returned (.bool b)) ?_, hS.nil⟩
  unfold entFine
  rw [Bool.eq_iff_iff]
  simp only [Bool.not_eq_true', decide_eq_false_iff_not, decide_eq_true_eq]
  first
    | omega
    | (simp; omega)
 ·
  intro hg2
  have hg2d := of_decide_eq_false hg2
  refine t_yes rfl rfl hg2 ?_
  refine t_q (q_fieldAddr 2 Try.runUnderlying169 rfl Try.sizeOf25 (by decide) rfl rfl) ?_
  refine t_yes rfl rfl hg2 ?_
  refine t_q (q_load1 Try.isAgg25 rfl (hS.cell (by repeat constructor) rfl)) ?_
  refine t_yes rfl rfl hg2 ?_
  refine t_q (q_len_slice Try.runUnderlying25 rfl) ?_
  refine t_yes rfl rfl hg2 ?_
  refine t_q (q_gtr rfl rfl) ?_
  refine t_q (q_pick_f rfl hg2) ?_
  refine t_q (q_as (.bool _) rfl) ?_
  refine t_nil (c_ret ?_)
  refine r_one rfl rfl ?_
  refine ⟨congrArg (fun b => Ending.returned (.bool b)) ?_, hS.nil⟩
  unfold entFine
  rw [Bool.eq_iff_iff]
  simp only [Bool.not_eq_true', decide_eq_false_iff_not, decide_eq_true_eq]
  first
    | omega
    | (simp; omega)
set_option maxRecDepth 100000 in
theorem widx_calls {A : Option Addr} {c : Nat} {l : List EntV} (hR : RdEn W A l) (hm : l.length ≤ 1000000) : Calls Try.prog 158 #[.slice A l.length c, .func (.func 139) #[] #[]] W fun e w' => ∃ r : Int, e = .returned (.int .i64 r) ∧ (0 ≤ r ↔ l.all entFine = false) ∧ St W w' [] := by
 have hS := St.init W
 refine calls_of_wpE (args := [_, _]) Try.func158 rfl rfl rfl ?_
 refine c_seq (c_region ?_)
 refine t_q (q_assign) ?_
 refine t_nil (c_seq (c_seq (c_region ?_)))
 refine t_q (q_mv (.slice _ _ _) rfl) ?_
 refine t_q (q_len_slice Try.runUnderlying111 rfl) ?_
 refine t_q (q_move) ?_
 refine t_nil (c_block ?_)
 refine c_loop [4, 5, 8, 9, 10, 11, 12, 13, 14, 15, 16, 17, 18] (fun k σ w => ∃ j : Nat, σ 8 = .int .i64 (j : Int) ∧ j ≤ l.length ∧ l.length - j ≤ k ∧ (∀ i, i < j → entFine (l.getD i default) = true) ∧ St W w []) (l.length) rfl (⟨0, rfl, by omega, by omega, (fun i h => absurd h (by omega)), hS⟩) ?_
 skip
 rintro k σ w ⟨j, h8, hj, hk, hall, hS⟩
 refine c_know 8 h8 ?_
 clear h8
 refine c_seq (c_region ?_)
 refine t_q (q_lss rfl rfl) ?_
 refine t_nil (c_seq ?_)
 refine c_cond rfl ?_ ?_
 ·
  intro hc2
  have hc2d := of_decide_eq_true hc2
  refine c_skip (c_seq (c_block (c_seq (c_region ?_))))
  refine t_q (q_mv (.int _ _) rfl) ?_
  refine t_q (q_as (.int _ _) rfl) ?_
  refine t_nil (c_seq (c_region ?_))
  refine t_q (q_mv (.func _ _ _) rfl) ?_
  refine t_q (q_mv (.slice _ _ _) rfl) ?_
  refine t_q (q_mv (.int _ _) rfl) ?_
  first | refine t_index_nat Try.runUnderlying111 Try.sizeOf169 (hR.st hS) rfl rfl (by omega) (fun ad3 hl3 hx3 => ?_) | refine t_index Try.runUnderlying111 Try.sizeOf169 (hR.st hS) rfl rfl (by omega) (fun ad3 hl3 hx3 => ?_)
  refine t_q (q_loadN Try.isAgg169 Try.sizeOf169 rfl hl3 hx3) ?_
  refine t_callv Try.call139 rfl (ent_calls (e := l.getD j default)) rfl ?_
  rintro e w ⟨rfl, hT⟩
  refine ⟨_, rfl, ?_⟩
  replace hS := hS.after hT
  refine t_nil ?_
  refine c_cond rfl ?_ ?_
  ·
   intro hc5
   have hno : entFine (l.getD j default) = false := by simpa using hc5
   refine c_seq (c_region ?_)
   refine t_q (q_mv (.int _ _) rfl) ?_
   refine t_q (q_as (.int _ _) rfl) ?_
   refine t_nil (c_ret ?_)
   refine r_one rfl rfl ?_
   first
     | exact ⟨_, rfl, ⟨fun _ => all_not (by omega) hno, fun _ => by omega⟩, hS.nil⟩
     | exact ⟨_, rfl, ⟨fun h => by omega, fun h => by
         rw [all_fine (fun i hi => hall i (by omega))] at h; cases h⟩, hS.nil⟩
  ·
   intro hc5
   have hyes : entFine (l.getD j default) = true := by simpa using hc5
   refine c_skip (c_region ?_)
   refine t_q (q_add_i64 rfl rfl (by omega)) ?_
   refine t_q (q_mv (.int _ _) rfl) ?_
   refine t_nil ?_
   exact ⟨k - 1, by omega, j + 1, rfl, by omega, by omega, (fun i hi => by
     rcases Nat.lt_or_ge i j with h | h
     · exact hall i h
     · obtain rfl : i = j := by omega
       exact hyes), hS⟩
 ·
  intro hc2
  have hc2d := of_decide_eq_false hc2
  refine c_exit ?_
  refine ite_t rfl ?_
  refine c_seq (c_region ?_)
  refine t_q (q_assign) ?_
  refine t_nil (c_ret ?_)
  refine r_one rfl rfl ?_
  first
    | exact ⟨_, rfl, ⟨fun _ => all_not (by omega) hno, fun _ => by omega⟩, hS.nil⟩
    | exact ⟨_, rfl, ⟨fun h => by omega, fun h => by
        rw [all_fine (fun i hi => hall i (by omega))] at h; cases h⟩, hS.nil⟩
set_option maxRecDepth 100000 in
theorem wcon_calls {A : Option Addr} {c : Nat} {l : List EntV} (hR : RdEn W A l) (hm : l.length ≤ 1000000) : Calls Try.prog 138 #[.slice A l.length c, .func (.func 139) #[] #[]] W fun e w' => e = .returned (.bool (!l.all entFine)) ∧ St W w' [] := by
 have hS := St.init W
 refine calls_of_wpE (args := [_, _]) Try.func138 rfl rfl rfl ?_
 refine c_seq (c_region ?_)
 refine t_q (q_assign) ?_
 refine t_nil (c_seq (c_region ?_))
 refine t_q (q_mv (.slice _ _ _) rfl) ?_
 refine t_q (q_mv (.func _ _ _) rfl) ?_
 refine t_call Try.call158 (widx_calls (hR.st hS) hm) rfl ?_
 rintro e w ⟨r, rfl, hr, hT⟩
 refine ⟨_, rfl, ?_⟩
 replace hS := hS.after hT
 refine t_q (q_geq rfl rfl) ?_
 refine t_q (q_as (.bool _) rfl) ?_
 refine t_nil (c_ret ?_)
 refine r_one rfl rfl ?_
 refine ⟨congrArg (fun b => Ending.returned (.bool b)) ?_, hS.nil⟩
 rw [Bool.eq_iff_iff, decide_eq_true_eq, Bool.not_eq_true']
 exact hr
set_option maxHeartbeats 1000000 in
set_option maxRecDepth 100000 in
theorem fits_calls {x : MsgV} (hx : x.Gd W) : Calls Try.prog 105 #[.agg x.cells.toArray] W fun e w' => e = .returned (.bool (fitB x)) ∧ St W w' [] := by
 have hS := St.init W
 have h1 := hx.term
 have h2 := hx.index
 have h3 := hx.logTerm
 have h4 := hx.commit
 have h5 := hx.client
 refine calls_of_wpE (args := [_]) Try.func105 rfl rfl rfl ?_
 refine c_seq (c_region ?_)
 refine t_box (v := (.agg _)) rfl rfl hS (fun g1 w hS => ?_)
 replace hS := hS.recast (show _ = bmA g1 114 x from rfl)
 refine t_q (q_assign) ?_
 refine t_nil (c_seq (c_seq (c_region ?_)))
 refine t_q (q_fieldAddr 3 Try.runUnderlying114 rfl Try.sizeOf43 (by decide) rfl rfl) ?_
 refine t_q (q_load1 Try.isAgg43 rfl (hS.cell (by repeat constructor) rfl)) ?_
 refine t_q (q_fieldAddr 4 Try.runUnderlying114 rfl Try.sizeOf43 (by decide) rfl rfl) ?_
 refine t_q (q_load1 Try.isAgg43 rfl (hS.cell (by repeat constructor) rfl)) ?_
 refine t_q (q_fieldAddr 5 Try.runUnderlying114 rfl Try.sizeOf43 (by decide) rfl rfl) ?_
 refine t_q (q_load1 Try.isAgg43 rfl (hS.cell (by repeat constructor) rfl)) ?_
 refine t_q (q_fieldAddr 6 Try.runUnderlying114 rfl Try.sizeOf43 (by decide) rfl rfl) ?_
 refine t_q (q_load1 Try.isAgg43 rfl (hS.cell (by repeat constructor) rfl)) ?_
 refine t_q (q_max4 rfl rfl rfl rfl) ?_
 refine t_q (q_gtr rfl rfl) ?_
 refine t_q (q_mv (.bool _) rfl) ?_
 refine t_case 15 rfl ?_ ?_
 ·
  intro hg2
  have hg2d := of_decide_eq_true hg2
  refine t_no rfl rfl (by rw [hg2]; decide) ?_
  refine t_no rfl rfl (by rw [hg2]; decide) ?_
  refine t_no rfl rfl (by rw [hg2]; decide) ?_
  refine t_q (q_pick_t rfl hg2) ?_
  refine t_q (q_mv (.bool _) rfl) ?_
  refine t_no rfl rfl (by decide) ?_
  refine t_no rfl rfl (by decide) ?_
  refine t_no rfl rfl (by decide) ?_
  refine t_no rfl rfl (by decide) ?_
  refine t_q (q_pick_t rfl rfl) ?_
  refine t_nil ?_
  refine c_cond_t rfl rfl ?_
  refine c_seq (c_region ?_)
  refine t_q (q_assign) ?_
  refine t_nil (c_ret ?_)
  refine r_one rfl rfl ?_
  have hN := hS.nil
  clear hS
  refine ⟨congrArg (fun b => Ending.returned (.bool b)) ?_, hN⟩
  unfold fitB
  first
    | (symm; apply decide_eq_false; rintro ⟨q1, q2, q3, q4, q5, q6, q7, q8, q9, q10⟩; first | omega | (have q8' := q8 (by omega); omega))
    | (rw [Bool.eq_iff_iff, decide_eq_true_eq]
       constructor
       · intro h
         refine ⟨by omega, by omega, by omega, by omega, by omega, by omega, by omega, fun hk => by omega, by omega, by simpa using h⟩
       · rintro ⟨q1, q2, q3, q4, q5, q6, q7, q8, q9, q10⟩
         simpa using q10)
 ·
  intro hg2
  have hg2d := of_decide_eq_false hg2
  refine t_yes rfl rfl hg2 ?_
  refine t_q (q_fieldAddr 10 Try.runUnderlying114 rfl Try.sizeOf43 (by decide) rfl rfl) ?_
  refine t_yes rfl rfl hg2 ?_
  refine t_q (q_load1 Try.isAgg43 rfl (hS.cell (by repeat constructor) rfl)) ?_
  refine t_yes rfl rfl hg2 ?_
  refine t_q (q_gtr rfl rfl) ?_
  refine t_q (q_pick_f rfl hg2) ?_
  refine t_q (q_mv (.bool _) rfl) ?_
  refine t_case 20 rfl ?_ ?_
  ·
   intro hg4
   have hg4d := of_decide_eq_true hg4
   refine t_no rfl rfl (by rw [hg4]; decide) ?_
   refine t_no rfl rfl (by rw [hg4]; decide) ?_
   refine t_no rfl rfl (by rw [hg4]; decide) ?_
   refine t_no rfl rfl (by rw [hg4]; decide) ?_
   refine t_q (q_pick_t rfl hg4) ?_
   refine t_nil ?_
   refine c_cond_t rfl rfl ?_
   refine c_seq (c_region ?_)
   refine t_q (q_assign) ?_
   refine t_nil (c_ret ?_)
   refine r_one rfl rfl ?_
   have hN := hS.nil
   clear hS
   refine ⟨congrArg (fun b => Ending.returned (.bool b)) ?_, hN⟩
   unfold fitB
   first
     | (symm; apply decide_eq_false; rintro ⟨q1, q2, q3, q4, q5, q6, q7, q8, q9, q10⟩; first | omega | (have q8' := q8 (by omega); omega))
     | (rw [Bool.eq_iff_iff, decide_eq_true_eq]
        constructor
        · intro h
          refine ⟨by omega, by omega, by omega, by omega, by omega, by omega, by omega, fun hk => by omega, by omega, by simpa using h⟩
        · rintro ⟨q1, q2, q3, q4, q5, q6, q7, q8, q9, q10⟩
          simpa using q10)
  ·
   intro hg4
   have hg4d := of_decide_eq_false hg4
   refine t_yes rfl rfl hg4 ?_
   refine t_q (q_fieldAddr 8 Try.runUnderlying114 rfl Try.sizeOf111 (by decide) rfl rfl) ?_
   refine t_yes rfl rfl hg4 ?_
   refine t_q (q_load1 Try.isAgg111 rfl (hS.cell (by repeat constructor) rfl)) ?_
   refine t_yes rfl rfl hg4 ?_
   refine t_q (q_len_slice Try.runUnderlying111 rfl) ?_
   refine t_yes rfl rfl hg4 ?_
   refine t_q (q_gtr rfl rfl) ?_
   refine t_q (q_pick_f rfl hg4) ?_
   refine t_nil ?_
   refine c_cond rfl ?_ ?_
   ·
    intro hc6
    have hc6d := of_decide_eq_true hc6
    refine c_seq (c_region ?_)
    refine t_q (q_assign) ?_
    refine t_nil (c_ret ?_)
    refine r_one rfl rfl ?_
    have hN := hS.nil
    clear hS
    refine ⟨congrArg (fun b => Ending.returned (.bool b)) ?_, hN⟩
    unfold fitB
    first
      | (symm; apply decide_eq_false; rintro ⟨q1, q2, q3, q4, q5, q6, q7, q8, q9, q10⟩; first | omega | (have q8' := q8 (by omega); omega))
      | (rw [Bool.eq_iff_iff, decide_eq_true_eq]
         constructor
         · intro h
           refine ⟨by omega, by omega, by omega, by omega, by omega, by omega, by omega, fun hk => by omega, by omega, by simpa using h⟩
         · rintro ⟨q1, q2, q3, q4, q5, q6, q7, q8, q9, q10⟩
           simpa using q10)
   ·
    intro hc6
    have hc6d := of_decide_eq_false hc6
    refine c_skip (c_seq (c_seq (c_region ?_)))
    refine t_q (q_fieldAddr 9 Try.runUnderlying114 rfl Try.sizeOf25 (by decide) rfl rfl) ?_
    refine t_q (q_load1 Try.isAgg25 rfl (hS.cell (by repeat constructor) rfl)) ?_
    refine t_q (q_len_slice Try.runUnderlying25 rfl) ?_
    refine t_q (q_gtr rfl rfl) ?_
    refine t_q (q_mv (.bool _) rfl) ?_
    refine t_case 30 rfl ?_ ?_
    ·
     intro hg8
     have hg8d := of_decide_eq_true hg8
     refine t_no rfl rfl (by rw [hg8]; decide) ?_
     refine t_no rfl rfl (by rw [hg8]; decide) ?_
     refine t_no rfl rfl (by rw [hg8]; decide) ?_
     refine t_no rfl rfl (by rw [hg8]; decide) ?_
     refine t_nu rfl rfl ?_
     refine t_nu rfl rfl ?_
     refine t_nu rfl rfl ?_
     refine t_nu rfl rfl ?_
     refine t_no rfl rfl (by rw [hg8]; decide) ?_
     refine t_q (q_pick_t rfl hg8) ?_
     refine t_nil ?_
     refine c_cond_t rfl rfl ?_
     refine c_seq (c_region ?_)
     refine t_q (q_assign) ?_
     refine t_nil (c_ret ?_)
     refine r_one rfl rfl ?_
     have hN := hS.nil
     clear hS
     refine ⟨congrArg (fun b => Ending.returned (.bool b)) ?_, hN⟩
     unfold fitB
     first
       | (symm; apply decide_eq_false; rintro ⟨q1, q2, q3, q4, q5, q6, q7, q8, q9, q10⟩; first | omega | (have q8' := q8 (by omega); omega))
       | (rw [Bool.eq_iff_iff, decide_eq_true_eq]
          constructor
          · intro h
            refine ⟨by omega, by omega, by omega, by omega, by omega, by omega, by omega, fun hk => by omega, by omega, by simpa using h⟩
          · rintro ⟨q1, q2, q3, q4, q5, q6, q7, q8, q9, q10⟩
            simpa using q10)
    ·
     intro hg8
     have hg8d := of_decide_eq_false hg8
     refine t_yes rfl rfl hg8 ?_
     refine t_q (q_fieldAddr 0 Try.runUnderlying114 rfl Try.sizeOf3 (by decide) rfl rfl) ?_
     refine t_yes rfl rfl hg8 ?_
     refine t_q (q_load1 Try.isAgg3 rfl (hS.cell (by repeat constructor) rfl)) ?_
     refine t_yes rfl rfl hg8 ?_
     refine t_q (q_eql rfl rfl) ?_
     refine t_yes rfl rfl hg8 ?_
     refine t_q (q_mv (.bool _) rfl) ?_
     refine t_case 34 rfl ?_ ?_
     ·
      intro hg10
      have hg10d := of_decide_eq_true hg10
      refine t_yes rfl rfl hg10 ?_
      refine t_q (q_fieldAddr 9 Try.runUnderlying114 rfl Try.sizeOf25 (by decide) rfl rfl) ?_
      refine t_yes rfl rfl hg10 ?_
      refine t_q (q_load1 Try.isAgg25 rfl (hS.cell (by repeat constructor) rfl)) ?_
      refine t_yes rfl rfl hg10 ?_
      refine t_q (q_len_slice Try.runUnderlying25 rfl) ?_
      refine t_yes rfl rfl hg10 ?_
      refine t_q (q_gtr rfl rfl) ?_
      refine t_yes rfl rfl hg8 ?_
      refine t_q (q_pick_t rfl hg10) ?_
      refine t_q (q_pick_f rfl hg8) ?_
      refine t_nil ?_
      refine c_cond rfl ?_ ?_
      ·
       intro hc12
       have hc12d := of_decide_eq_true hc12
       refine c_seq (c_region ?_)
       refine t_q (q_assign) ?_
       refine t_nil (c_ret ?_)
       refine r_one rfl rfl ?_
       have hN := hS.nil
       clear hS
       refine ⟨congrArg (fun b => Ending.returned (.bool b)) ?_, hN⟩
       unfold fitB
       first
         | (symm; apply decide_eq_false; rintro ⟨q1, q2, q3, q4, q5, q6, q7, q8, q9, q10⟩; first | omega | (have q8' := q8 (by omega); omega))
         | (rw [Bool.eq_iff_iff, decide_eq_true_eq]
            constructor
            · intro h
              refine ⟨by omega, by omega, by omega, by omega, by omega, by omega, by omega, fun hk => by omega, by omega, by simpa using h⟩
            · rintro ⟨q1, q2, q3, q4, q5, q6, q7, q8, q9, q10⟩
              simpa using q10)
      ·
       intro hc12
       have hc12d := of_decide_eq_false hc12
       refine c_skip (c_seq (c_region ?_))
       refine t_q (q_fieldAddr 12 Try.runUnderlying114 rfl Try.sizeOf112 (by decide) rfl rfl) ?_
       refine t_q (q_load1 Try.isAgg112 rfl (hS.cell (by repeat constructor) rfl)) ?_
       refine t_call Try.call137 (ebytes_calls (l := x.events.l) (Rd.st hx.vrd hS) hx.vin hx.vle) rfl ?_
       rintro e w ⟨A44, m44, c44, rfl, hm44, hT⟩
       refine ⟨_, rfl, ?_⟩
       have hS : St W w (_ :: _) := hS.lift hT
       refine t_q (q_mv (.tuple _) rfl) ?_
       refine t_q (q_extract rfl rfl) ?_
       refine t_q (q_extract rfl rfl) ?_
       refine t_q (q_as (.slice _ _ _) rfl) ?_
       refine t_q (q_as (.int _ _) rfl) ?_
       refine t_nil (c_seq (c_region ?_))
       refine t_q (q_mv (.int _ _) rfl) ?_
       refine t_q (q_eql rfl rfl) ?_
       refine t_q (q_mv (.bool _) rfl) ?_
       refine t_case 49 rfl ?_ ?_
       ·
        intro hg17
        have hg17d := of_decide_eq_true hg17
        refine t_yes rfl rfl hg17 ?_
        refine t_q (q_fieldAddr 8 Try.runUnderlying114 rfl Try.sizeOf111 (by decide) rfl rfl) ?_
        refine t_yes rfl rfl hg17 ?_
        refine t_q (q_load1 Try.isAgg111 rfl (hS.cell (by repeat constructor) rfl)) ?_
        refine t_yes rfl rfl hg17 ?_
        refine t_call Try.call138 (wcon_calls (l := x.entries.l) (Rd.st hx.erd hS) (by have := hx.ele; omega)) rfl ?_
        rintro e w ⟨rfl, hT⟩
        refine ⟨_, rfl, ?_⟩
        replace hS := hS.after hT
        refine t_yes rfl rfl hg17 ?_
        refine t_q (q_not rfl) ?_
        refine t_q (q_pick_t rfl hg17) ?_
        refine t_q (q_as (.bool _) rfl) ?_
        refine t_nil (c_ret ?_)
        refine r_one rfl rfl ?_
        have hN := hS.nil
        clear hS
        refine ⟨congrArg (fun b => Ending.returned (.bool b)) ?_, hN⟩
        unfold fitB
        first
          | (symm; apply decide_eq_false; rintro ⟨q1, q2, q3, q4, q5, q6, q7, q8, q9, q10⟩; first | omega | (have q8' := q8 (by omega); omega))
          | (rw [Bool.eq_iff_iff, decide_eq_true_eq]
             constructor
             · intro h
               refine ⟨by omega, by omega, by omega, by omega, by omega, by omega, by omega, fun hk => by omega, by omega, by simpa using h⟩
             · rintro ⟨q1, q2, q3, q4, q5, q6, q7, q8, q9, q10⟩
               simpa using q10)
       ·
        intro hg17
        have hg17d := of_decide_eq_false hg17
        refine t_no rfl rfl (by rw [hg17]; decide) ?_
        refine t_no rfl rfl (by rw [hg17]; decide) ?_
        refine t_no rfl rfl (by rw [hg17]; decide) ?_
        refine t_no rfl rfl (by rw [hg17]; decide) ?_
        refine t_q (q_pick_f rfl hg17) ?_
        refine t_q (q_as (.bool _) rfl) ?_
        refine t_nil (c_ret ?_)
        refine r_one rfl rfl ?_
        have hN := hS.nil
        clear hS
        refine ⟨congrArg (fun b => Ending.returned (.bool b)) ?_, hN⟩
        unfold fitB
        first
          | (symm; apply decide_eq_false; rintro ⟨q1, q2, q3, q4, q5, q6, q7, q8, q9, q10⟩; first | omega | (have q8' := q8 (by omega); omega))
          | (rw [Bool.eq_iff_iff, decide_eq_true_eq]
             constructor
             · intro h
               refine ⟨by omega, by omega, by omega, by omega, by omega, by omega, by omega, fun hk => by omega, by omega, by simpa using h⟩
             · rintro ⟨q1, q2, q3, q4, q5, q6, q7, q8, q9, q10⟩
               simpa using q10)
     ·
      intro hg10
      have hg10d := of_decide_eq_false hg10
      refine t_no rfl rfl (by rw [hg10]; decide) ?_
      refine t_no rfl rfl (by rw [hg10]; decide) ?_
      refine t_no rfl rfl (by rw [hg10]; decide) ?_
      refine t_no rfl rfl (by rw [hg10]; decide) ?_
      refine t_yes rfl rfl hg8 ?_
      refine t_q (q_pick_f rfl hg10) ?_
      refine t_q (q_pick_f rfl hg8) ?_
      refine t_nil ?_
      refine c_cond_f rfl rfl ?_
      refine c_skip (c_seq (c_region ?_))
      refine t_q (q_fieldAddr 12 Try.runUnderlying114 rfl Try.sizeOf112 (by decide) rfl rfl) ?_
      refine t_q (q_load1 Try.isAgg112 rfl (hS.cell (by repeat constructor) rfl)) ?_
      refine t_call Try.call137 (ebytes_calls (l := x.events.l) (Rd.st hx.vrd hS) hx.vin hx.vle) rfl ?_
      rintro e w ⟨A44, m44, c44, rfl, hm44, hT⟩
      refine ⟨_, rfl, ?_⟩
      have hS : St W w (_ :: _) := hS.lift hT
      refine t_q (q_mv (.tuple _) rfl) ?_
      refine t_q (q_extract rfl rfl) ?_
      refine t_q (q_extract rfl rfl) ?_
      refine t_q (q_as (.slice _ _ _) rfl) ?_
      refine t_q (q_as (.int _ _) rfl) ?_
      refine t_nil (c_seq (c_region ?_))
      refine t_q (q_mv (.int _ _) rfl) ?_
      refine t_q (q_eql rfl rfl) ?_
      refine t_q (q_mv (.bool _) rfl) ?_
      refine t_case 49 rfl ?_ ?_
      ·
       intro hg23
       have hg23d := of_decide_eq_true hg23
       refine t_yes rfl rfl hg23 ?_
       refine t_q (q_fieldAddr 8 Try.runUnderlying114 rfl Try.sizeOf111 (by decide) rfl rfl) ?_
       refine t_yes rfl rfl hg23 ?_
       refine t_q (q_load1 Try.isAgg111 rfl (hS.cell (by repeat constructor) rfl)) ?_
       refine t_yes rfl rfl hg23 ?_
       refine t_call Try.call138 (wcon_calls (l := x.entries.l) (Rd.st hx.erd hS) (by have := hx.ele; omega)) rfl ?_
       rintro e w ⟨rfl, hT⟩
       refine ⟨_, rfl, ?_⟩
       replace hS := hS.after hT
       refine t_yes rfl rfl hg23 ?_
       refine t_q (q_not rfl) ?_
       refine t_q (q_pick_t rfl hg23) ?_
       refine t_q (q_as (.bool _) rfl) ?_
       refine t_nil (c_ret ?_)
       refine r_one rfl rfl ?_
       have hN := hS.nil
       clear hS
       refine ⟨congrArg (fun b => Ending.returned (.bool b)) ?_, hN⟩
       unfold fitB
       first
         | (symm; apply decide_eq_false; rintro ⟨q1, q2, q3, q4, q5, q6, q7, q8, q9, q10⟩; first | omega | (have q8' := q8 (by omega); omega))
         | (rw [Bool.eq_iff_iff, decide_eq_true_eq]
            constructor
            · intro h
              refine ⟨by omega, by omega, by omega, by omega, by omega, by omega, by omega, fun hk => by omega, by omega, by simpa using h⟩
            · rintro ⟨q1, q2, q3, q4, q5, q6, q7, q8, q9, q10⟩
              simpa using q10)
      ·
       intro hg23
       have hg23d := of_decide_eq_false hg23
       refine t_no rfl rfl (by rw [hg23]; decide) ?_
       refine t_no rfl rfl (by rw [hg23]; decide) ?_
       refine t_no rfl rfl (by rw [hg23]; decide) ?_
       refine t_no rfl rfl (by rw [hg23]; decide) ?_
       refine t_q (q_pick_f rfl hg23) ?_
       refine t_q (q_as (.bool _) rfl) ?_
       refine t_nil (c_ret ?_)
       refine r_one rfl rfl ?_
       have hN := hS.nil
       clear hS
       refine ⟨congrArg (fun b => Ending.returned (.bool b)) ?_, hN⟩
       unfold fitB
       first
         | (symm; apply decide_eq_false; rintro ⟨q1, q2, q3, q4, q5, q6, q7, q8, q9, q10⟩; first | omega | (have q8' := q8 (by omega); omega))
         | (rw [Bool.eq_iff_iff, decide_eq_true_eq]
            constructor
            · intro h
              refine ⟨by omega, by omega, by omega, by omega, by omega, by omega, by omega, fun hk => by omega, by omega, by simpa using h⟩
            · rintro ⟨q1, q2, q3, q4, q5, q6, q7, q8, q9, q10⟩
              simpa using q10)
end Go.Proofs.Ytlppgpidakfnlaa
