/- The table of acks: what each call of it does. -/
import Derived.Test.YtmgobaojioaioaaR
import Derived.Test.YtmgobaojioaioaaAp
import Derived.Test.YtmgobaojioaioaaOp
import Derived.Test.YtmgobaojioaioaaProg
namespace Go.Proofs.Ytmgobaojioaioaa
open Go Go.RowKit Go.Lib
variable {W : World}
def tcs (n : Int) (s : Nat → Int) : List Value := [.int .i64 n, .int .u64 (s 0), .int .u64 (s 1), .int .u64 (s 2), .int .u64 (s 3), .int .u64 (s 4), .int .u64 (s 5), .int .u64 (s 6)]
def upd1 (s : Nat → Int) (j : Nat) (x : Int) : Nat → Int := fun i => if i = j then x else s i
theorem seven {Q : Nat → Prop} (h0 : Q 0) (h1 : Q 1) (h2 : Q 2) (h3 : Q 3) (h4 : Q 4) (h5 : Q 5) (h6 : Q 6) : ∀ i, i < 7 → Q i := by
  intro i hi
  have : i = 0 ∨ i = 1 ∨ i = 2 ∨ i = 3 ∨ i = 4 ∨ i = 5 ∨ i = 6 := by omega
  rcases this with rfl | rfl | rfl | rfl | rfl | rfl | rfl <;> assumption
theorem tcell {n : Int} {s : Nat → Int} {i : Nat} (h : i < 7) : (tcs n s)[1 + i * 1]? = some (.int .u64 (s i)) :=
  seven (Q := fun i => (tcs n s)[1 + i * 1]? = some (.int .u64 (s i))) rfl rfl rfl rfl rfl rfl rfl i h
theorem tset {n : Int} {s : Nat → Int} {i : Nat} {x : Int} (h : i < 7) : setN (tcs n s) (1 + i * 1) [.int .u64 x] = tcs n (upd1 s i x) :=
  seven (Q := fun i => setN (tcs n s) (1 + i * 1) [.int .u64 x] = tcs n (upd1 s i x)) rfl rfl rfl rfl rfl rfl rfl i h
theorem tcs_congr {n : Int} {s q : Nat → Int} (h : ∀ i, i < 7 → s i = q i) : tcs n s = tcs n q := by
  unfold tcs
  rw [h 0 (by decide), h 1 (by decide), h 2 (by decide), h 3 (by decide), h 4 (by decide), h 5 (by decide), h 6 (by decide)]
theorem bitN_out {v : Int} (h : ¬ (1 ≤ v ∧ v ≤ 32)) : bitN v = 0 := by unfold bitN; rw [if_neg h]
theorem bitN_in {v : Int} (h : 1 ≤ v ∧ v ≤ 32) : bitN v = 2 ^ (v - 1).toNat := by unfold bitN; rw [if_pos h]
theorem bitN_zero {v : Int} : bitN v = 0 ↔ ¬ (1 ≤ v ∧ v ≤ 32) := by
  constructor
  · intro h hv
    rw [bitN_in hv] at h
    have : 0 < 2 ^ (v - 1).toNat := Nat.pow_pos (by decide)
    omega
  · exact bitN_out
theorem shl_bit {v : Int} (h : 1 ≤ v ∧ v ≤ 32) : IntKind.u64.wrap ((1 : Int) * 2 ^ min (v - 1).toNat IntKind.u64.bits) = (bitN v : Int) := by
  rw [bitN_in h, show min (v - 1).toNat IntKind.u64.bits = (v - 1).toNat from by show min _ 64 = _; omega, Int.one_mul]
  have hp : 2 ^ (v - 1).toNat ≤ 2 ^ 31 := Nat.pow_le_pow_right (by decide) (by omega)
  rw [show ((2 : Int) ^ (v - 1).toNat) = ((2 ^ (v - 1).toNat : Nat) : Int) from by rw [Int.natCast_pow]; rfl]
  generalize 2 ^ (v - 1).toNat = x at *
  rw [wrap_u64 (by omega)]
def Sb (s : Nat → Int) : Prop := ∀ i, 0 ≤ s i ∧ s i < 4294967296
def ofT (n : Int) (s : Nat → Int) (r : Int) : Int := if 0 ≤ r ∧ r < n then s r.toNat else 0
def orT (s : Nat → Int) (v : Int) (i : Nat) : Int := (((s i).toNat ||| bitN v : Nat) : Int)
theorem orT_b {s : Nat → Int} (h : Sb s) (v : Int) (i : Nat) : 0 ≤ orT s v i ∧ orT s v i < 4294967296 := by
  have h1 := h i
  have h2 := bitN_lt v
  have h3 : (s i).toNat ||| bitN v < 2 ^ 32 := Nat.or_lt_two_pow (by omega) (by omega)
  unfold orT
  omega
def addT (s : Nat → Int) (r v : Int) : Nat → Int := upd1 s r.toNat (orT s v r.toNat)
theorem addT_b {s : Nat → Int} (h : Sb s) (r v : Int) : Sb (addT s r v) := by
  intro i
  unfold addT upd1
  split
  · exact orT_b h v _
  · exact h i
def oJ (s : Nat → Int) (v : Int) (j : Nat) : Nat → Int := fun i => if i < j then orT s v i else s i
theorem oJ_b {s : Nat → Int} (h : Sb s) (v : Int) (j : Nat) : Sb (oJ s v j) := by
  intro i
  unfold oJ
  split
  · exact orT_b h v i
  · exact h i
theorem oJ_at {s : Nat → Int} {v : Int} {j : Nat} : oJ s v j j = s j := by unfold oJ; rw [if_neg (by omega)]
theorem oJ_more {s : Nat → Int} {v : Int} {j : Nat} : upd1 (oJ s v j) j (orT s v j) = oJ s v (j + 1) := by
  funext i
  unfold upd1 oJ
  by_cases h : i = j
  · subst h; rw [if_pos rfl, if_pos (by omega)]
  · rw [if_neg h]
    by_cases h2 : i < j
    · rw [if_pos h2, if_pos (by omega)]
    · rw [if_neg h2, if_neg (by omega)]
def allT (n : Int) (s : Nat → Int) (v : Int) : Bool := decide (0 < n) && (decide (bitN v ≠ 0) && decide (∀ i, i < n.toNat → orT s v i = s i))
set_option maxRecDepth 100000 in
theorem bit_calls {v : Int} : Calls Try.prog 71 #[.int .i64 v] W fun e w' => e = .returned (.int .u64 (bitN v : Int)) ∧ St W w' [] := by
  have hS := St.init W
  refine calls_of_wpE (args := [_]) Try.func71 rfl rfl rfl ?_
  refine c_seq ?_
  refine c_region ?_
  refine t_q (q_assign) ?_
  refine t_nil ?_
  refine c_seq ?_
  refine c_seq ?_
  refine c_region ?_
  refine t_q (q_mv (.int _ _) rfl) ?_
  refine t_q (q_lss rfl rfl) ?_
  refine t_q (q_mv (.bool _) rfl) ?_
  refine t_case 5 rfl ?_ ?_
  · intro hg2
    have hg2d := of_decide_eq_true hg2
    refine t_no rfl rfl (by rw [hg2]; decide) ?_
    refine t_no rfl rfl (by rw [hg2]; decide) ?_
    refine t_q (q_pick_t rfl hg2) ?_
    refine t_nil ?_
    refine c_cond_t rfl rfl ?_
    refine c_seq ?_
    refine c_region ?_
    refine t_q (q_assign) ?_
    refine t_nil ?_
    refine c_ret ?_
    refine r_one rfl rfl ?_
    refine ⟨congrArg (fun n => Ending.returned (.int .u64 n)) ?_, hS⟩
    first | rfl | (rw [bitN_out (by omega)]; rfl)
  · intro hg2
    have hg2d := of_decide_eq_false hg2
    refine t_yes rfl rfl hg2 ?_
    refine t_q (q_mv (.int _ _) rfl) ?_
    refine t_yes rfl rfl hg2 ?_
    refine t_q (q_gtr rfl rfl) ?_
    refine t_q (q_pick_f rfl hg2) ?_
    refine t_nil ?_
    refine c_cond rfl ?_ ?_
    · intro hc4
      have hc4d := of_decide_eq_true hc4
      refine c_seq ?_
      refine c_region ?_
      refine t_q (q_assign) ?_
      refine t_nil ?_
      refine c_ret ?_
      refine r_one rfl rfl ?_
      refine ⟨congrArg (fun n => Ending.returned (.int .u64 n)) ?_, hS⟩
      first | rfl | (rw [bitN_out (by omega)]; rfl)
    · intro hc4
      have hc4d := of_decide_eq_false hc4
      refine c_skip ?_
      refine c_seq ?_
      refine c_region ?_
      refine t_q (q_mv (.int _ _) rfl) ?_
      refine t_q (q_sub_i64 rfl rfl (by omega)) ?_
      refine t_q (q_cast (v' := .int .u64 (bitN v : Int)) (q_shl rfl rfl (by omega)) (by rw [shl_bit (by omega)])) ?_
      refine t_q (q_as (.int _ _) rfl) ?_
      refine t_nil ?_
      refine c_ret ?_
      refine r_one rfl rfl ?_
      refine ⟨congrArg (fun n => Ending.returned (.int .u64 n)) ?_, hS⟩
      first | rfl | (rw [bitN_out (by omega)]; rfl)
set_option maxRecDepth 100000 in
theorem afine_calls {v : Int} : Calls Try.prog 126 #[.int .i64 v] W fun e w' => e = .returned (.bool (decide (1 ≤ v ∧ v ≤ 32))) ∧ St W w' [] := by
  have hS := St.init W
  refine calls_of_wpE (args := [_]) Try.func126 rfl rfl rfl ?_
  refine c_seq ?_
  refine c_region ?_
  refine t_q (q_assign) ?_
  refine t_nil ?_
  refine c_seq ?_
  refine c_region ?_
  refine t_q (q_mv (.int _ _) rfl) ?_
  refine t_q (q_geq rfl rfl) ?_
  refine t_q (q_mv (.bool _) rfl) ?_
  refine t_case 5 rfl ?_ ?_
  · intro hg2
    have hg2d := of_decide_eq_true hg2
    refine t_yes rfl rfl hg2 ?_
    refine t_q (q_mv (.int _ _) rfl) ?_
    refine t_yes rfl rfl hg2 ?_
    refine t_q (q_leq rfl rfl) ?_
    refine t_q (q_pick_t rfl hg2) ?_
    refine t_q (q_as (.bool _) rfl) ?_
    refine t_nil ?_
    refine c_ret ?_
    refine r_one rfl rfl ?_
    refine ⟨congrArg (fun b => Ending.returned (.bool b)) ?_, hS.nil⟩
    first | rfl | (rw [decide_eq_decide]; omega) | exact (decide_eq_false (by omega)).symm | exact (decide_eq_true (by omega)).symm
  · intro hg2
    have hg2d := of_decide_eq_false hg2
    refine t_no rfl rfl (by rw [hg2]; decide) ?_
    refine t_no rfl rfl (by rw [hg2]; decide) ?_
    refine t_q (q_pick_f rfl hg2) ?_
    refine t_q (q_as (.bool _) rfl) ?_
    refine t_nil ?_
    refine c_ret ?_
    refine r_one rfl rfl ?_
    refine ⟨congrArg (fun b => Ending.returned (.bool b)) ?_, hS.nil⟩
    first | rfl | (rw [decide_eq_decide]; omega) | exact (decide_eq_false (by omega)).symm | exact (decide_eq_true (by omega)).symm
theorem pow31 {j : Nat} (h : j ≤ 31) : 2 ^ j ≤ 2147483648 := Nat.le_trans (Nat.pow_le_pow_right (n := 2) (by decide) h) (by decide)
set_option maxRecDepth 100000 in
theorem qbit_calls {v : Int} : Calls Try.prog 82 #[.int .i64 v] W fun e w' => e = .returned (.int .u64 (bitN v : Int)) ∧ St W w' [] := by
  have hS := St.init W
  refine calls_of_wpE (args := [_]) Try.func82 rfl rfl rfl ?_
  refine c_seq ?_
  refine c_region ?_
  refine t_q (q_assign) ?_
  refine t_nil ?_
  refine c_seq ?_
  refine c_seq ?_
  refine c_region ?_
  refine t_q (q_mv (.int _ _) rfl) ?_
  refine t_call Try.call126 (afine_calls) rfl ?_
  rintro e w ⟨rfl, hT⟩
  refine ⟨_, rfl, ?_⟩
  replace hS := hS.after hT
  refine t_q (q_not rfl) ?_
  refine t_nil ?_
  refine c_cond rfl ?_ ?_
  · intro hc2
    have hv : ¬ (1 ≤ v ∧ v ≤ 32) := not_dec_t hc2
    refine c_seq ?_
    refine c_region ?_
    refine t_q (q_assign) ?_
    refine t_nil ?_
    refine c_ret ?_
    refine r_one rfl rfl ?_
    refine ⟨congrArg (fun n => Ending.returned (.int .u64 n)) ?_, hS⟩
    first | (rw [bitN_out hv]; rfl) | rw [bitN_in hv, show (v - 1).toNat = j from by omega, ← hx]
  · intro hc2
    have hv : 1 ≤ v ∧ v ≤ 32 := not_dec_f hc2
    refine c_skip ?_
    refine c_seq ?_
    refine c_region ?_
    refine t_q (q_assign) ?_
    refine t_nil ?_
    refine c_seq ?_
    refine c_seq ?_
    refine c_region ?_
    refine t_q (q_assign) ?_
    refine t_nil ?_
    refine c_block ?_
    refine c_loop [3, 4, 8, 9, 10, 11, 12, 13, 14] (fun k σ w => ∃ j x : Nat, σ 4 = .int .i64 ((j : Int) + 1) ∧ σ 3 = .int .u64 (x : Int) ∧ x = 2 ^ j ∧ (j : Int) + 1 ≤ v ∧ (v - (j : Int)).toNat ≤ k ∧ St W w []) (v.toNat) rfl (⟨0, 1, rfl, rfl, rfl, by omega, by omega, hS⟩) ?_
    skip
    rintro k σ w ⟨j, x, h4, h3, hx, hj, hk, hS⟩
    refine c_know 4 h4 ?_
    refine c_know 3 h3 ?_
    clear h4 h3
    have hp := pow31 (j := j) (by omega)
    rw [← hx] at hp
    refine c_seq ?_
    refine c_seq ?_
    refine c_region ?_
    refine t_q (q_mv (.int _ _) rfl) ?_
    refine t_q (q_mv (.int _ _) rfl) ?_
    refine t_q (q_lss rfl rfl) ?_
    refine t_nil ?_
    refine c_cond rfl ?_ ?_
    · intro hc4
      have hc4d := of_decide_eq_true hc4
      refine c_skip ?_
      refine c_seq ?_
      refine c_block ?_
      refine c_region ?_
      refine t_q (q_mv (.int _ _) rfl) ?_
      refine t_q (q_cast (v' := .int .u64 ((2 * x : Nat) : Int)) (q_mul_u64 rfl rfl (by omega)) (by simp)) ?_
      refine t_q (q_as (.int _ _) rfl) ?_
      refine t_nil ?_
      refine c_region ?_
      refine t_q (q_mv (.int _ _) rfl) ?_
      refine t_q (q_cast (v' := .int .i64 (((j + 1 : Nat) : Int) + 1)) (q_add_i64 rfl rfl (by omega)) (by congr 1)) ?_
      refine t_q (q_as (.int _ _) rfl) ?_
      refine t_nil ?_
      exact ⟨k - 1, by omega, j + 1, 2 * x, rfl, rfl, by rw [hx, Nat.pow_succ, Nat.mul_comm], by omega, by omega, hS⟩
    · intro hc4
      have hc4d := of_decide_eq_false hc4
      refine c_exit ?_
      refine ite_t rfl ?_
      refine c_seq ?_
      refine c_region ?_
      refine t_q (q_mv (.int _ _) rfl) ?_
      refine t_q (q_as (.int _ _) rfl) ?_
      refine t_nil ?_
      refine c_ret ?_
      refine r_one rfl rfl ?_
      refine ⟨congrArg (fun n => Ending.returned (.int .u64 n)) ?_, hS⟩
      first | (rw [bitN_out hv]; rfl) | rw [bitN_in hv, show (v - 1).toNat = j from by omega, ← hx]
def setV (vs : List Int) : Nat := vs.foldl (fun a v => a ||| bitN v) 0
theorem setV_snoc {vs : List Int} {j : Nat} (h : j < vs.length) : setV (vs.take (j + 1)) = setV (vs.take j) ||| bitN (vs.getD j 0) := by
  rw [List.take_succ_eq_append_getElem h, setV, List.foldl_append, List.getD_eq_getElem?_getD, List.getElem?_eq_getElem h]
  rfl
theorem setV_lt (vs : List Int) : setV vs < 4294967296 := by
  have h : ∀ (l : List Int) (a : Nat), a < 2 ^ 32 → l.foldl (fun a v => a ||| bitN v) a < 2 ^ 32 := by
    intro l
    induction l with
    | nil => intro a h; exact h
    | cons v l ih => intro a h; exact ih _ (Nat.or_lt_two_pow h (bitN_lt v))
  exact h vs 0 (by decide)
set_option maxRecDepth 100000 in
theorem set_calls {A : Option Addr} {c : Nat} {vs : List Int} (hR : RdI W .i64 A vs) (hm : vs.length ≤ 1000000) : Calls Try.prog 80 #[.slice A vs.length c] W fun e w' => e = .returned (.int .u64 (setV vs : Int)) ∧ St W w' [] := by
  have hS := St.init W
  refine calls_of_wpE (args := [_]) Try.func80 rfl rfl rfl ?_
  refine c_seq ?_
  refine c_region ?_
  refine t_q (q_assign) ?_
  refine t_nil ?_
  refine c_seq ?_
  refine c_seq ?_
  refine c_region ?_
  refine t_q (q_mv (.slice _ _ _) rfl) ?_
  refine t_q (q_len_slice Try.runUnderlying59 rfl) ?_
  refine t_q (q_move) ?_
  refine t_nil ?_
  refine c_block ?_
  refine c_loop [2, 4, 7, 8, 9, 10, 11, 12, 13, 14, 15] (fun k σ w => ∃ j : Nat, σ 7 = .int .i64 (j : Int) ∧ σ 2 = .int .u64 (setV (vs.take j) : Int) ∧ j ≤ vs.length ∧ vs.length - j ≤ k ∧ St W w []) (vs.length) rfl (⟨0, rfl, rfl, by omega, by omega, hS⟩) ?_
  skip
  rintro k σ w ⟨j, h7, h2, hj, hk, hS⟩
  refine c_know 7 h7 ?_
  refine c_know 2 h2 ?_
  clear h7 h2
  have hv1 := setV_lt (vs.take j)
  have hv2 := bitN_lt (vs.getD j 0)
  refine c_seq ?_
  refine c_region ?_
  refine t_q (q_lss rfl rfl) ?_
  refine t_nil ?_
  refine c_seq ?_
  refine c_cond rfl ?_ ?_
  · intro hc2
    have hc2d := of_decide_eq_true hc2
    refine c_skip ?_
    refine c_seq ?_
    refine c_block ?_
    refine c_seq ?_
    refine c_region ?_
    first | refine t_index_nat Try.runUnderlying59 Try.sizeOf3 (hR.st hS) rfl rfl (by omega) (fun ad3 hl3 hx3 => ?_) | refine t_index Try.runUnderlying59 Try.sizeOf3 (hR.st hS) rfl rfl (by omega) (fun ad3 hl3 hx3 => ?_)
    refine t_q (q_cast (v' := .int .i64 (vs.getD j 0)) (q_load1 Try.isAgg3 rfl (hx3 0 _ rfl)) (rfl)) ?_
    refine t_q (q_as (.int _ _) rfl) ?_
    refine t_nil ?_
    refine c_region ?_
    refine t_q (q_mv (.int _ _) rfl) ?_
    refine t_q (q_mv (.int _ _) rfl) ?_
    refine t_call Try.call71 (bit_calls) rfl ?_
    rintro e w ⟨rfl, hT⟩
    refine ⟨_, rfl, ?_⟩
    replace hS := hS.after hT
    refine t_q (q_cast (v' := .int .u64 (setV (vs.take (j + 1)) : Int)) (q_or_u64 rfl rfl (by omega) (by omega)) (by rw [setV_snoc (by omega)]; rfl)) ?_
    refine t_q (q_as (.int _ _) rfl) ?_
    refine t_nil ?_
    refine c_region ?_
    refine t_q (q_add_i64 rfl rfl (by omega)) ?_
    refine t_q (q_mv (.int _ _) rfl) ?_
    refine t_nil ?_
    exact ⟨k - 1, by omega, j + 1, rfl, rfl, by omega, by omega, hS⟩
  · intro hc2
    have hc2d := of_decide_eq_false hc2
    refine c_exit ?_
    refine ite_t rfl ?_
    refine c_seq ?_
    refine c_region ?_
    refine t_q (q_mv (.int _ _) rfl) ?_
    refine t_q (q_as (.int _ _) rfl) ?_
    refine t_nil ?_
    refine c_ret ?_
    refine r_one rfl rfl ?_
    obtain rfl : j = vs.length := by omega
    rw [List.take_length]
    exact ⟨rfl, hS⟩
set_option maxRecDepth 100000 in
theorem is_calls {n r : Int} {s : Nat → Int} : Calls Try.prog 139 #[.agg (tcs n s).toArray, .int .i64 r] W fun e w' => e = .returned (.bool (decide (0 ≤ r ∧ r < n))) ∧ St W w' [] := by
  have hS := St.init W
  refine calls_of_wpE (args := [_, _]) Try.func139 rfl rfl rfl ?_
  refine c_seq ?_
  refine c_region ?_
  refine t_box (v := (.agg _)) rfl rfl hS (fun g2 w hS => ?_)
  refine t_q (q_assign) ?_
  refine t_nil ?_
  refine c_seq ?_
  refine c_region ?_
  refine t_q (q_mv (.int _ _) rfl) ?_
  refine t_q (q_geq rfl rfl) ?_
  refine t_q (q_mv (.bool _) rfl) ?_
  refine t_case 7 rfl ?_ ?_
  · intro hg2
    have hg2d := of_decide_eq_true hg2
    refine t_yes rfl rfl hg2 ?_
    refine t_q (q_mv (.int _ _) rfl) ?_
    refine t_yes rfl rfl hg2 ?_
    refine t_q (q_fieldAddr 0 Try.runUnderlying32 rfl Try.sizeOf3 (by decide) rfl rfl) ?_
    refine t_yes rfl rfl hg2 ?_
    refine t_q (q_load1 Try.isAgg3 rfl (hS.cell (by repeat first | exact .here _ _ | assumption | apply Pick.there) rfl)) ?_
    refine t_yes rfl rfl hg2 ?_
    refine t_q (q_lss rfl rfl) ?_
    refine t_q (q_pick_t rfl hg2) ?_
    refine t_q (q_as (.bool _) rfl) ?_
    refine t_nil ?_
    refine c_ret ?_
    refine r_one rfl rfl ?_
    refine ⟨congrArg (fun b => Ending.returned (.bool b)) ?_, hS.nil⟩
    first | rfl | (rw [decide_eq_decide]; omega) | exact (decide_eq_false (by omega)).symm | exact (decide_eq_true (by omega)).symm
  · intro hg2
    have hg2d := of_decide_eq_false hg2
    refine t_no rfl rfl (by rw [hg2]; decide) ?_
    refine t_no rfl rfl (by rw [hg2]; decide) ?_
    refine t_no rfl rfl (by rw [hg2]; decide) ?_
    refine t_no rfl rfl (by rw [hg2]; decide) ?_
    refine t_q (q_pick_f rfl hg2) ?_
    refine t_q (q_as (.bool _) rfl) ?_
    refine t_nil ?_
    refine c_ret ?_
    refine r_one rfl rfl ?_
    refine ⟨congrArg (fun b => Ending.returned (.bool b)) ?_, hS.nil⟩
    first | rfl | (rw [decide_eq_decide]; omega) | exact (decide_eq_false (by omega)).symm | exact (decide_eq_true (by omega)).symm
set_option maxRecDepth 100000 in
theorem of_calls {n r : Int} {s : Nat → Int} (hn : n ≤ 7) : Calls Try.prog 112 #[.agg (tcs n s).toArray, .int .i64 r] W fun e w' => e = .returned (.int .u64 (ofT n s r)) ∧ St W w' [] := by
  have hS := St.init W
  refine calls_of_wpE (args := [_, _]) Try.func112 rfl rfl rfl ?_
  refine c_seq ?_
  refine c_region ?_
  refine t_box (v := (.agg _)) rfl rfl hS (fun g2 w hS => ?_)
  refine t_q (q_assign) ?_
  refine t_nil ?_
  refine c_seq ?_
  refine c_seq ?_
  refine c_region ?_
  refine t_q (q_load_blk Try.isAgg32 Try.sizeOf32 rfl (hS.blk (by repeat first | exact .here _ _ | assumption | apply Pick.there)) rfl) ?_
  refine t_q (q_mv (.int _ _) rfl) ?_
  refine t_call Try.call139 (is_calls) rfl ?_
  rintro e w ⟨rfl, hT⟩
  refine ⟨_, rfl, ?_⟩
  replace hS := hS.after hT
  refine t_q (q_not rfl) ?_
  refine t_nil ?_
  refine c_cond rfl ?_ ?_
  · intro hc2
    have hr : ¬ (0 ≤ r ∧ r < n) := not_dec_t hc2
    refine c_seq ?_
    refine c_region ?_
    refine t_q (q_assign) ?_
    refine t_nil ?_
    refine c_ret ?_
    refine r_one rfl rfl ?_
    refine ⟨congrArg (fun n => Ending.returned (.int .u64 n)) ?_, hS.nil⟩
    unfold ofT
    first | rw [if_neg hr] | rw [if_pos hr]
  · intro hc2
    have hr : 0 ≤ r ∧ r < n := not_dec_f hc2
    refine c_skip ?_
    refine c_seq ?_
    refine c_region ?_
    refine t_q (q_mv (.int _ _) rfl) ?_
    refine t_q (q_fieldAddr 1 Try.runUnderlying32 rfl Try.sizeOf30 (by decide) rfl rfl) ?_
    first | refine t_q (q_arr_nat Try.runUnderlying30 Try.sizeOf26 rfl rfl (by omega)) ?_ | refine t_q (q_arr Try.runUnderlying30 Try.sizeOf26 rfl rfl (by omega)) ?_
    refine t_q (q_load1 Try.isAgg26 rfl (hS.cell (by repeat first | exact .here _ _ | assumption | apply Pick.there) (tcell (by omega)))) ?_
    refine t_q (q_as (.int _ _) rfl) ?_
    refine t_nil ?_
    refine c_ret ?_
    refine r_one rfl rfl ?_
    refine ⟨congrArg (fun n => Ending.returned (.int .u64 n)) ?_, hS.nil⟩
    unfold ofT
    first | rw [if_neg hr] | rw [if_pos hr]
-- has_calls: no such function here
set_option maxRecDepth 100000 in
theorem reps_calls {n : Int} {s : Nat → Int} : Calls Try.prog 111 #[.agg (tcs n s).toArray] W fun e w' => e = .returned (.int .i64 n) ∧ St W w' [] := by
  have hS := St.init W
  refine calls_of_wpE (args := [_]) Try.func111 rfl rfl rfl ?_
  refine c_seq ?_
  refine c_region ?_
  refine t_box (v := (.agg _)) rfl rfl hS (fun g1 w hS => ?_)
  refine t_q (q_assign) ?_
  refine t_nil ?_
  refine c_seq ?_
  refine c_region ?_
  refine t_q (q_fieldAddr 0 Try.runUnderlying32 rfl Try.sizeOf3 (by decide) rfl rfl) ?_
  refine t_q (q_load1 Try.isAgg3 rfl (hS.cell (by repeat first | exact .here _ _ | assumption | apply Pick.there) rfl)) ?_
  refine t_q (q_as (.int _ _) rfl) ?_
  refine t_nil ?_
  refine c_ret ?_
  refine r_one rfl rfl ?_
  exact ⟨rfl, hS.nil⟩
set_option maxRecDepth 100000 in
theorem new_calls {n : Int} : Calls Try.prog 70 #[.int .i64 n] W fun e w' => e = .returned (.tuple #[.agg (if 1 ≤ n ∧ n ≤ 7 then tcs n (fun _ => 0) else tcs 0 (fun _ => 0)).toArray, .int .i64 (if 1 ≤ n ∧ n ≤ 7 then 0 else 2)]) ∧ St W w' [] := by
  have hS := St.init W
  refine calls_of_wpE (args := [_]) Try.func70 rfl rfl rfl ?_
  refine c_seq ?_
  refine c_region ?_
  refine t_alloc Try.zeroValue32 rfl hS (fun g2 w hS => ?_)
  refine t_q (q_assign) ?_
  refine t_nil ?_
  refine c_seq ?_
  refine c_seq ?_
  refine c_region ?_
  refine t_q (q_mv (.int _ _) rfl) ?_
  refine t_q (q_lss rfl rfl) ?_
  refine t_q (q_mv (.bool _) rfl) ?_
  refine t_case 6 rfl ?_ ?_
  · intro hg2
    have hg2d := of_decide_eq_true hg2
    refine t_no rfl rfl (by rw [hg2]; decide) ?_
    refine t_no rfl rfl (by rw [hg2]; decide) ?_
    refine t_q (q_pick_t rfl hg2) ?_
    refine t_nil ?_
    refine c_cond_t rfl rfl ?_
    refine c_seq ?_
    refine c_region ?_
    refine t_q (q_build (qs := [(0, 1), (1, 7)]) [(.int _ _), (.int _ _), (.int _ _), (.int _ _), (.int _ _), (.int _ _), (.int _ _), (.int _ _)] Try.zeroValue32 Try.runUnderlying32 ⟨rfl, Try.sizeOf3, rfl, Try.sizeOf30, trivial⟩ rfl rfl) ?_
    refine t_store (v := (.agg _)) Try.sizeOf32 hS (by repeat first | exact .here _ _ | assumption | apply Pick.there) rfl rfl rfl rfl rfl rfl (fun w hS => ?_)
    refine t_q (q_assign) ?_
    refine t_nil ?_
    refine c_ret ?_
    refine r_two rfl (res1_cellN Try.isAgg32 Try.sizeOf32 rfl (hS.blk (by repeat first | exact .here _ _ | assumption | apply Pick.there)) rfl) rfl ?_
    first | (rw [if_pos (show 1 ≤ n ∧ n ≤ 7 by omega), if_pos (show 1 ≤ n ∧ n ≤ 7 by omega)]; exact ⟨rfl, hS.nil⟩) | (rw [if_neg (show ¬ (1 ≤ n ∧ n ≤ 7) by omega), if_neg (show ¬ (1 ≤ n ∧ n ≤ 7) by omega)]; exact ⟨rfl, hS.nil⟩)
  · intro hg2
    have hg2d := of_decide_eq_false hg2
    refine t_yes rfl rfl hg2 ?_
    refine t_q (q_mv (.int _ _) rfl) ?_
    refine t_yes rfl rfl hg2 ?_
    refine t_q (q_gtr rfl rfl) ?_
    refine t_q (q_pick_f rfl hg2) ?_
    refine t_nil ?_
    refine c_cond rfl ?_ ?_
    · intro hc4
      have hc4d := of_decide_eq_true hc4
      refine c_seq ?_
      refine c_region ?_
      refine t_q (q_build (qs := [(0, 1), (1, 7)]) [(.int _ _), (.int _ _), (.int _ _), (.int _ _), (.int _ _), (.int _ _), (.int _ _), (.int _ _)] Try.zeroValue32 Try.runUnderlying32 ⟨rfl, Try.sizeOf3, rfl, Try.sizeOf30, trivial⟩ rfl rfl) ?_
      refine t_store (v := (.agg _)) Try.sizeOf32 hS (by repeat first | exact .here _ _ | assumption | apply Pick.there) rfl rfl rfl rfl rfl rfl (fun w hS => ?_)
      refine t_q (q_assign) ?_
      refine t_nil ?_
      refine c_ret ?_
      refine r_two rfl (res1_cellN Try.isAgg32 Try.sizeOf32 rfl (hS.blk (by repeat first | exact .here _ _ | assumption | apply Pick.there)) rfl) rfl ?_
      first | (rw [if_pos (show 1 ≤ n ∧ n ≤ 7 by omega), if_pos (show 1 ≤ n ∧ n ≤ 7 by omega)]; exact ⟨rfl, hS.nil⟩) | (rw [if_neg (show ¬ (1 ≤ n ∧ n ≤ 7) by omega), if_neg (show ¬ (1 ≤ n ∧ n ≤ 7) by omega)]; exact ⟨rfl, hS.nil⟩)
    · intro hc4
      have hc4d := of_decide_eq_false hc4
      refine c_skip ?_
      refine c_seq ?_
      refine c_region ?_
      refine t_q (q_mv (.int _ _) rfl) ?_
      refine t_q (q_build (qs := [(0, 1), (1, 7)]) [(.int _ _), (.int _ _), (.int _ _), (.int _ _), (.int _ _), (.int _ _), (.int _ _), (.int _ _)] Try.zeroValue32 Try.runUnderlying32 ⟨rfl, Try.sizeOf3, rfl, Try.sizeOf30, trivial⟩ rfl rfl) ?_
      refine t_store (v := (.agg _)) Try.sizeOf32 hS (by repeat first | exact .here _ _ | assumption | apply Pick.there) rfl rfl rfl rfl rfl rfl (fun w hS => ?_)
      refine t_q (q_assign) ?_
      refine t_nil ?_
      refine c_ret ?_
      refine r_two rfl (res1_cellN Try.isAgg32 Try.sizeOf32 rfl (hS.blk (by repeat first | exact .here _ _ | assumption | apply Pick.there)) rfl) rfl ?_
      first | (rw [if_pos (show 1 ≤ n ∧ n ≤ 7 by omega), if_pos (show 1 ≤ n ∧ n ≤ 7 by omega)]; exact ⟨rfl, hS.nil⟩) | (rw [if_neg (show ¬ (1 ≤ n ∧ n ≤ 7) by omega), if_neg (show ¬ (1 ≤ n ∧ n ≤ 7) by omega)]; exact ⟨rfl, hS.nil⟩)
set_option maxRecDepth 100000 in
theorem add_calls {n r v : Int} {s : Nat → Int} (hn : n ≤ 7) (hs : Sb s) : Calls Try.prog 114 #[.agg (tcs n s).toArray, .int .i64 r, .int .i64 v] W fun e w' => e = .returned (.tuple #[.agg (tcs n (if (0 ≤ r ∧ r < n) ∧ (1 ≤ v ∧ v ≤ 32) then addT s r v else s)).toArray, .int .i64 (if (0 ≤ r ∧ r < n) ∧ (1 ≤ v ∧ v ≤ 32) then 0 else 2)]) ∧ St W w' [] := by
  have hS := St.init W
  have hv := bitN_lt v
  have hb := hs r.toNat
  refine calls_of_wpE (args := [_, _, _]) Try.func114 rfl rfl rfl ?_
  refine c_seq ?_
  refine c_region ?_
  refine t_box (v := (.agg _)) rfl rfl hS (fun g3 w hS => ?_)
  refine t_alloc Try.zeroValue32 rfl hS (fun g6 w hS => ?_)
  refine t_q (q_assign) ?_
  refine t_nil ?_
  refine c_seq ?_
  refine c_seq ?_
  refine c_region ?_
  refine t_q (q_load_blk Try.isAgg32 Try.sizeOf32 rfl (hS.blk (by repeat first | exact .here _ _ | assumption | apply Pick.there)) rfl) ?_
  refine t_q (q_mv (.int _ _) rfl) ?_
  refine t_call Try.call139 (is_calls) rfl ?_
  rintro e w ⟨rfl, hT⟩
  refine ⟨_, rfl, ?_⟩
  replace hS := hS.after hT
  refine t_q (q_not rfl) ?_
  refine t_q (q_mv (.bool _) rfl) ?_
  refine t_case 12 rfl ?_ ?_
  · intro hg2
    refine t_no rfl rfl (by rw [(congrArg not (not_back hg2))]; decide) ?_
    refine t_no rfl rfl (by rw [(congrArg not (not_back hg2))]; decide) ?_
    refine t_no rfl rfl (by rw [(congrArg not (not_back hg2))]; decide) ?_
    refine t_q (q_pick_t rfl (congrArg not (not_back hg2))) ?_
    refine t_nil ?_
    refine c_cond_t rfl rfl ?_
    have hc : ¬ ((0 ≤ r ∧ r < n) ∧ (1 ≤ v ∧ v ≤ 32)) := by
      intro hh
      have := @bitN_zero v
      first | exact absurd hh.1 (not_dec_t ‹(!decide (0 ≤ r ∧ r < n)) = true›) | omega
    refine c_seq ?_
    refine c_region ?_
    refine t_q (q_load_blk Try.isAgg32 Try.sizeOf32 rfl (hS.blk (by repeat first | exact .here _ _ | assumption | apply Pick.there)) rfl) ?_
    refine t_store (v := (.agg _)) Try.sizeOf32 hS (by repeat first | exact .here _ _ | assumption | apply Pick.there) rfl rfl rfl rfl rfl rfl (fun w hS => ?_)
    refine t_q (q_assign) ?_
    refine t_nil ?_
    refine c_ret ?_
    refine r_two rfl (res1_cellN Try.isAgg32 Try.sizeOf32 rfl (hS.blk (by repeat first | exact .here _ _ | assumption | apply Pick.there)) rfl) rfl ?_
    first | (rw [if_pos hc, if_pos hc]; exact ⟨rfl, hS.nil⟩) | (rw [if_neg hc, if_neg hc]; exact ⟨rfl, hS.nil⟩)
  · intro hg2
    refine t_yes rfl rfl (congrArg not (not_back hg2)) ?_
    refine t_q (q_mv (.int _ _) rfl) ?_
    refine t_yes rfl rfl (congrArg not (not_back hg2)) ?_
    refine t_call Try.call71 (bit_calls) rfl ?_
    rintro e w ⟨rfl, hT⟩
    refine ⟨_, rfl, ?_⟩
    replace hS := hS.after hT
    refine t_yes rfl rfl (congrArg not (not_back hg2)) ?_
    refine t_q (q_eql rfl rfl) ?_
    refine t_q (q_pick_f rfl (congrArg not (not_back hg2))) ?_
    refine t_nil ?_
    refine c_cond rfl ?_ ?_
    · intro hc5
      have hc5d := of_decide_eq_true hc5
      have hc : ¬ ((0 ≤ r ∧ r < n) ∧ (1 ≤ v ∧ v ≤ 32)) := by
        intro hh
        have := @bitN_zero v
        first | exact absurd hh.1 (not_dec_t ‹(!decide (0 ≤ r ∧ r < n)) = true›) | omega
      refine c_seq ?_
      refine c_region ?_
      refine t_q (q_load_blk Try.isAgg32 Try.sizeOf32 rfl (hS.blk (by repeat first | exact .here _ _ | assumption | apply Pick.there)) rfl) ?_
      refine t_store (v := (.agg _)) Try.sizeOf32 hS (by repeat first | exact .here _ _ | assumption | apply Pick.there) rfl rfl rfl rfl rfl rfl (fun w hS => ?_)
      refine t_q (q_assign) ?_
      refine t_nil ?_
      refine c_ret ?_
      refine r_two rfl (res1_cellN Try.isAgg32 Try.sizeOf32 rfl (hS.blk (by repeat first | exact .here _ _ | assumption | apply Pick.there)) rfl) rfl ?_
      first | (rw [if_pos hc, if_pos hc]; exact ⟨rfl, hS.nil⟩) | (rw [if_neg hc, if_neg hc]; exact ⟨rfl, hS.nil⟩)
    · intro hc5
      have hc5d := of_decide_eq_false hc5
      have hc : (0 ≤ r ∧ r < n) ∧ (1 ≤ v ∧ v ≤ 32) := by
        refine ⟨not_dec_f ‹(!decide (0 ≤ r ∧ r < n)) = false›, ?_⟩
        have := @bitN_zero v
        omega
      refine c_skip ?_
      refine c_seq ?_
      refine c_draw ?_
      refine d_keep (blkA g3 32 (tcs n s)) 10 [0, 1, 2, 3, 4, 5, 6, 7, 8, 9] [0, 1, 2, 3, 4, 5, 6, 7, 8, 9] hS rfl (by kernel_rfl) (by kernel_rfl) (by kernel_rfl) (by kernel_rfl) (fun hap hsel w hS => ?_)
      refine p_q hap hsel 0 rfl rfl ⟨_, hS.pick (by repeat first | exact .here _ _ | assumption | apply Pick.there)⟩ (fun w hI => q_mv (.int _ _) rfl) ?_
      refine p_q hap hsel 1 rfl rfl ⟨_, hS.pick (by repeat first | exact .here _ _ | assumption | apply Pick.there)⟩ (fun w hI => q_fieldAddr 1 Try.runUnderlying32 rfl Try.sizeOf30 (by decide) rfl rfl) ?_
      first | refine p_q hap hsel 2 rfl rfl ⟨_, hS.pick (by repeat first | exact .here _ _ | assumption | apply Pick.there)⟩ (fun w hI => q_arr_nat Try.runUnderlying30 Try.sizeOf26 rfl rfl (by omega)) ?_ | refine p_q hap hsel 2 rfl rfl ⟨_, hS.pick (by repeat first | exact .here _ _ | assumption | apply Pick.there)⟩ (fun w hI => q_arr Try.runUnderlying30 Try.sizeOf26 rfl rfl (by omega)) ?_
      refine p_q hap hsel 3 rfl rfl ⟨_, hS.pick (by repeat first | exact .here _ _ | assumption | apply Pick.there)⟩ (fun w hI => q_load1 Try.isAgg26 rfl (hI.choose_spec.cell (by repeat first | exact .here _ _ | assumption | apply Pick.there) (tcell (by omega)))) ?_
      refine p_q hap hsel 4 rfl rfl ⟨_, hS.pick (by repeat first | exact .here _ _ | assumption | apply Pick.there)⟩ (fun w hI => q_mv (.int _ _) rfl) ?_
      refine p_q hap hsel 7 rfl rfl ⟨_, hS.pick (by repeat first | exact .here _ _ | assumption | apply Pick.there)⟩ (fun w hI => q_fieldAddr 1 Try.runUnderlying32 rfl Try.sizeOf30 (by decide) rfl rfl) ?_
      refine p_one 5 rfl (by kernel_rfl) ?_
      refine t_call Try.call71 (bit_calls) rfl ?_
      rintro e w ⟨rfl, hT⟩
      refine ⟨_, rfl, ?_⟩
      replace hS := hS.after hT
      refine t_nil ?_
      refine ⟨.inr ⟨_, hS.pick (by repeat first | exact .here _ _ | assumption | apply Pick.there)⟩, ?_⟩
      refine p_q hap hsel 6 rfl rfl ⟨_, hS.pick (by repeat first | exact .here _ _ | assumption | apply Pick.there)⟩ (fun w hI => (q_cast (v' := .int .u64 (orT s v r.toNat)) (q_or_u64 rfl rfl (by omega) (by omega)) (rfl))) ?_
      first | refine p_q hap hsel 8 rfl rfl ⟨_, hS.pick (by repeat first | exact .here _ _ | assumption | apply Pick.there)⟩ (fun w hI => q_arr_nat Try.runUnderlying30 Try.sizeOf26 rfl rfl (by omega)) ?_ | refine p_q hap hsel 8 rfl rfl ⟨_, hS.pick (by repeat first | exact .here _ _ | assumption | apply Pick.there)⟩ (fun w hI => q_arr Try.runUnderlying30 Try.sizeOf26 rfl rfl (by omega)) ?_
      refine p_one 9 rfl (by kernel_rfl) ?_
      refine t_store (v := (.int _ _)) Try.sizeOf26 hS (by repeat first | exact .here _ _ | assumption | apply Pick.there) rfl rfl rfl rfl rfl (Nat.ble_eq_true_of_le (by show 0 + 1 + r.toNat * 1 + 1 ≤ 8; omega)) (fun w hS => ?_)
      replace hS := hS.recast (congrArg (blkA g3 32 ·) (tset (n := n) (s := s) (i := r.toNat) (x := orT s v r.toNat) (by omega)))
      refine t_nil ?_
      refine ⟨.inl (by kernel_rfl), ?_⟩
      refine p_end (by kernel_rfl) ?_
      refine c_seq ?_
      refine c_region ?_
      refine t_q (q_load_blk Try.isAgg32 Try.sizeOf32 rfl (hS.blk (by repeat first | exact .here _ _ | assumption | apply Pick.there)) rfl) ?_
      refine t_store (v := (.agg _)) Try.sizeOf32 hS (by repeat first | exact .here _ _ | assumption | apply Pick.there) rfl rfl rfl rfl rfl rfl (fun w hS => ?_)
      refine t_q (q_assign) ?_
      refine t_nil ?_
      refine c_ret ?_
      refine r_two rfl (res1_cellN Try.isAgg32 Try.sizeOf32 rfl (hS.blk (by repeat first | exact .here _ _ | assumption | apply Pick.there)) rfl) rfl ?_
      first | (rw [if_pos hc, if_pos hc]; exact ⟨rfl, hS.nil⟩) | (rw [if_neg hc, if_neg hc]; exact ⟨rfl, hS.nil⟩)
-- drop_calls: no such function here
end Go.Proofs.Ytmgobaojioaioaa
