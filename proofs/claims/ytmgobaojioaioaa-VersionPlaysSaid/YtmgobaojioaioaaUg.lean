/- Rule sets read from bytes. -/
import Derived.Test.YtmgobaojioaioaaUe
import Derived.Test.YtmgobaojioaioaaCw
namespace Go.Proofs.Ytmgobaojioaioaa
open Go Go.RowKit Go.Lib
variable {W : World}
/-- what is read of a rule set, step by step -/
def tkR (s : Rs) : Tk × Rs := (⟨s.int.1, s.int.2.int.1⟩, s.int.2.int.2)
def trR (s : Rs) : Tr × Rs := (⟨s.int.1, s.int.2.int.1, s.int.2.int.2.int.1⟩, s.int.2.int.2.int.2)
def tkk (s : Rs) : Nat → List Tk × Rs
  | 0 => ([], s)
  | k + 1 => ((tkk s k).1 ++ [(tkR (tkk s k).2).1], (tkR (tkk s k).2).2)
def trk (s : Rs) : Nat → List Tr × Rs
  | 0 => ([], s)
  | k + 1 => ((trk s k).1 ++ [(trR (trk s k).2).1], (trR (trk s k).2).2)
theorem tkk_len (s : Rs) : ∀ k, (tkk s k).1.length = k
  | 0 => rfl
  | k + 1 => by rw [tkk, List.length_append, tkk_len s k]; rfl
theorem trk_len (s : Rs) : ∀ k, (trk s k).1.length = k
  | 0 => rfl
  | k + 1 => by rw [trk, List.length_append, trk_len s k]; rfl
theorem int_in (s : Rs) : -9223372036854775808 ≤ s.int.1 ∧ s.int.1 ≤ 9223372036854775807 := unzig_range (by have := s.nat_le allNat; unfold allNat at *; omega)
theorem tkR_in (s : Rs) : (tkR s).1.In := ⟨int_in _, int_in _⟩
theorem trR_in (s : Rs) : (trR s).1.In := ⟨int_in _, int_in _, int_in _⟩
theorem tkk_in (s : Rs) : ∀ k, ∀ e ∈ (tkk s k).1, e.In
  | 0, _, h => by cases h
  | k + 1, e, h => by
    rw [tkk] at h
    rcases List.mem_append.1 h with h | h
    · exact tkk_in s k e h
    · rw [List.mem_singleton.1 h]; exact tkR_in _
theorem trk_in (s : Rs) : ∀ k, ∀ e ∈ (trk s k).1, e.In
  | 0, _, h => by cases h
  | k + 1, e, h => by
    rw [trk] at h
    rcases List.mem_append.1 h with h | h
    · exact trk_in s k e h
    · rw [List.mem_singleton.1 h]; exact trR_in _
def q0 (s : Rs) : Int × Rs := s.int
def q1 (s : Rs) : Nat × Rs := (q0 s).2.nat 8
def q2 (s : Rs) : List Tk × Rs := tkk (q1 s).2 (q1 s).1
def q3 (s : Rs) : Int × Rs := (q2 s).2.int
def q4 (s : Rs) : Int × Rs := (q3 s).2.int
def q5 (s : Rs) : Nat × Rs := (q4 s).2.nat 8
def q6 (s : Rs) : List Tr × Rs := trk (q5 s).2 (q5 s).1
def q7 (s : Rs) : Int × Rs := (q6 s).2.int
def q8 (s : Rs) : Int × Rs := (q7 s).2.int
def q9 (s : Rs) : Int × Rs := (q8 s).2.int
def q10 (s : Rs) : Int × Rs := (q9 s).2.int
/-- what was read, whether it may be or not -/
def ruV (s : Rs) (A : Option Addr) (c : Nat) (B : Option Addr) (d : Nat) : RuV := ⟨(q0 s).1, ⟨A, c, (q2 s).1⟩, (q3 s).1, (q4 s).1, ⟨B, d, (q6 s).1⟩, (q7 s).1, (q8 s).1, (q9 s).1, (q10 s).1⟩
def ruZ : RuV := ⟨0, ⟨none, 0, []⟩, 0, 0, ⟨none, 0, []⟩, 0, 0, 0, 0⟩
def ruOk (s : Rs) : Bool := !(q10 s).2.bad && goodR (ruV s none 0 none 0)
/-- what is told: none, if it may not be; and the reader behind it -/
def ruT (s : Rs) (A : Option Addr) (c : Nat) (B : Option Addr) (d : Nat) : RuV := if ruOk s then ruV s A c B d else ruZ
def ruS (s : Rs) : Rs := if ruOk s then (q10 s).2 else s.fail
theorem ruT_no {s : Rs} {A B : Option Addr} {c d : Nat} (h : ruOk s = false) : ruT s A c B d = ruZ ∧ ruS s = s.fail := by unfold ruT ruS; rw [h]; exact ⟨rfl, rfl⟩
theorem ruT_yes {s : Rs} {A B : Option Addr} {c d : Nat} (h : ruOk s = true) : ruT s A c B d = ruV s A c B d ∧ ruS s = (q10 s).2 := by unfold ruT ruS; rw [h]; exact ⟨rfl, rfl⟩
theorem q0_in (s : Rs) : -9223372036854775808 ≤ (q0 s).1 ∧ (q0 s).1 ≤ 9223372036854775807 := by unfold q0; exact int_in _
theorem q3_in (s : Rs) : -9223372036854775808 ≤ (q3 s).1 ∧ (q3 s).1 ≤ 9223372036854775807 := by unfold q3; exact int_in _
theorem q4_in (s : Rs) : -9223372036854775808 ≤ (q4 s).1 ∧ (q4 s).1 ≤ 9223372036854775807 := by unfold q4; exact int_in _
theorem q7_in (s : Rs) : -9223372036854775808 ≤ (q7 s).1 ∧ (q7 s).1 ≤ 9223372036854775807 := by unfold q7; exact int_in _
theorem q8_in (s : Rs) : -9223372036854775808 ≤ (q8 s).1 ∧ (q8 s).1 ≤ 9223372036854775807 := by unfold q8; exact int_in _
theorem q9_in (s : Rs) : -9223372036854775808 ≤ (q9 s).1 ∧ (q9 s).1 ≤ 9223372036854775807 := by unfold q9; exact int_in _
theorem q10_in (s : Rs) : -9223372036854775808 ≤ (q10 s).1 ∧ (q10 s).1 ≤ 9223372036854775807 := by unfold q10; exact int_in _
theorem q1_le (s : Rs) : (q1 s).1 ≤ 8 := by unfold q1; exact Rs.nat_le _ _
theorem q5_le (s : Rs) : (q5 s).1 ≤ 8 := by unfold q5; exact Rs.nat_le _ _
theorem q2_len (s : Rs) : (q2 s).1.length = (q1 s).1 := by unfold q2; exact tkk_len _ _
theorem q6_len (s : Rs) : (q6 s).1.length = (q5 s).1 := by unfold q6; exact trk_len _ _
theorem q2_in (s : Rs) : ∀ e ∈ (q2 s).1, e.In := by unfold q2; exact tkk_in _ _
theorem q6_in (s : Rs) : ∀ e ∈ (q6 s).1, e.In := by unfold q6; exact trk_in _ _
theorem q2_le (s : Rs) : (q2 s).1.length ≤ 1000000 := by rw [q2_len]; exact Nat.le_trans (q1_le s) (by decide)
theorem q6_le (s : Rs) : (q6 s).1.length ≤ 1000000 := by rw [q6_len]; exact Nat.le_trans (q5_le s) (by decide)
section
attribute [local irreducible] q0 q1 q2 q3 q4 q5 q6 q7 q8 q9 q10
theorem ruV_gd {w : World} {s : Rs} {A B : Option Addr} {c d : Nat} (h1 : RdTk w A (q2 s).1) (h2 : RdTr w B (q6 s).1) : (ruV s A c B d).Gd w :=
  ⟨q0_in s, q3_in s, q4_in s, q7_in s, q8_in s, q9_in s, q10_in s, h1, q2_in s, q2_le s, h2, q6_in s, q6_le s⟩
end
theorem ruZ_gd {w : World} : ruZ.Gd w := ⟨by decide, by decide, by decide, by decide, by decide, by decide, by decide, Rd.none_ _ _ _ _, (fun e he => by cases he), Nat.zero_le _, Rd.none_ _ _ _ _, (fun e he => by cases he), Nat.zero_le _⟩
attribute [local irreducible] blkA rowA Rs.nat Rs.int
end Go.Proofs.Ytmgobaojioaioaa
