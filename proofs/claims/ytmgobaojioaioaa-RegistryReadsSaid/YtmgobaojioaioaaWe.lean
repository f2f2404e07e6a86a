/- Registries as bytes: plain. -/
import Derived.Test.YtmgobaojioaioaaWa
import Derived.Test.YtmgobaojioaioaaUe
namespace Go.Proofs.Ytmgobaojioaioaa
open Go Go.RowKit Go.Lib
variable {W : World}
attribute [local irreducible] Rs.nat Rs.int q0 q1 q2 q3 q4 q5 q6 q7 q8 q9 q10 goodR ruB
/-- a registry's bytes -/
def rgB (M : List RuV) : List UInt8 := enc M.length ++ M.flatMap ruB
theorem rgB_take {M : List RuV} {j : Nat} (hj : j < M.length) : (M.take (j + 1)).flatMap ruB = (M.take j).flatMap ruB ++ ruB (M.getD j default) := by
  rw [rtake_getD hj, List.flatMap_append, List.flatMap_cons, List.flatMap_nil, List.append_nil]
theorem rgB_len {M : List RuV} (h : ∀ r ∈ M, (ruB r).length ≤ 50000090) : (M.flatMap ruB).length ≤ 50000090 * M.length := by
  induction M with
  | nil => simp
  | cons a M ih =>
    have h1 := h a List.mem_cons_self
    have h2 := ih fun r hr => h r (List.mem_cons_of_mem _ hr)
    rw [List.flatMap_cons, List.length_append, List.length_cons]
    omega
def ruN (s : Rs) : RuV := nf (ruT s none 0 none 0)
theorem ruN_of {s : Rs} {y : RuV} (h : ∃ A c B d, y = ruT s A c B d) : nf y = ruN s := by
  obtain ⟨A, c, B, d, rfl⟩ := h
  unfold ruN ruT
  split <;> rfl
def gN (s : Rs) : Nat := (s.nat 16).1
theorem gN_le (s : Rs) : gN s ≤ 16 := s.nat_le 16
structure Gk where
  s : Rs
  last : Int
  M : List RuV
def Gk.good (q : Gk) : Bool := ruOk q.s && decide (q.last < (ruN q.s).version)
def Gk.next (q : Gk) : Gk := ⟨ruS q.s, (ruN q.s).version, q.M ++ [ruN q.s]⟩
def gk (s : Rs) : Nat → Gk
  | 0 => ⟨(s.nat 16).2, 0, []⟩
  | k + 1 => (gk s k).next
def gAll (s : Rs) : Nat → Bool
  | 0 => true
  | k + 1 => gAll s k && (gk s k).good
theorem gk_step (s : Rs) (k : Nat) : gk s (k + 1) = (gk s k).next := by rw [gk]
theorem gk_last (s : Rs) (k : Nat) : (gk s (k + 1)).last = (ruN (gk s k).s).version := by rw [gk_step]; unfold Gk.next; rfl
theorem gk_s (s : Rs) (k : Nat) : (gk s (k + 1)).s = ruS (gk s k).s := by rw [gk_step]; unfold Gk.next; rfl
theorem gk_M (s : Rs) (k : Nat) : (gk s (k + 1)).M = (gk s k).M ++ [ruN (gk s k).s] := by rw [gk_step]; unfold Gk.next; rfl
theorem Gk.good_iff {q : Gk} : q.good = true ↔ ruOk q.s = true ∧ q.last < (ruN q.s).version := by
  unfold Gk.good
  rw [Bool.and_eq_true, decide_eq_true_eq]
theorem ruN_good {s : Rs} (h : ruOk s = true) : goodR (ruN s) = true := by
  unfold ruN
  rw [(ruT_yes h).1]
  unfold ruOk at h
  rw [Bool.and_eq_true] at h
  exact (nf_good _).trans h.2
structure GkOk (s : Rs) (k : Nat) (q : Gk) : Prop where
  reg : ∀ r ∈ q.M, goodR r = true ∧ nf r = r ∧ r.version ≤ q.last
  srt : Srt q.M
  cnt : q.M.length = k
  low : 0 ≤ q.last
  zero : k = 0 → q.last = 0
  top : 0 < k → (q.M.getD (k - 1) default).version = q.last
  bytes : q.s.bad = false → s.left = enc (gN s) ++ (q.M.flatMap ruB ++ q.s.left) ∧ s.bad = false
theorem gk_ok (s : Rs) : ∀ k, gAll s k = true → GkOk s k (gk s k)
  | 0, _ => ⟨(fun _ h => by cases h), List.Pairwise.nil, rfl, Int.le_refl 0, fun _ => rfl, fun h => absurd h (Nat.lt_irrefl 0), fun h => by
    obtain ⟨h1, h2⟩ := Rs.nat_only (s := s) (most := 16) h
    exact ⟨h1, h2⟩⟩
  | k + 1, h => by
    unfold gAll at h
    rw [Bool.and_eq_true] at h
    have ih := gk_ok s k h.1
    obtain ⟨hok, hlt⟩ := Gk.good_iff.1 h.2
    have hS := (ruT_yes (A := none) (c := 0) (B := none) (d := 0) hok)
    refine ⟨fun r hr => ?_, ?_, ?_, ?_, fun h => by omega, fun _ => ?_, fun _ => ?_⟩
    · rcases List.mem_append.1 hr with hr | hr
      · obtain ⟨h1, h2, h3⟩ := ih.reg r hr
        exact ⟨h1, h2, by show r.version ≤ (ruN (gk s k).s).version; omega⟩
      · rw [List.mem_singleton.1 hr]
        exact ⟨ruN_good hok, rfl, Int.le_refl _⟩
    · show Srt ((gk s k).M ++ [ruN (gk s k).s])
      refine List.pairwise_append.2 ⟨ih.srt, List.pairwise_singleton _ _, fun a ha b hb => ?_⟩
      rw [List.mem_singleton.1 hb]
      have := (ih.reg a ha).2.2
      omega
    · show ((gk s k).M ++ [ruN (gk s k).s]).length = k + 1
      rw [List.length_append, ih.cnt]
      rfl
    · show 0 ≤ (ruN (gk s k).s).version
      have := ih.low
      omega
    · show (((gk s k).M ++ [ruN (gk s k).s]).getD (k + 1 - 1) default).version = (ruN (gk s k).s).version
      rw [Nat.add_sub_cancel, List.getD_eq_getElem?_getD, List.getElem?_append_right (by rw [ih.cnt]; exact Nat.le_refl _), ih.cnt, Nat.sub_self]
      rfl
    · have hb : (q10 (gk s k).s).2.bad = false := by
        unfold ruOk at hok
        rw [Bool.and_eq_true] at hok
        exact bnt hok.1
      obtain ⟨e1, e2⟩ := ruV_only none 0 none 0 hb
      obtain ⟨e3, e4⟩ := ih.bytes e2
      refine ⟨?_, e4⟩
      show s.left = enc (gN s) ++ (((gk s k).M ++ [ruN (gk s k).s]).flatMap ruB ++ (ruS (gk s k).s).left)
      rw [hS.2, e3, List.flatMap_append, List.flatMap_cons, List.flatMap_nil, List.append_nil, List.append_assoc, e1]
      rw [show ruB (ruN (gk s k).s) = ruB (ruV (gk s k).s none 0 none 0) from by unfold ruN; rw [hS.1]; exact nf_ruB _]
theorem GkOk.good {s : Rs} {k : Nat} {q : Gk} (h : GkOk s k q) (hk : k ≤ 16) : GReg q.M := ⟨h.srt, fun r hr => (h.reg r hr).1, by rw [h.cnt]; exact hk, fun r hr => (h.reg r hr).2.1⟩
def rgOk (s : Rs) : Bool := gAll s (gN s) && decide (gN s ≠ 0)
def rgM (s : Rs) : List RuV := (gk s (gN s)).M
def rgS (s : Rs) : Rs := if rgOk s then (gk s (gN s)).s else s.fail
theorem gAll_no {s : Rs} {i : Nat} : ∀ {k : Nat}, i < k → (gk s i).good = false → gAll s k = false
  | k + 1, hi, h => by
    unfold gAll
    rcases Nat.lt_or_ge i k with h1 | h1
    · rw [gAll_no h1 h]; rfl
    · have : i = k := by omega
      subst this
      rw [h, Bool.and_false]
theorem rgOk_no {s : Rs} {i : Nat} (hi : i < gN s) (h : (gk s i).good = false) : rgOk s = false ∧ rgS s = s.fail := by
  have e : rgOk s = false := by unfold rgOk; rw [gAll_no hi h]; rfl
  exact ⟨e, by unfold rgS; rw [e]; rfl⟩
theorem rgOk_z {s : Rs} (h : gN s = 0) : rgOk s = false ∧ rgS s = s.fail := by
  have e : rgOk s = false := by unfold rgOk; rw [decide_eq_false (not_not_intro h), Bool.and_false]
  exact ⟨e, by unfold rgS; rw [e]; rfl⟩
theorem rgOk_yes {s : Rs} (h0 : gAll s (gN s) = true) (h : gN s ≠ 0) : rgOk s = true ∧ rgS s = (gk s (gN s)).s := by
  have e : rgOk s = true := by unfold rgOk; rw [h0, decide_eq_true h]; rfl
  exact ⟨e, by unfold rgS; rw [e]; rfl⟩
theorem gk_bad {s : Rs} {k : Nat} (h : (gk s k).good = true) : (gk s (k + 1)).s.bad = false := by
  obtain ⟨hok, _⟩ := Gk.good_iff.1 h
  show (ruS (gk s k).s).bad = false
  rw [(ruT_yes (A := none) (c := 0) (B := none) (d := 0) hok).2]
  unfold ruOk at hok
  rw [Bool.and_eq_true] at hok
  exact bnt hok.1
theorem rg_only {s : Rs} (h : rgOk s = true) : s.left = rgB (rgM s) ++ (rgS s).left ∧ s.bad = false ∧ (rgS s).bad = false ∧ GReg (rgM s) ∧ rgM s ≠ [] := by
  have h' := h
  unfold rgOk at h'
  rw [Bool.and_eq_true, decide_eq_true_eq] at h'
  have hk := gk_ok s _ h'.1
  have e := (rgOk_yes h'.1 h'.2).2
  have hb : (gk s (gN s)).s.bad = false := by
    obtain ⟨k, hkk⟩ : ∃ k, gN s = k + 1 := ⟨gN s - 1, by have := h'.2; omega⟩
    rw [hkk]
    have h1 := h'.1
    rw [hkk] at h1
    unfold gAll at h1
    rw [Bool.and_eq_true] at h1
    exact gk_bad h1.2
  obtain ⟨e1, e2⟩ := hk.bytes hb
  refine ⟨?_, e2, by rw [e]; exact hb, hk.good (gN_le s), fun hn => ?_⟩
  · rw [e]
    unfold rgB rgM
    rw [hk.cnt, List.append_assoc]
    exact e1
  · have := hk.cnt
    unfold rgM at hn
    rw [hn] at this
    exact h'.2 this.symm
end Go.Proofs.Ytmgobaojioaioaa
