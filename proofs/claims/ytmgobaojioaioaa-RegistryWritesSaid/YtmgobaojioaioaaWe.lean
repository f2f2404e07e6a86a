/- Registries as bytes: plain. -/
import Derived.Test.YtmgobaojioaioaaWa
import Derived.Test.YtmgobaojioaioaaUe
namespace Go.Proofs.Ytmgobaojioaioaa
open Go Go.RowKit Go.Lib
variable {W : World}
attribute [local irreducible] Rs.nat Rs.int q0 q1 q2 q3 q4 q5 q6 q7 q8 q9 q10 goodR ruB
/-- a registry's bytes -/
def rgB (M : List RuV) : List UInt8 := enc M.length ++ M.flatMap ruB
theorem rgB_take {M : List RuV} {j : Nat} (hj : j < M.length) : (M.take (j + 1)).flatMap ruB = (M.take j).flatMap ruB ++ ruB (M.getD j default) := by
  rw [rtake_getD hj, List.flatMap_append, List.flatMap_cons, List.flatMap_nil, List.append_nil]
theorem rgB_len {M : List RuV} (h : ∀ r ∈ M, (ruB r).length ≤ 50000090) : (M.flatMap ruB).length ≤ 50000090 * M.length := by
  induction M with
  | nil => simp
  | cons a M ih =>
    have h1 := h a List.mem_cons_self
    have h2 := ih fun r hr => h r (List.mem_cons_of_mem _ hr)
    rw [List.flatMap_cons, List.length_append, List.length_cons]
    omega
def ruN (s : Rs) : RuV := nf (ruT s none 0 none 0)
theorem ruN_of {s : Rs} {y : RuV} (h : ∃ A c B d, y = ruT s A c B d) : nf y = ruN s := by
  obtain ⟨A, c, B, d, rfl⟩ := h
  unfold ruN ruT
  split <;> rfl
def gN (s : Rs) : Nat := (s.nat 16).1
theorem gN_le (s : Rs) : gN s ≤ 16 := s.nat_le 16
structure Gk where
  s : Rs
  last : Int
  M : List RuV
def Gk.good (q : Gk) : Bool := ruOk q.s && decide (q.last < (ruN q.s).version)
def Gk.next (q : Gk) : Gk := ⟨ruS q.s, (ruN q.s).version, q.M ++ [ruN q.s]⟩
def gk (s : Rs) : Nat → Gk
  | 0 => ⟨(s.nat 16).2, 0, []⟩
  | k + 1 => (gk s k).next
def gAll (s : Rs) : Nat → Bool
  | 0 => true
  | k + 1 => gAll s k && (gk s k).good
theorem gk_step (s : Rs) (k : Nat) : gk s (k + 1) = (gk s k).next := by rw [gk]
theorem gk_last (s : Rs) (k : Nat) : (gk s (k + 1)).last = (ruN (gk s k).s).version := by rw [gk_step]; unfold Gk.next; rfl
theorem gk_s (s : Rs) (k : Nat) : (gk s (k + 1)).s = ruS (gk s k).s := by rw [gk_step]; unfold Gk.next; rfl
theorem Gk.good_iff {q : Gk} : q.good = true ↔ ruOk q.s = true ∧ q.last < (ruN q.s).version := by
  unfold Gk.good
  rw [Bool.and_eq_true, decide_eq_true_eq]
theorem ruN_good {s : Rs} (h : ruOk s = true) : goodR (ruN s) = true := by
  unfold ruN
  rw [(ruT_yes h).1]
  unfold ruOk at h
  rw [Bool.and_eq_true] at h
  exact (nf_good _).trans h.2
structure GkOk (s : Rs) (k : Nat) (q : Gk) : Prop where
  reg : ∀ r ∈ q.M, goodR r = true ∧ nf r = r ∧ r.version ≤ q.last
  srt : Srt q.M
  cnt : q.M.length = k
  low : 0 ≤ q.last
  zero : k = 0 → q.last = 0
  top : 0 < k → (q.M.getD (k - 1) default).version = q.last
  bytes : q.s.bad = false → s.left = enc (gN s) ++ (q.M.flatMap ruB ++ q.s.left) ∧ s.bad = false
theorem gk_ok (s : Rs) : ∀ k, gAll s k = true → GkOk s k (gk s k)
  | 0, _ => ⟨(fun _ h => by cases h), List.Pairwise.nil, rfl, Int.le_refl 0, fun _ => rfl, fun h => absurd h (Nat.lt_irrefl 0), fun h => by
    obtain ⟨h1, h2⟩ := Rs.nat_only (s := s) (most := 16) h
    exact ⟨h1, h2⟩⟩
  | k + 1, h => by
    unfold gAll at h
    rw [Bool.and_eq_true] at h
    have ih := gk_ok s k h.1
    obtain ⟨hok, hlt⟩ := Gk.good_iff.1 h.2
    have hS := (ruT_yes (A := none) (c := 0) (B := none) (d := 0) hok)
    refine ⟨fun r hr => ?_, ?_, ?_, ?_, fun h => by omega, fun _ => ?_, fun _ => ?_⟩
    · rcases List.mem_append.1 hr with hr | hr
      · obtain ⟨h1, h2, h3⟩ := ih.reg r hr
        exact ⟨h1, h2, by show r.version ≤ (ruN (gk s k).s).version; omega⟩
      · rw [List.mem_singleton.1 hr]
        exact ⟨ruN_good hok, rfl, Int.le_refl _⟩
    · show Srt ((gk s k).M ++ [ruN (gk s k).s])
      refine List.pairwise_append.2 ⟨ih.srt, List.pairwise_singleton _ _, fun a ha b hb => ?_⟩
      rw [List.mem_singleton.1 hb]
      have := (ih.reg a ha).2.2
      omega
    · show ((gk s k).M ++ [ruN (gk s k).s]).length = k + 1
      rw [List.length_append, ih.cnt]
      rfl
    · show 0 ≤ (ruN (gk s k).s).version
      have := ih.low
      omega
    · show (((gk s k).M ++ [ruN (gk s k).s]).getD (k + 1 - 1) default).version = (ruN (gk s k).s).version
      rw [Nat.add_sub_cancel, List.getD_eq_getElem?_getD, List.getElem?_append_right (by rw [ih.cnt]; exact Nat.le_refl _), ih.cnt, Nat.sub_self]
      rfl
    · have hb : (q10 (gk s k).s).2.bad = false := by
        unfold ruOk at hok
        rw [Bool.and_eq_true] at hok
        exact bnt hok.1
      obtain ⟨e1, e2⟩ := ruV_only none 0 none 0 hb
      obtain ⟨e3, e4⟩ := ih.bytes e2
      refine ⟨?_, e4⟩
      show s.left = enc (gN s) ++ (((gk s k).M ++ [ruN (gk s k).s]).flatMap ruB ++ (ruS (gk s k).s).left)
      rw [hS.2, e3, List.flatMap_append, List.flatMap_cons, List.flatMap_nil, List.append_nil, List.append_assoc, e1]
      rw [show ruB (ruN (gk s k).s) = ruB (ruV (gk s k).s none 0 none 0) from by unfold ruN; rw [hS.1]; exact nf_ruB _]
theorem GkOk.good {s : Rs} {k : Nat} {q : Gk} (h : GkOk s k q) (hk : k ≤ 16) : GReg q.M := ⟨h.srt, fun r hr => (h.reg r hr).1, by rw [h.cnt]; exact hk, fun r hr => (h.reg r hr).2.1⟩
def rgOk (s : Rs) : Bool := gAll s (gN s) && decide (gN s ≠ 0)
def rgM (s : Rs) : List RuV := (gk s (gN s)).M
def rgS (s : Rs) : Rs := if rgOk s then (gk s (gN s)).s else s.fail
theorem gAll_no {s : Rs} {i : Nat} : ∀ {k : Nat}, i < k → (gk s i).good = false → gAll s k = false
  | k + 1, hi, h => by
    unfold gAll
    rcases Nat.lt_or_ge i k with h1 | h1
    · rw [gAll_no h1 h]; rfl
    · have : i = k := by omega
      subst this
      rw [h, Bool.and_false]
theorem rgOk_no {s : Rs} {i : Nat} (hi : i < gN s) (h : (gk s i).good = false) : rgOk s = false ∧ rgS s = s.fail := by
  have e : rgOk s = false := by unfold rgOk; rw [gAll_no hi h]; rfl
  exact ⟨e, by unfold rgS; rw [e]; rfl⟩
theorem rgOk_z {s : Rs} (h : gN s = 0) : rgOk s = false ∧ rgS s = s.fail := by
  have e : rgOk s = false := by unfold rgOk; rw [decide_eq_false (not_not_intro h), Bool.and_false]
  exact ⟨e, by unfold rgS; rw [e]; rfl⟩
theorem rgOk_yes {s : Rs} (h0 : gAll s (gN s) = true) (h : gN s ≠ 0) : rgOk s = true ∧ rgS s = (gk s (gN s)).s := by
  have e : rgOk s = true := by unfold rgOk; rw [h0, decide_eq_true h]; rfl
  exact ⟨e, by unfold rgS; rw [e]; rfl⟩
/-- what was written is read -/
theorem rg_back {M : List RuV} (hM : GReg M) (hn : M ≠ []) (hx : ∀ r ∈ M, ∃ (w : World) (x : RuV), x.Gd w ∧ nf x = r) (rest : List UInt8) : rgOk ⟨rgB M ++ rest, false⟩ = true ∧ rgM ⟨rgB M ++ rest, false⟩ = M ∧ rgS ⟨rgB M ++ rest, false⟩ = ⟨rest, false⟩ := by
  have h0 : (⟨rgB M ++ rest, false⟩ : Rs).nat 16 = (M.length, ⟨M.flatMap ruB ++ rest, false⟩) := nat_go (by unfold rgB; rw [List.append_assoc]) hM.len (by decide)
  have hN : gN ⟨rgB M ++ rest, false⟩ = M.length := by unfold gN; rw [h0]
  have step : ∀ k, k ≤ M.length → gAll ⟨rgB M ++ rest, false⟩ k = true ∧ (gk ⟨rgB M ++ rest, false⟩ k).s = ⟨(M.drop k).flatMap ruB ++ rest, false⟩ ∧ (gk ⟨rgB M ++ rest, false⟩ k).M = M.take k := by
    intro k
    induction k with
    | zero => exact fun _ => ⟨rfl, by show (Rs.nat _ 16).2 = _; rw [h0]; rfl, rfl⟩
    | succ k ih =>
      intro hk
      obtain ⟨i1, i2, i3⟩ := ih (by omega)
      have hko := gk_ok _ k i1
      obtain ⟨w, x, hgx, hnf⟩ := hx (M.getD k default) (getD_mem (by omega))
      have hgr := hM.good (M.getD k default) (getD_mem (by omega))
      have hs : (gk ⟨rgB M ++ rest, false⟩ k).s = ⟨ruB x ++ ((M.drop (k + 1)).flatMap ruB ++ rest), false⟩ := by
        rw [i2, rdrop_getD (by omega : k < M.length), List.flatMap_cons, List.append_assoc, ← hnf, nf_ruB]
      have hgx2 : goodR x = true := by rw [← nf_good, hnf]; exact hgr
      obtain ⟨y1, y2, y3⟩ := ru_yes hgx hgx2 ((M.drop (k + 1)).flatMap ruB ++ rest) none 0 none 0
      have hN2 : ruN (gk ⟨rgB M ++ rest, false⟩ k).s = M.getD k default := by
        unfold ruN
        rw [hs, nf_of y2, hnf]
      have hgood : (gk ⟨rgB M ++ rest, false⟩ k).good = true := by
        refine Gk.good_iff.2 ⟨by rw [hs]; exact y1, ?_⟩
        rw [hN2]
        rcases Nat.eq_zero_or_pos k with hz | hz
        · rw [hko.zero hz]
          have := good_ver hgr
          omega
        · rw [← hko.top hz, i3]
          have h1 := List.pairwise_iff_getElem.1 hM.srt (k - 1) k (by omega) (by omega) (by omega)
          rw [List.getD_eq_getElem?_getD, List.getElem?_take_of_lt (by omega), List.getElem?_eq_getElem (by omega), List.getD_eq_getElem?_getD, List.getElem?_eq_getElem (by omega)]
          exact h1
      refine ⟨by unfold gAll; rw [i1, hgood]; rfl, ?_, ?_⟩
      · show ruS _ = _
        rw [hs]; exact y3
      · show _ ++ [_] = _
        rw [hN2, i3, rtake_getD (by omega)]
  obtain ⟨s1, s2, s3⟩ := step M.length (Nat.le_refl _)
  have hl : M.length ≠ 0 := fun h => hn (List.eq_nil_of_length_eq_zero h)
  obtain ⟨r1, r2⟩ := rgOk_yes (s := ⟨rgB M ++ rest, false⟩) (by rw [hN]; exact s1) (by rw [hN]; exact hl)
  refine ⟨r1, ?_, ?_⟩
  · unfold rgM
    rw [hN, s3, List.take_length]
  · rw [r2, hN, s2, List.drop_length]
    rfl
end Go.Proofs.Ytmgobaojioaioaa
