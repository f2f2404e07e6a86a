/- Registries: plain. -/
import Derived.Test.YtmgobaojioaioaaUg
import Derived.Test.YtmgobaojioaioaaUd
namespace Go.Proofs.Ytmgobaojioaioaa
open Go Go.RowKit Go.Lib
variable {W : World}
/-- a rule set without its addresses -/
def nf (x : RuV) : RuV := x.own none 0 none 0
theorem nf_vw {x y : RuV} (h : nf x = nf y) : x.vw = y.vw := by
  have e : (nf x).vw = (nf y).vw := by rw [h]
  exact e
theorem nf_ver (x : RuV) : (nf x).version = x.version := rfl
theorem nf_good (x : RuV) : goodR (nf x) = goodR x := rfl
def Srt (M : List RuV) : Prop := M.Pairwise (fun a b => a.version < b.version)
/-- the rule set of a version -/
def rgF (M : List RuV) (v : Int) : Option RuV := M.find? (fun r => decide (r.version = v))
theorem rgF_none {M : List RuV} {v : Int} (h : ∀ r ∈ M, r.version ≠ v) : rgF M v = none := by
  unfold rgF
  rw [List.find?_eq_none]
  intro r hr
  simpa using h r hr
theorem rgF_mem {M : List RuV} {v : Int} {r : RuV} (h : rgF M v = some r) : r ∈ M ∧ r.version = v := by
  unfold rgF at h
  exact ⟨List.mem_of_find?_eq_some h, by simpa using List.find?_some h⟩
theorem srt_inj {M : List RuV} (hs : Srt M) : ∀ {a b : RuV}, a ∈ M → b ∈ M → a.version = b.version → a = b := by
  intro a b ha hb he
  obtain ⟨i, hi, rfl⟩ := List.mem_iff_getElem.1 ha
  obtain ⟨j, hj, rfl⟩ := List.mem_iff_getElem.1 hb
  have h := List.pairwise_iff_getElem.1 hs
  rcases Nat.lt_trichotomy i j with h1 | h1 | h1
  · have := h i j hi hj h1; omega
  · subst h1; rfl
  · have := h j i hj hi h1; omega
theorem rgF_some {M : List RuV} (hs : Srt M) {r : RuV} (hr : r ∈ M) : rgF M r.version = some r := by
  cases h : rgF M r.version with
  | none =>
    unfold rgF at h
    rw [List.find?_eq_none] at h
    exact absurd (decide_eq_true rfl) (h r hr)
  | some a =>
    obtain ⟨ha, hv⟩ := rgF_mem h
    rw [srt_inj hs ha hr hv]
theorem rgF_isSome {M : List RuV} {v : Int} : (rgF M v).isSome = true ↔ ∃ r ∈ M, r.version = v := by
  constructor
  · intro h
    obtain ⟨r, hr⟩ := Option.isSome_iff_exists.1 h
    exact ⟨r, rgF_mem hr⟩
  · rintro ⟨r, hr, hv⟩
    cases h : rgF M v with
    | none =>
      unfold rgF at h
      rw [List.find?_eq_none] at h
      exact absurd hv (by simpa using h r hr)
    | some a => rfl
/-- put where it stands by its version -/
def rgI (M : List RuV) (r : RuV) : List RuV := match M with
  | [] => [r]
  | a :: M => if r.version < a.version then r :: a :: M else a :: rgI M r
theorem rgI_perm (r : RuV) : ∀ M : List RuV, (rgI M r).Perm (r :: M)
  | [] => List.Perm.refl _
  | a :: M => by
    unfold rgI
    split
    · exact List.Perm.refl _
    · exact ((rgI_perm r M).cons a).trans (List.Perm.swap r a M)
theorem rgI_len (r : RuV) (M : List RuV) : (rgI M r).length = M.length + 1 := (rgI_perm r M).length_eq
theorem rgI_srt {r : RuV} : ∀ {M : List RuV}, Srt M → (∀ a ∈ M, a.version ≠ r.version) → Srt (rgI M r)
  | [], _, _ => List.pairwise_singleton _ _
  | a :: M, hs, hn => by
    unfold rgI
    have h1 := List.pairwise_cons.1 hs
    split
    · rename_i hlt
      refine List.pairwise_cons.2 ⟨fun b hb => ?_, hs⟩
      rcases List.mem_cons.1 hb with rfl | hb
      · exact hlt
      · have := h1.1 b hb; omega
    · rename_i hlt
      refine List.pairwise_cons.2 ⟨fun b hb => ?_, rgI_srt h1.2 fun b hb => hn b (List.mem_cons_of_mem _ hb)⟩
      rcases List.mem_cons.1 ((rgI_perm r M).subset hb) with rfl | hb
      · have := hn a List.mem_cons_self; omega
      · exact h1.1 b hb
theorem rgI_map (r : RuV) : ∀ M : List RuV, (rgI M r).map nf = rgI (M.map nf) (nf r)
  | [] => rfl
  | a :: M => by
    have h := rgI_map r M
    by_cases hc : r.version < a.version
    · rw [rgI, if_pos hc, List.map_cons, List.map_cons, rgI, if_pos (show (nf r).version < (nf a).version from hc)]
    · rw [rgI, if_neg hc, List.map_cons, List.map_cons, rgI, if_neg (show ¬ (nf r).version < (nf a).version from hc), h]
theorem rgI_go {Y : List RuV} {x : RuV} {i : Nat} (hi : i < Y.length) (h : ¬ x.version < (Y.getD i default).version) : rgI (Y.drop i) x = (Y.getD i default) :: rgI (Y.drop (i + 1)) x := by
  rw [List.drop_eq_getElem_cons hi, show Y.getD i default = Y[i] by rw [List.getD_eq_getElem?_getD, List.getElem?_eq_getElem hi]; rfl] at *
  rw [rgI, if_neg h]
theorem rgI_stop {Y : List RuV} {x : RuV} {i : Nat} (hi : i < Y.length) (h : x.version < (Y.getD i default).version) : rgI (Y.drop i) x = x :: Y.drop i := by
  rw [List.drop_eq_getElem_cons hi, show Y.getD i default = Y[i] by rw [List.getD_eq_getElem?_getD, List.getElem?_eq_getElem hi]; rfl] at *
  rw [rgI, if_pos h]
theorem rdrop_getD {Y : List RuV} {i : Nat} (hi : i < Y.length) : Y.drop i = Y.getD i default :: Y.drop (i + 1) := by
  rw [List.drop_eq_getElem_cons hi, show Y.getD i default = Y[i] by rw [List.getD_eq_getElem?_getD, List.getElem?_eq_getElem hi]; rfl]
theorem rtake_getD {Y : List RuV} {i : Nat} (hi : i < Y.length) : Y.take (i + 1) = Y.take i ++ [Y.getD i default] := by
  rw [List.take_add_one, List.getElem?_eq_getElem hi, show Y.getD i default = Y[i] by rw [List.getD_eq_getElem?_getD, List.getElem?_eq_getElem hi]; rfl]
  rfl
def gputE (M : List RuV) (r : RuV) : Int := if goodR r = false then 43 else if (rgF M r.version).isSome then 52 else if 16 ≤ M.length then 50 else 0
def gputM (M : List RuV) (r : RuV) : List RuV := if gputE M r = 0 then rgI M (nf r) else M
theorem gputE_1 {M : List RuV} {r : RuV} (h : goodR r = false) : gputE M r = 43 ∧ gputM M r = M := by
  have e : gputE M r = 43 := by unfold gputE; rw [if_pos h]
  exact ⟨e, by unfold gputM; rw [if_neg (by rw [e]; decide)]⟩
theorem gputE_2 {M : List RuV} {r : RuV} (h : goodR r = true) (h2 : (rgF M r.version).isSome = true) : gputE M r = 52 ∧ gputM M r = M := by
  have e : gputE M r = 52 := by unfold gputE; rw [if_neg (by rw [h]; decide), if_pos h2]
  exact ⟨e, by unfold gputM; rw [if_neg (by rw [e]; decide)]⟩
theorem gputE_3 {M : List RuV} {r : RuV} (h : goodR r = true) (h2 : (rgF M r.version).isSome = false) (h3 : 16 ≤ M.length) : gputE M r = 50 ∧ gputM M r = M := by
  have e : gputE M r = 50 := by unfold gputE; rw [if_neg (by rw [h]; decide), if_neg (by rw [h2]; decide), if_pos h3]
  exact ⟨e, by unfold gputM; rw [if_neg (by rw [e]; decide)]⟩
theorem gputE_4 {M : List RuV} {r : RuV} (h : goodR r = true) (h2 : (rgF M r.version).isSome = false) (h3 : ¬ 16 ≤ M.length) : gputE M r = 0 ∧ gputM M r = rgI M (nf r) := by
  have e : gputE M r = 0 := by unfold gputE; rw [if_neg (by rw [h]; decide), if_neg (by rw [h2]; decide), if_neg h3]
  exact ⟨e, by unfold gputM; rw [if_pos e]⟩
theorem gputE_zero {M : List RuV} {r : RuV} (h : gputE M r = 0) : goodR r = true ∧ (rgF M r.version).isSome = false ∧ ¬ 16 ≤ M.length := by
  cases h1 : goodR r with
  | false => rw [(gputE_1 h1).1] at h; cases h
  | true =>
    cases h2 : (rgF M r.version).isSome with
    | true => rw [(gputE_2 h1 h2).1] at h; cases h
    | false =>
      refine ⟨rfl, rfl, fun h3 => ?_⟩
      rw [(gputE_3 h1 h2 h3).1] at h
      cases h
def gdropE (M : List RuV) (v : Int) : Int := if (rgF M v).isSome then (if M.length = 1 then 54 else 0) else 51
def gdropM (M : List RuV) (v : Int) : List RuV := if gdropE M v = 0 then M.filter (fun r => decide (r.version ≠ v)) else M
/-- what a registry may have -/
structure GReg (M : List RuV) : Prop where
  srt : Srt M
  good : ∀ r ∈ M, goodR r = true
  len : M.length ≤ 16
  nrm : ∀ r ∈ M, nf r = r
theorem GReg.nil : GReg [] := ⟨List.Pairwise.nil, (fun _ h => by cases h), by decide, fun _ h => by cases h⟩
theorem GReg.put {M : List RuV} (h : GReg M) (r : RuV) : GReg (gputM M r) := by
  unfold gputM
  split
  · rename_i h0
    obtain ⟨h1, h2, h3⟩ := gputE_zero h0
    refine ⟨rgI_srt h.srt fun a ha he => ?_, fun a ha => ?_, by rw [rgI_len]; omega, fun a ha => ?_⟩
    · have : (rgF M r.version).isSome = true := rgF_isSome.2 ⟨a, ha, he⟩
      rw [h2] at this
      cases this
    · rcases List.mem_cons.1 ((rgI_perm _ _).subset ha) with rfl | ha
      · exact h1
      · exact h.good a ha
    · rcases List.mem_cons.1 ((rgI_perm _ _).subset ha) with rfl | ha
      · rfl
      · exact h.nrm a ha
  · exact h
theorem GReg.drop {M : List RuV} (h : GReg M) (v : Int) : GReg (gdropM M v) := by
  unfold gdropM
  split
  · exact ⟨List.Pairwise.filter _ h.srt, fun a ha => h.good a (List.mem_filter.1 ha).1, Nat.le_trans (List.length_filter_le _ _) h.len, fun a ha => h.nrm a (List.mem_filter.1 ha).1⟩
  · exact h
theorem good_ver {x : RuV} (h : goodR x = true) : 1 ≤ x.version ∧ x.version ≤ 32 := (goodR_iff.1 h).1
/-- the keys, sorted -/
theorem srt_keys {X M : List RuV} {ss : List Int} (hp : (X.map nf).Perm M) (hs : Srt M) (h : ss.Perm (X.map (·.version))) : ss.mergeSort (fun x y => decide (x ≤ y)) = M.map (·.version) := by
  refine List.Perm.eq_of_pairwise (le := fun x y => decide (x ≤ y) = true) (fun a b _ _ h1 h2 => ?_) ?_ ?_ ?_
  · have h1 := of_decide_eq_true h1
    have h2 := of_decide_eq_true h2
    omega
  · exact List.pairwise_mergeSort (le := fun x y : Int => decide (x ≤ y)) (fun a b c h1 h2 => decide_eq_true (Int.le_trans (of_decide_eq_true h1) (of_decide_eq_true h2))) (fun a b => by
      rcases Int.le_total a b with h | h
      · simp [h]
      · simp [h]) _
  · rw [List.pairwise_map]
    exact hs.imp fun h => decide_eq_true (by omega)
  · refine (List.mergeSort_perm _ _).trans (h.trans ?_)
    have := hp.map (·.version)
    rw [List.map_map] at this
    exact this
end Go.Proofs.Ytmgobaojioaioaa
