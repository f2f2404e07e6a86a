/- Tables of sessions: how they lie in memory. -/
import Derived.Test.YtcikoealneldkaaSa
import Derived.Test.YtcikoealneldkaaMp
namespace Go.Proofs.Ytcikoealneldkaa
open Go Go.RowKit Go.Lib
variable {W : World}
structure SE where
  k : Int
  r : Int
  A : Option Addr
  c : Nat
  l : List Ev
def SE.val (e : SE) : Value := .agg #[.int .u64 e.r, .slice e.A e.l.length e.c]
def SE.kv (e : SE) : Int × Value := (e.k, e.val)
def SE.rp (e : SE) : RdP := ⟨12, e.A, e.l.length, evf e.l⟩
structure SGood (E : List SE) (T : Tb) : Prop where
  nd : (E.map (·.k)).Nodup
  mem : ∀ e ∈ E, (1 ≤ e.k ∧ e.k ≤ 8) ∧ 0 < e.r ∧ T e.k = (e.r, e.l)
  all : ∀ c, 1 ≤ c → c ≤ 8 → 0 < (T c).1 → ∃ e ∈ E, e.k = c
theorem SGood.zero : SGood [] T0 := ⟨List.nodup_nil, (fun _ h => by cases h), (fun c _ _ h => by unfold T0 at h; simp at h)⟩
theorem mfind_kv (c : Int) : ∀ E : List SE, (mfind (E.map SE.kv) c = none ∧ ∀ e ∈ E, e.k ≠ c) ∨ ∃ e ∈ E, e.k = c ∧ mfind (E.map SE.kv) c = some e.val
  | [] => .inl ⟨rfl, fun _ h => by cases h⟩
  | e :: E => by
    by_cases h : e.k = c
    · exact .inr ⟨e, List.mem_cons_self, h, by simp only [List.map_cons, SE.kv, mfind, if_pos h]⟩
    · have e1 : mfind ((e :: E).map SE.kv) c = mfind (E.map SE.kv) c := by simp only [List.map_cons, SE.kv, mfind, if_neg h]
      rw [e1]
      rcases mfind_kv c E with ⟨h1, h2⟩ | ⟨x, hx, h1, h2⟩
      · refine .inl ⟨h1, fun x hx => ?_⟩
        rcases List.mem_cons.1 hx with rfl | hx
        · exact h
        · exact h2 x hx
      · exact .inr ⟨x, List.mem_cons_of_mem _ hx, h1, h2⟩
theorem sfind {E : List SE} {T : Tb} (h : SGood E T) (hT : TGood T) (c : Int) : (mfind (E.map SE.kv) c = none ∧ lastT T c = 0) ∨ ∃ e ∈ E, mfind (E.map SE.kv) c = some e.val ∧ lastT T c = e.r ∧ T c = (e.r, e.l) ∧ 0 < e.r ∧ (1 ≤ c ∧ c ≤ 8) := by
  rcases mfind_kv c E with ⟨h1, h2⟩ | ⟨e, he, h1, h2⟩
  · refine .inl ⟨h1, ?_⟩
    unfold lastT
    split
    · rename_i hc
      have := hT.rng c
      rcases Int.lt_or_le 0 (T c).1 with h3 | h3
      · obtain ⟨e, he, hk⟩ := h.all c hc.1 hc.2 h3
        exact absurd hk (h2 e he)
      · omega
    · rfl
  · obtain ⟨hk, hr, ht⟩ := h.mem e he
    rw [h1] at hk ht
    refine .inr ⟨e, he, h2, ?_, ht, hr, hk⟩
    unfold lastT
    rw [if_pos hk, ht]
theorem sget {E : List SE} {T : Tb} (h : SGood E T) (hT : TGood T) (c : Int) : ∃ a n cc, (mfind (E.map SE.kv) c).getD (.agg #[.int .u64 0, .slice none 0 0]) = .agg #[.int .u64 (lastT T c), .slice a n cc] := by
  rcases sfind h hT c with ⟨h1, h2⟩ | ⟨e, _, h1, h2, _⟩
  · exact ⟨none, 0, 0, by rw [h1, h2]; rfl⟩
  · exact ⟨e.A, e.l.length, e.c, by rw [h1, h2]; rfl⟩
def sset (E : List SE) (n : SE) : List SE := match E with
  | [] => [n]
  | e :: E => if e.k = n.k then n :: E else e :: sset E n
theorem sset_kv (n : SE) : ∀ E : List SE, mset (E.map SE.kv) n.k n.val = (sset E n).map SE.kv
  | [] => rfl
  | e :: E => by
    by_cases h : e.k = n.k
    · simp only [List.map_cons, SE.kv, mset, sset, if_pos h]
    · have := sset_kv n E
      simp only [List.map_cons, SE.kv, mset, sset, if_neg h] at this ⊢
      rw [← this]
theorem sset_mem {n e : SE} : ∀ {E : List SE}, e ∈ sset E n → e = n ∨ e ∈ E
  | [], h => .inl (List.mem_singleton.1 h)
  | x :: E, h => by
    unfold sset at h
    split at h
    · rcases List.mem_cons.1 h with h | h
      · exact .inl h
      · exact .inr (List.mem_cons_of_mem _ h)
    · rcases List.mem_cons.1 h with h | h
      · exact .inr (by rw [h]; exact List.mem_cons_self)
      · rcases sset_mem h with h | h
        · exact .inl h
        · exact .inr (List.mem_cons_of_mem _ h)
theorem sset_has (n : SE) : ∀ E : List SE, n ∈ sset E n
  | [] => List.mem_singleton.2 rfl
  | x :: E => by
    unfold sset
    split
    · exact List.mem_cons_self
    · exact List.mem_cons_of_mem _ (sset_has n E)
theorem sset_keep {n e : SE} (hk : e.k ≠ n.k) : ∀ {E : List SE}, e ∈ E → e ∈ sset E n
  | x :: E, h => by
    unfold sset
    rcases List.mem_cons.1 h with h | h
    · subst h
      rw [if_neg hk]
      exact List.mem_cons_self
    · split
      · exact List.mem_cons_of_mem _ h
      · exact List.mem_cons_of_mem _ (sset_keep hk h)
theorem sset_nodup {n : SE} : ∀ {E : List SE}, (E.map (·.k)).Nodup → ((sset E n).map (·.k)).Nodup ∧ ∀ e ∈ sset E n, e = n ∨ e.k ≠ n.k
  | [], _ => ⟨by simp [sset], fun e he => .inl (List.mem_singleton.1 he)⟩
  | x :: E, h => by
    rw [List.map_cons, List.nodup_cons] at h
    unfold sset
    split
    · rename_i hx
      rw [List.map_cons, List.nodup_cons, ← hx]
      refine ⟨h, fun e he => ?_⟩
      rcases List.mem_cons.1 he with he | he
      · exact .inl he
      · exact .inr fun hk => h.1 (List.mem_map.2 ⟨e, he, hk⟩)
    · rename_i hx
      obtain ⟨h1, h2⟩ := sset_nodup (n := n) h.2
      rw [List.map_cons, List.nodup_cons]
      refine ⟨⟨fun hm => ?_, h1⟩, fun e he => ?_⟩
      · obtain ⟨e, he, hk⟩ := List.mem_map.1 hm
        rcases sset_mem he with he' | he'
        · exact hx (by rw [← hk, he'])
        · exact h.1 (List.mem_map.2 ⟨e, he', hk⟩)
      · rcases List.mem_cons.1 he with he | he
        · exact .inr (by rw [he]; exact hx)
        · exact h2 e he
theorem SGood.set {E : List SE} {T : Tb} (h : SGood E T) {n : SE} (hk : 1 ≤ n.k ∧ n.k ≤ 8) (hr : 0 < n.r) : SGood (sset E n) (updT T n.k (n.r, n.l)) := by
  obtain ⟨h1, h2⟩ := sset_nodup (n := n) h.nd
  refine ⟨h1, fun e he => ?_, fun c hc1 hc2 hp => ?_⟩
  · rcases h2 e he with he' | he'
    · subst he'
      exact ⟨hk, hr, by unfold updT; rw [if_pos rfl]⟩
    · rcases sset_mem he with rfl | hm
      · exact absurd rfl he'
      · obtain ⟨a, b, c⟩ := h.mem e hm
        exact ⟨a, b, by unfold updT; rw [if_neg he']; exact c⟩
  · by_cases hc : c = n.k
    · exact ⟨n, sset_has n E, hc.symm⟩
    · unfold updT at hp
      rw [if_neg hc] at hp
      obtain ⟨e, he, hek⟩ := h.all c hc1 hc2 hp
      exact ⟨e, sset_keep (by rw [hek]; exact hc) he, hek⟩
theorem cntK_list (T : Tb) : ∀ k, cntK T k = (((List.range k).map fun i : Nat => (i : Int) + 1).filter fun c => decide (0 < (T c).1)).length
  | 0 => rfl
  | k + 1 => by
    rw [cntK, cntK_list T k, List.range_succ, List.map_append, List.filter_append, List.length_append]
    congr 1
    simp only [List.map_cons, List.map_nil, List.filter_cons, List.filter_nil, decide_eq_true_eq]
    split <;> rfl
theorem SGood.count {E : List SE} {T : Tb} (h : SGood E T) : E.length = cntK T 8 := by
  have hD : (((List.range 8).map fun i : Nat => (i : Int) + 1).filter fun c => decide (0 < (T c).1)).Nodup := List.Nodup.sublist List.filter_sublist (by decide)
  have hp := (List.perm_ext_iff_of_nodup h.nd hD).2 fun c => by
    rw [List.mem_map, List.mem_filter, List.mem_map]
    constructor
    · rintro ⟨e, he, rfl⟩
      obtain ⟨a, b, d⟩ := h.mem e he
      refine ⟨⟨(e.k - 1).toNat, List.mem_range.2 (by omega), by omega⟩, ?_⟩
      rw [d]; exact decide_eq_true b
    · rintro ⟨⟨i, hi, rfl⟩, hd⟩
      have := List.mem_range.1 hi
      obtain ⟨e, he, hk⟩ := h.all ((i : Int) + 1) (by omega) (by omega) (of_decide_eq_true hd)
      exact ⟨e, he, hk⟩
  rw [cntK_list, ← hp.length_eq, List.length_map]
def tabA (g : Nat) (T : Tb) : Asn := exA fun r => exA fun E => pureA (SGood E T) (starA (blkA g 65 [.map (some r)]) (starA (mapA .u64 r (E.map SE.kv)) (rdsA (E.map SE.rp))))
theorem St.tab {w : World} {R : List Asn} {g : Nat} {T : Tb} (h : St W w (tabA g T :: R)) : ∃ r E, SGood E T ∧ St W w (blkA g 65 [.map (some r)] :: mapA .u64 r (E.map SE.kv) :: rdsA (E.map SE.rp) :: R) := by
  obtain ⟨r, h⟩ := h.ex
  obtain ⟨E, h⟩ := h.ex
  obtain ⟨hg, h⟩ := h.pure
  have h1 := h.star
  have h2 := (h1.pick (.there (.here _ _))).star
  exact ⟨r, E, hg, h2.pick (.there (.there (.here _ _)))⟩
theorem St.untab {w : World} {R : List Asn} {g r : Nat} {E : List SE} {T : Tb} (h : St W w (blkA g 65 [.map (some r)] :: mapA .u64 r (E.map SE.kv) :: rdsA (E.map SE.rp) :: R)) (hg : SGood E T) : St W w (tabA g T :: R) := by
  have h1 := (h.pick (.there (.here _ _))).pick (.there (.there (.here _ _)))
  have h2 : St W w (mapA .u64 r (E.map SE.kv) :: rdsA (E.map SE.rp) :: blkA g 65 [.map (some r)] :: R) := h1.pick (.there (.here _ _))
  exact St.unex r (St.unex E (St.unpure hg ((h2.unstar.pick (.there (.here _ _))).unstar)))
theorem St.tab_set {w : World} {R : List Asn} {g r m cc : Nat} {A : Option Addr} {E : List SE} {T : Tb} {c q : Int} {l : List Ev} (h : St W w (blkA g 65 [.map (some r)] :: mapA .u64 r (mset (E.map SE.kv) c (.agg #[.int .u64 q, .slice A m cc])) :: rowA 130 12 A m cc (l.flatMap Ev.cells) :: rdsA (E.map SE.rp) :: R))
    (hg : SGood E T) (hm : m = l.length) (hc : 1 ≤ c ∧ c ≤ 8) (hq : 0 < q) : St W w (tabA g (updT T c (q, l)) :: R) := by
  subst hm
  have hr : RdEv w A l := rowRdE (h.pick (.there (.there (.here _ _)))) (.here _ _) rfl
  have h1 : St W w (rowA 130 12 A l.length cc (l.flatMap Ev.cells) :: rdsA (E.map SE.rp) :: blkA g 65 [.map (some r)] :: mapA .u64 r (mset (E.map SE.kv) c (.agg #[.int .u64 q, .slice A l.length cc])) :: R) := (h.pick (.there (.there (.there (.here _ _))))).pick (.there (.there (.there (.here _ _))))
  have h2 := (h1.rds_add (f := evf l) hr).rds_sub (l' := (sset E ⟨c, q, A, cc, l⟩).map SE.rp) fun p hp => by
    obtain ⟨e, he, rfl⟩ := List.mem_map.1 hp
    rcases sset_mem he with he | he
    · subst he; exact List.mem_cons_self
    · exact List.mem_cons_of_mem _ (List.mem_map.2 ⟨e, he, rfl⟩)
  have h3 : St W w (blkA g 65 [.map (some r)] :: mapA .u64 r ((sset E ⟨c, q, A, cc, l⟩).map SE.kv) :: rdsA ((sset E ⟨c, q, A, cc, l⟩).map SE.rp) :: R) := by
    have h4 := (h2.pick (.there (.there (.here _ _)))).pick (.there (.there (.here _ _)))
    rw [← sset_kv ⟨c, q, A, cc, l⟩ E]
    exact h4
  exact h3.untab (hg.set (n := ⟨c, q, A, cc, l⟩) hc hq)
/-- the document's table -/
abbrev Slt := Nat → Option Addr × Nat
def rcell (T : Tb) (sl : Slt) (k : Nat) : Value := if k % 2 = 0 then .int .u64 (T ((k / 2 : Nat) : Int)).1 else .slice (sl (k / 2)).1 (T ((k / 2 : Nat) : Int)).2.length (sl (k / 2)).2
def rcs (T : Tb) (sl : Slt) : List Value := (List.range 18).map (rcell T sl)
def rps (T : Tb) (sl : Slt) : List RdP := (List.range 9).map fun i => ⟨12, (sl i).1, (T (i : Int)).2.length, evf (T (i : Int)).2⟩
def refA (g : Nat) (T : Tb) : Asn := exA fun sl => starA (blkA g 168 (rcs T sl)) (rdsA (rps T sl))
theorem St.ref {w : World} {R : List Asn} {g : Nat} {T : Tb} (h : St W w (refA g T :: R)) : ∃ sl, St W w (blkA g 168 (rcs T sl) :: rdsA (rps T sl) :: R) := by
  obtain ⟨sl, h⟩ := h.ex
  exact ⟨sl, h.star⟩
theorem St.unref {w : World} {R : List Asn} {g : Nat} {T : Tb} {sl : Slt} (h : St W w (blkA g 168 (rcs T sl) :: rdsA (rps T sl) :: R)) : St W w (refA g T :: R) := St.unex sl h.unstar
theorem rcs_len (T : Tb) (sl : Slt) : (rcs T sl).length = 18 := by unfold rcs; rw [List.length_map, List.length_range]
theorem rcs_req {T : Tb} {sl : Slt} {c : Int} (h : 0 ≤ c ∧ c ≤ 8) : (rcs T sl)[0 + c.toNat * 2 + 0]? = some (.int .u64 (T c).1) := by
  unfold rcs
  rw [List.getElem?_map, List.getElem?_range (by omega), Option.map_some, rcell, if_pos (by omega), show (0 + c.toNat * 2 + 0) / 2 = c.toNat by omega, show ((c.toNat : Nat) : Int) = c by omega]
theorem rcs_evs {T : Tb} {sl : Slt} {c : Int} (h : 0 ≤ c ∧ c ≤ 8) : (rcs T sl)[0 + c.toNat * 2 + 1]? = some (.slice (sl c.toNat).1 (T c).2.length (sl c.toNat).2) := by
  unfold rcs
  rw [List.getElem?_map, List.getElem?_range (by omega), Option.map_some, rcell, if_neg (by omega), show (0 + c.toNat * 2 + 1) / 2 = c.toNat by omega, show ((c.toNat : Nat) : Int) = c by omega]
theorem rps_rd {w : World} {L R : List Asn} {T : Tb} {sl : Slt} {c : Int} (hS : St W w L) (p : Pick L (rdsA (rps T sl)) R) (h : 0 ≤ c ∧ c ≤ 8) : RdEv w (sl c.toNat).1 (T c).2 := by
  have := hS.rds p (p := ⟨12, (sl c.toNat).1, (T ((c.toNat : Nat) : Int)).2.length, evf (T ((c.toNat : Nat) : Int)).2⟩) (List.mem_map.2 ⟨c.toNat, List.mem_range.2 (by omega), rfl⟩)
  rw [show ((c.toNat : Nat) : Int) = c by omega] at this
  exact this
theorem range_set {f : Nat → Value} {n k : Nat} {v : Value} : ((List.range n).map f).set k v = (List.range n).map fun i => if i = k then v else f i := by
  apply List.ext_getElem (by simp)
  intro i h1 h2
  rw [List.getElem_set]
  simp only [List.getElem_map, List.getElem_range]
  by_cases h : k = i
  · rw [if_pos h, if_pos h.symm]
  · rw [if_neg h, if_neg (fun e => h e.symm)]
theorem rcs_set {T : Tb} {sl : Slt} {c q : Int} {l : List Ev} {a : Option Addr} {cc : Nat} (h : 0 ≤ c ∧ c ≤ 8) : setN (rcs T sl) (0 + c.toNat * 2) [.int .u64 q, .slice a l.length cc] = rcs (updT T c (q, l)) (fun i => if i = c.toNat then (a, cc) else sl i) := by
  show ((rcs T sl).set (0 + c.toNat * 2) _).set (0 + c.toNat * 2 + 1) _ = _
  unfold rcs
  rw [range_set, range_set]
  apply List.map_congr_left
  intro k _
  unfold rcell updT
  by_cases h1 : k / 2 = c.toNat
  · have h2 : ((k / 2 : Nat) : Int) = c := by omega
    rw [if_pos h2]
    dsimp only
    rw [if_pos h1]
    by_cases h3 : k % 2 = 0
    · rw [if_neg (by omega), if_pos (by omega), if_pos h3]
    · rw [if_pos (by omega), if_neg h3]
  · have h2 : ¬ ((k / 2 : Nat) : Int) = c := by omega
    rw [if_neg h2]
    dsimp only
    rw [if_neg h1, if_neg (by omega), if_neg (by omega)]
theorem St.ref_set {w : World} {R : List Asn} {g m cc : Nat} {A : Option Addr} {T : Tb} {sl : Slt} {c q : Int} {l : List Ev} (h : St W w (blkA g 168 (setN (rcs T sl) (0 + c.toNat * 2) [.int .u64 q, .slice A m cc]) :: rowA 130 12 A m cc (l.flatMap Ev.cells) :: rdsA (rps T sl) :: R)) (hm : m = l.length) (hc : 0 ≤ c ∧ c ≤ 8) : St W w (refA g (updT T c (q, l)) :: R) := by
  subst hm
  have hr : RdEv w A l := rowRdE (h.pick (.there (.here _ _))) (.here _ _) rfl
  rw [rcs_set hc] at h
  have h1 := (h.pick (.there (.there (.here _ _)))).pick (.there (.there (.here _ _)))
  have h2 := (h1.rds_add (f := evf l) hr).rds_sub (l' := rps (updT T c (q, l)) (fun i => if i = c.toNat then (A, cc) else sl i)) fun p hp => by
    obtain ⟨i, hi, rfl⟩ := List.mem_map.1 hp
    by_cases hic : i = c.toNat
    · have e1 : ((i : Nat) : Int) = c := by omega
      simp only [updT, if_pos hic, if_pos e1]
      exact List.mem_cons_self
    · have e1 : ¬ ((i : Nat) : Int) = c := by omega
      simp only [updT, if_neg hic, if_neg e1]
      exact List.mem_cons_of_mem _ (List.mem_map.2 ⟨i, hi, rfl⟩)
  exact St.unref (h2.pick (.there (.here _ _)))
end Go.Proofs.Ytcikoealneldkaa
