/- Memory as a list of pieces that lie apart: what a call owns. 'St W w L': below W's blocks nothing has turned, and the pieces of L lie in w, above, each apart from the others. -/
import Derived.Test.YtcgagmojgjbfpaaDoorW1
import Derived.Deep.AppendLies
import Derived.Maps.AppendAt
namespace Go.Proofs.YtcgagmojgjbfpaaDoor
open Go Go.RowKit
/-- Nothing but the blocks of S (and what is new) has turned. -/
structure Fr (S : List Nat) (w w' : World) : Prop where
  os : w'.os = w.os
  tape : w'.tape = w.tape
  output : w'.output = w.output
  size : w.heap.size ≤ w'.heap.size
  block : ∀ k, k < w.heap.size → k ∉ S → w'.heap[k]? = w.heap[k]?
theorem Fr.refl (S : List Nat) (w : World) : Fr S w w := ⟨rfl, rfl, rfl, Nat.le_refl _, fun _ _ _ => rfl⟩
theorem Fr.of_below {w w' : World} (h : Below w.heap.size w w') : Fr [] w w' := ⟨h.os, h.tape, h.output, h.size, fun k hk _ => h.block k hk⟩
theorem Fr.below {w w' : World} (h : Fr [] w w') : Below w.heap.size w w' := ⟨h.os, h.tape, h.output, h.size, fun k hk => h.block k hk (by simp)⟩
theorem Fr.of_grown {w w' : World} {row : Option Nat} (h : w.grownBy w' row) : Fr row.toList w w' :=
  ⟨h.os, h.tape, h.output, h.size, fun k hk hS => h.block k hk (fun e => hS (by rw [← e]; simp))⟩
theorem Fr.alloc (S : List Nat) (w : World) (o : Obj) : Fr S w (w.alloc o) := ⟨rfl, rfl, rfl, by simp, fun k hk _ => Below.heap_alloc _ _ _ hk⟩
theorem Fr.setCell (w : World) (a : Addr) (v : Value) : Fr [a.block] w (w.setCell a v) := ⟨rfl, rfl, rfl, by simp [World.setCell], fun k _ hS => Below.heap_setCell _ _ _ _ (by simpa using hS)⟩
theorem Fr.then {S T : List Nat} {a b c : World} (h : Fr S a b) (k : Fr T b c) (hT : ∀ i, i < a.heap.size → i ∈ T → i ∈ S) : Fr S a c :=
  ⟨k.os.trans h.os, k.tape.trans h.tape, k.output.trans h.output, Nat.le_trans h.size k.size,
   fun i hi hS => (k.block i (Nat.lt_of_lt_of_le hi h.size) fun hh => hS (hT i hi hh)).trans (h.block i hi hS)⟩
/-- A piece of memory: what it says of a world, and the blocks on which that hangs. -/
structure Asn where
  holds : World → List Nat → Prop
  loc : ∀ w w' F, holds w F → (∀ k ∈ F, w'.heap[k]? = w.heap[k]?) → holds w' F
  lt : ∀ w F, holds w F → ∀ k ∈ F, k < w.heap.size
def Sep (w : World) : List Asn → List Nat → Prop
  | [], F => F = []
  | A :: R, F => ∃ F1 F2, F = F1 ++ F2 ∧ A.holds w F1 ∧ Sep w R F2 ∧ ∀ k ∈ F1, k ∉ F2
theorem Sep.loc {w w' : World} (L : List Asn) : ∀ F, Sep w L F → (∀ k ∈ F, w'.heap[k]? = w.heap[k]?) → Sep w' L F := by
  induction L with
  | nil => exact fun F h _ => h
  | cons A R ih =>
    rintro F ⟨F1, F2, rfl, h1, h2, hd⟩ hk
    exact ⟨F1, F2, rfl, A.loc w w' F1 h1 fun k hm => hk k (List.mem_append_left _ hm), ih F2 h2 fun k hm => hk k (List.mem_append_right _ hm), hd⟩
theorem Sep.lt {w : World} (L : List Asn) : ∀ F, Sep w L F → ∀ k ∈ F, k < w.heap.size := by
  induction L with
  | nil => rintro F rfl k hk; cases hk
  | cons A R ih =>
    rintro F ⟨F1, F2, rfl, h1, h2, hd⟩ k hk
    rcases List.mem_append.1 hk with h | h
    · exact A.lt w F1 h1 k h
    · exact ih F2 h2 k h
/-- A is in L, and R are the others. -/
inductive Pick : List Asn → Asn → List Asn → Prop where
  | here (A : Asn) (R : List Asn) : Pick (A :: R) A R
  | there {B A : Asn} {L R : List Asn} (h : Pick L A R) : Pick (B :: L) A (B :: R)
theorem Sep.pick {w : World} {L R : List Asn} {A : Asn} (p : Pick L A R) : ∀ F, Sep w L F → ∃ F', Sep w (A :: R) F' ∧ ∀ k, k ∈ F' ↔ k ∈ F := by
  induction p with
  | here A R => exact fun F h => ⟨F, h, fun _ => Iff.rfl⟩
  | @there B A L R p ih =>
    rintro F ⟨F1, F2, rfl, h1, h2, hd⟩
    obtain ⟨F', ⟨G1, G2, rfl, g1, g2, gd⟩, hm⟩ := ih F2 h2
    refine ⟨G1 ++ (F1 ++ G2), ⟨G1, F1 ++ G2, rfl, g1, ⟨F1, G2, rfl, h1, g2, fun k hk hk2 => hd k hk ((hm k).1 (List.mem_append_right _ hk2))⟩, fun k hk hk2 => ?_⟩, fun k => ?_⟩
    · rcases List.mem_append.1 hk2 with h | h
      · exact hd k h ((hm k).1 (List.mem_append_left _ hk))
      · exact gd k hk h
    · have := hm k
      simp only [List.mem_append] at this ⊢
      grind
structure St (W w : World) (L : List Asn) : Prop where
  below : Below W.heap.size W w
  sep : ∃ F, Sep w L F ∧ ∀ k ∈ F, W.heap.size ≤ k
theorem St.init (W : World) : St W W [] := ⟨Below.refl _ _, [], rfl, fun _ h => by cases h⟩
theorem St.pick {W w : World} {L R : List Asn} {A : Asn} (h : St W w L) (p : Pick L A R) : St W w (A :: R) := by
  obtain ⟨hb, F, hs, hF⟩ := h
  obtain ⟨F', hs', hm⟩ := Sep.pick p F hs
  exact ⟨hb, F', hs', fun k hk => hF k ((hm k).1 hk)⟩
theorem St.drop {W w : World} {R : List Asn} {A : Asn} (h : St W w (A :: R)) : St W w R := by
  obtain ⟨hb, F, ⟨F1, F2, rfl, _, h2, _⟩, hF⟩ := h
  exact ⟨hb, F2, h2, fun k hk => hF k (List.mem_append_right _ hk)⟩
theorem St.nil {W w : World} {L : List Asn} (h : St W w L) : St W w [] := ⟨h.below, [], rfl, fun _ h => by cases h⟩
theorem St.le {W w : World} {L : List Asn} (h : St W w L) : W.heap.size ≤ w.heap.size := h.below.size
/-- The piece at the head turns, by a step that turns nothing but its blocks and what is new. -/
theorem St.upd {W w w' : World} {R : List Asn} {A A' : Asn} (h : St W w (A :: R))
    (hu : ∀ F, A.holds w F → Fr F w w' ∧ ∃ F', A'.holds w' F' ∧ ∀ k ∈ F', k ∈ F ∨ w.heap.size ≤ k) : St W w' (A' :: R) := by
  obtain ⟨hb, F, ⟨F1, F2, rfl, h1, h2, hd⟩, hF⟩ := h
  obtain ⟨hf, F', h1', hn⟩ := hu F1 h1
  have hlt2 := Sep.lt R F2 h2
  refine ⟨⟨hf.os.trans hb.os, hf.tape.trans hb.tape, hf.output.trans hb.output, Nat.le_trans hb.size hf.size, fun k hk => ?_⟩, F' ++ F2, ⟨F', F2, rfl, h1', ?_, ?_⟩, ?_⟩
  · refine (hf.block k (Nat.lt_of_lt_of_le hk hb.size) fun hm => ?_).trans (hb.block k hk)
    have := hF k (List.mem_append_left _ hm)
    omega
  · exact Sep.loc R F2 h2 fun k hk => hf.block k (hlt2 k hk) fun hm => hd k hm hk
  · intro k hk hk2
    rcases hn k hk with hh | hh
    · exact hd k hh hk2
    · have := hlt2 k hk2; omega
  · intro k hk
    rcases List.mem_append.1 hk with hh | hh
    · rcases hn k hh with hg | hg
      · exact hF k (List.mem_append_left _ hg)
      · have := hb.size; omega
    · exact hF k (List.mem_append_right _ hh)
/-- A new piece, by a step that turns nothing that was there. -/
theorem St.add {W w w' : World} {R : List Asn} {A : Asn} (h : St W w R) (hf : Fr [] w w') {F : List Nat} (hA : A.holds w' F) (hn : ∀ k ∈ F, w.heap.size ≤ k) : St W w' (A :: R) := by
  obtain ⟨hb, F2, h2, hF⟩ := h
  have hlt2 := Sep.lt R F2 h2
  refine ⟨⟨hf.os.trans hb.os, hf.tape.trans hb.tape, hf.output.trans hb.output, Nat.le_trans hb.size hf.size, fun k hk => (hf.block k (Nat.lt_of_lt_of_le hk hb.size) (by simp)).trans (hb.block k hk)⟩,
    F ++ F2, ⟨F, F2, rfl, hA, Sep.loc R F2 h2 fun k hk => hf.block k (hlt2 k hk) (by simp), fun k hk hk2 => ?_⟩, fun k hk => ?_⟩
  · have h1 := hn k hk; have h2 := hlt2 k hk2; omega
  · rcases List.mem_append.1 hk with hh | hh
    · have h1 := hn k hh; have h2 := hb.size; omega
    · exact hF k hh
/-- Nothing that was there turns. -/
theorem St.fr {W w w' : World} {R : List Asn} (h : St W w R) (hf : Fr [] w w') : St W w' R := by
  obtain ⟨hb, F2, h2, hF⟩ := h
  have hlt2 := Sep.lt R F2 h2
  exact ⟨⟨hf.os.trans hb.os, hf.tape.trans hb.tape, hf.output.trans hb.output, Nat.le_trans hb.size hf.size, fun k hk => (hf.block k (Nat.lt_of_lt_of_le hk hb.size) (by simp)).trans (hb.block k hk)⟩,
    F2, Sep.loc R F2 h2 fun k hk => hf.block k (hlt2 k hk) (by simp), hF⟩
theorem Sep.append {w : World} {L M : List Asn} : ∀ {F G : List Nat}, Sep w L F → Sep w M G → (∀ k ∈ F, k ∉ G) → Sep w (L ++ M) (F ++ G) := by
  induction L with
  | nil => rintro F G rfl h _; exact h
  | cons A R ih =>
    rintro F G ⟨F1, F2, rfl, h1, h2, hd⟩ hG hdis
    refine ⟨F1, F2 ++ G, by simp, h1, ih h2 hG (fun k hk => hdis k (List.mem_append_right _ hk)), fun k hk hk2 => ?_⟩
    rcases List.mem_append.1 hk2 with hh | hh
    · exact hd k hk hh
    · exact hdis k (List.mem_append_left _ hk) hh
/-- What a call made that owned nothing lies beside what was owned. -/
theorem St.lift {W w w' : World} {L M : List Asn} (h : St W w L) (h' : St w w' M) : St W w' (M ++ L) := by
  have hf := Fr.of_below h'.below
  obtain ⟨hb, F, hs, hF⟩ := h
  obtain ⟨hb', G, hs', hG⟩ := h'
  have hlt := Sep.lt L F hs
  refine ⟨⟨hf.os.trans hb.os, hf.tape.trans hb.tape, hf.output.trans hb.output, Nat.le_trans hb.size hf.size, fun k hk => (hf.block k (Nat.lt_of_lt_of_le hk hb.size) (by simp)).trans (hb.block k hk)⟩,
    G ++ F, Sep.append hs' (Sep.loc L F hs fun k hk => hf.block k (hlt k hk) (by simp)) (fun k hk hk2 => ?_), fun k hk => ?_⟩
  · have h1 := hG k hk; have h2 := hlt k hk2; omega
  · rcases List.mem_append.1 hk with hh | hh
    · have h1 := hG k hh; have h2 := hb.size; omega
    · exact hF k hh
theorem St.trans {W w w' : World} {L M : List Asn} (h : St W w L) (h' : St w w' M) : St W w' M := by
  have hs := St.lift h h'
  obtain ⟨hb, _⟩ := hs
  obtain ⟨_, G, hs', hG⟩ := h'
  exact ⟨hb, G, hs', fun k hk => Nat.le_trans h.below.size (hG k hk)⟩
/-- pieces put together; a piece with something unknown -/
def starA (A B : Asn) : Asn where
  holds w F := ∃ F1 F2, F = F1 ++ F2 ∧ A.holds w F1 ∧ B.holds w F2 ∧ ∀ k ∈ F1, k ∉ F2
  loc w w' F h hk := by
    obtain ⟨F1, F2, rfl, h1, h2, hd⟩ := h
    exact ⟨F1, F2, rfl, A.loc w w' F1 h1 fun k hm => hk k (List.mem_append_left _ hm), B.loc w w' F2 h2 fun k hm => hk k (List.mem_append_right _ hm), hd⟩
  lt w F h k hk := by
    obtain ⟨F1, F2, rfl, h1, h2, hd⟩ := h
    rcases List.mem_append.1 hk with h | h
    · exact A.lt w F1 h1 k h
    · exact B.lt w F2 h2 k h
def pureA (p : Prop) (A : Asn) : Asn where
  holds w F := p ∧ A.holds w F
  loc w w' F h hk := ⟨h.1, A.loc w w' F h.2 hk⟩
  lt w F h := A.lt w F h.2
theorem St.unstar {W w : World} {R : List Asn} {A B : Asn} (h : St W w (A :: B :: R)) : St W w (starA A B :: R) := by
  obtain ⟨hb, F, ⟨F1, F2, rfl, h1, ⟨G1, G2, rfl, g1, g2, gd⟩, hd⟩, hF⟩ := h
  refine ⟨hb, (F1 ++ G1) ++ G2, ⟨F1 ++ G1, G2, rfl, ⟨F1, G1, rfl, h1, g1, fun k hk hk2 => hd k hk (List.mem_append_left _ hk2)⟩, g2, fun k hk hk2 => ?_⟩, fun k hk => hF k (by simpa [List.append_assoc] using hk)⟩
  rcases List.mem_append.1 hk with hh | hh
  · exact hd k hh (List.mem_append_right _ hk2)
  · exact gd k hh hk2
theorem St.pure {W w : World} {R : List Asn} {p : Prop} {A : Asn} (h : St W w (pureA p A :: R)) : p ∧ St W w (A :: R) := by
  obtain ⟨hb, F, ⟨F1, F2, rfl, ⟨hp, hx⟩, h2, hd⟩, hF⟩ := h
  exact ⟨hp, hb, F1 ++ F2, ⟨F1, F2, rfl, hx, h2, hd⟩, hF⟩
theorem St.get {W w : World} {L R : List Asn} {A : Asn} (h : St W w L) (p : Pick L A R) : ∃ F, A.holds w F ∧ ∀ k ∈ F, W.heap.size ≤ k := by
  obtain ⟨hb, F, ⟨F1, F2, rfl, hx, h2, hd⟩, hF⟩ := h.pick p
  exact ⟨F1, hx, fun k hk => hF k (List.mem_append_left _ hk)⟩
/-- a block that is known whole -/
def Blk (w : World) (g : Nat) (t : TypeId) (cs : List Value) (fz : Nat × Nat := (0, 0)) : Prop := w.heap[g]? = some (.cells cs.toArray t fz)
section
variable {w w' : World} {g : Nat} {t : TypeId} {cs : List Value}
theorem Blk.lt {fz : Nat × Nat} (h : Blk w g t cs fz) : g < w.heap.size := by
  rcases Nat.lt_or_ge g w.heap.size with hlt | hge
  · exact hlt
  · unfold Blk at h; rw [Array.getElem?_eq_none hge] at h; cases h
theorem Blk.cell {fz : Nat × Nat} (h : Blk w g t cs fz) (i : Nat) : w.cell? ⟨g, i, none⟩ = cs[i]? := by
  unfold Blk at h; simp [World.cell?, h]
theorem Blk.frozen (h : Blk w g t cs) (i : Nat) : w.frozen? ⟨g, i, none⟩ = false := by
  unfold Blk at h; simp [World.frozen?, h]
theorem Blk.set_ (h : Blk w g t cs) (i : Nat) (u : Value) : Blk (w.setCell ⟨g, i, none⟩ u) g t (cs.set i u) := by
  unfold Blk at h ⊢
  simp [World.setCell, Array.getElem?_modify, h]
end
def blkA (g : Nat) (t : TypeId) (cs : List Value) (fz : Nat × Nat := (0, 0)) : Asn where
  holds w F := F = [g] ∧ Blk w g t cs fz
  loc w w' F h hk := ⟨h.1, (hk g (by rw [h.1]; simp)).trans h.2⟩
  lt w F h k hk := by rw [h.1] at hk; have := List.mem_singleton.1 hk; subst this; exact h.2.lt
theorem St.blk {W w : World} {L R : List Asn} {g : Nat} {t : TypeId} {cs : List Value} {fz : Nat × Nat} (h : St W w L) (p : Pick L (blkA g t cs fz) R) : Blk w g t cs fz := by
  obtain ⟨F, hx, _⟩ := h.get p; exact hx.2
theorem St.cell {W w : World} {L R : List Asn} {g i : Nat} {t : TypeId} {cs : List Value} {fz : Nat × Nat} {v : Value} (h : St W w L) (p : Pick L (blkA g t cs fz) R) (hv : cs[i]? = some v) : w.cell? ⟨g, i, none⟩ = some v := by
  rw [(h.blk p).cell, hv]
theorem St.new {W w : World} {L : List Asn} (h : St W w L) (t : TypeId) (cs : List Value) : St W (w.alloc (.cells cs.toArray t)) (blkA w.heap.size t cs :: L) :=
  h.add (Fr.alloc _ _ _) (F := [w.heap.size]) ⟨rfl, heap_alloc_new w _⟩ (fun k hk => by have := List.mem_singleton.1 hk; omega)
theorem St.set_ {W w : World} {L R : List Asn} {g : Nat} {t : TypeId} {cs : List Value} (h : St W w L) (p : Pick L (blkA g t cs) R) (i : Nat) (u : Value) : St W (w.setCell ⟨g, i, none⟩ u) (blkA g t (cs.set i u) :: R) := by
  refine (h.pick p).upd fun F hF => ?_
  obtain ⟨rfl, hb⟩ := hF
  exact ⟨Fr.setCell w ⟨g, i, none⟩ u, [g], ⟨rfl, hb.set_ i u⟩, fun k hk => .inl hk⟩
theorem St.drawn {W w : World} {L : List Asn} (h : St W w L) (n : Nat) : St W { w with drawn := n } L := h.fr ⟨rfl, rfl, rfl, Nat.le_refl _, fun _ _ _ => rfl⟩
/-- a slice of the call's own, whose array is its own too: n elements, cells xs -/
def rowA (t : TypeId) (size : Nat) (A : Option Addr) (n c : Nat) (xs : List Value) : Asn where
  holds w F := F = (A.map (·.block)).toList ∧ w.ownsRow 0 t size (.slice A n c) n xs
  loc w w' F h hk := by
    refine ⟨h.1, h.2.1, ?_⟩
    rcases h.2.2 with hh | ⟨g, cap, cur, hv, hg, hh, r⟩
    · exact .inl hh
    · have hA : A = some ⟨g, 0, none⟩ := by injection hv
      exact .inr ⟨g, cap, cur, hv, hg, (hk g (by rw [h.1, hA]; simp)).trans hh, r⟩
  lt w F h k hk := by
    rcases h.2.2 with hh | ⟨g, cap, cur, hv, hg, hh, r⟩
    · injection hh.1 with hA _ _
      rw [h.1, hA] at hk; cases hk
    · have hA : A = some ⟨g, 0, none⟩ := by injection hv
      rw [h.1, hA] at hk
      have hkg : k = g := List.mem_singleton.1 hk
      rw [hkg]
      rcases Nat.lt_or_ge g w.heap.size with hlt | hge
      · exact hlt
      · rw [Array.getElem?_eq_none hge] at hh; cases hh
/-- a slice that reads: n elements of so many cells, element i's cells: f i -/
def Rd (w : World) (size : Nat) (A : Option Addr) (n : Nat) (f : Nat → List Value) : Prop :=
  0 < n → ∃ ad, A = some ad ∧ ad.block < w.heap.size ∧ ∀ i, i < n → (f i).length = size ∧ ∀ j v, (f i)[j]? = some v → w.cell? ((ad.add (i * size)).add j) = some v
theorem add_block (a : Addr) (n : Nat) : (a.add n).block = a.block := by unfold Addr.add; split <;> rfl
theorem add_add (a : Addr) (i j : Nat) : (a.add i).add j = a.add (i + j) := by
  unfold Addr.add
  by_cases hi : i = 0 <;> by_cases hj : j = 0 <;> simp [hi, hj, Nat.add_assoc]
theorem Rd.below {w w' : World} {size : Nat} {A : Option Addr} {n : Nat} {f : Nat → List Value} (h : Rd w size A n f) (hb : Below w.heap.size w w') : Rd w' size A n f := fun hn => by
  obtain ⟨ad, hA, hlt, hc⟩ := h hn
  exact ⟨ad, hA, Nat.lt_of_lt_of_le hlt hb.size, fun i hi => ⟨(hc i hi).1, fun j v hv => (hb.cell (by rw [add_block, add_block]; exact hlt)).trans ((hc i hi).2 j v hv)⟩⟩
theorem Rd.st {W w : World} {L : List Asn} {size : Nat} {A : Option Addr} {n : Nat} {f : Nat → List Value} (h : Rd W size A n f) (hS : St W w L) : Rd w size A n f := h.below hS.below
theorem Rd.at_ {w : World} {size : Nat} {A : Option Addr} {n : Nat} {f : Nat → List Value} (h : Rd w size A n f) {i : Nat} (hi : i < n) : ∃ ad, A = some ad ∧ (f i).length = size ∧ ∀ j v, (f i)[j]? = some v → w.cell? ((ad.add (i * size)).add j) = some v := by
  obtain ⟨ad, hA, _, hc⟩ := h (by omega)
  exact ⟨ad, hA, hc i hi⟩
theorem Rd.congr {w : World} {size : Nat} {A : Option Addr} {n : Nat} {f g : Nat → List Value} (h : Rd w size A n f) (hg : ∀ i, i < n → g i = f i) : Rd w size A n g := fun hn => by
  obtain ⟨ad, hA, hlt, hc⟩ := h hn
  exact ⟨ad, hA, hlt, fun i hi => by rw [hg i hi]; exact hc i hi⟩
/-- a cut of it -/
theorem Rd.cut {w : World} {size : Nat} {A : Option Addr} {n : Nat} {f : Nat → List Value} (h : Rd w size A n f) {l m cap : Nat} (hm : m ≤ n) (hl : l ≤ m) (hc : n ≤ cap) :
    Rd w size (if cap = l then A else A.map (·.add (l * size))) (m - l) (fun i => f (l + i)) := fun hn => by
  obtain ⟨ad, rfl, hlt, hcell⟩ := h (by omega)
  rw [if_neg (by omega)]
  refine ⟨ad.add (l * size), rfl, by rw [add_block]; exact hlt, fun i hi => ⟨(hcell (l + i) (by omega)).1, fun j v hv => ?_⟩⟩
  rw [add_add ad, ← Nat.add_mul]
  exact (hcell (l + i) (by omega)).2 j v hv
theorem own_rd {w : World} {t : TypeId} {size n c : Nat} {A : Option Addr} {xs : List Value} {f : Nat → List Value} (h : w.ownsRow 0 t size (.slice A n c) n xs) (hf : ∀ i, i < n → (f i).length = size)
    (hx : ∀ i j, i < n → j < size → xs[i * size + j]? = (f i)[j]?) : Rd w size A n f := fun hn => by
  obtain ⟨g, cap, hv, _, hlt⟩ := World.ownsRow.form h hn
  have hA : A = some ⟨g, 0, none⟩ := by injection hv
  subst hA
  refine ⟨_, rfl, hlt, fun i hi => ⟨hf i hi, fun j v hv => ?_⟩⟩
  have hj : j < size := by
    rcases Nat.lt_or_ge j size with hlt | hge
    · exact hlt
    · rw [List.getElem?_eq_none (by rw [hf i hi]; exact hge)] at hv; cases hv
  rw [add_add]
  exact World.ownsRow.cells h (g := g) rfl _ _ ((hx i j hi hj).trans hv)
theorem St.row {W w : World} {L R : List Asn} {t : TypeId} {size n c : Nat} {A : Option Addr} {xs : List Value} (h : St W w L) (p : Pick L (rowA t size A n c xs) R) : w.ownsRow 0 t size (.slice A n c) n xs := by
  obtain ⟨F, hx, _⟩ := h.get p; exact hx.2
theorem St.after {W w w' : World} {L : List Asn} (h : St W w L) (h' : St w w' []) : St W w' L := by simpa using h.lift h'
theorem St.recast {W w : World} {R : List Asn} {A B : Asn} (h : St W w (A :: R)) (e : A = B) : St W w (B :: R) := e ▸ h
end Go.Proofs.YtcgagmojgjbfpaaDoor
