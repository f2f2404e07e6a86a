/- Rows of structs; arrays within a block. -/
import Derived.Test.YtmgobaojioaioaaW4
import Derived.DeepKeys
namespace Go.Proofs.Ytmgobaojioaioaa
open Go Go.RowKit Go.Lib
theorem not_dec_t {p : Prop} [Decidable p] (h : (!decide p) = true) : ¬ p := by simpa using h
theorem not_dec_f {p : Prop} [Decidable p] (h : (!decide p) = false) : p := by simpa using h
section
variable {β : Type} [Inhabited β] {cells : β → List Value} {size : Nat}
theorem flat_get (h : ∀ x, (cells x).length = size) : ∀ (l : List β) (i j : Nat), i < l.length → j < size → (l.flatMap cells)[i * size + j]? = (cells (l.getD i default))[j]? := by
  intro l
  induction l with
  | nil => intro i j hi; simp at hi
  | cons a l ih =>
    intro i j hi hj
    cases i with
    | zero =>
      rw [List.flatMap_cons, Nat.zero_mul, Nat.zero_add, List.getElem?_append_left (by rw [h]; exact hj)]
      rfl
    | succ i =>
      rw [List.flatMap_cons, List.getElem?_append_right (by rw [h, Nat.succ_mul]; omega), h, show (i + 1) * size + j - size = i * size + j from by rw [Nat.succ_mul]; omega]
      rw [ih i j (by simpa using hi) hj]
      rfl
theorem flat_range (l : List β) : (List.range l.length).flatMap (fun i => cells (l.getD i default)) = l.flatMap cells := by
  induction l with
  | nil => rfl
  | cons a l ih =>
    rw [List.length_cons, List.range_succ_eq_map, List.flatMap_cons, List.flatMap_map, List.flatMap_cons, ← ih]
    rfl
variable {W w : World} {L R : List Asn}
theorem St.rowRdL (hS : St W w L) {e : TypeId} {A : Option Addr} {n c : Nat} {l : List β} (pk : Pick L (rowA e size A n c (l.flatMap cells)) R) (hn : n = l.length) (h : ∀ x, (cells x).length = size) : Rd w size A l.length (fun i => cells (l.getD i default)) := by
  have hown := hS.row pk
  rw [hn] at hown
  exact own_rd hown (fun i _ => h _) (fun i j hi hj => flat_get h l i j hi hj)
end
section
variable {P : Program} {ρ : Env} {W w : World} {L R : List Asn} {ty : TypeId}
theorem addr_add (g off n : Nat) : (⟨g, off, none⟩ : Addr).add n = ⟨g, off + n, none⟩ := by
  unfold Addr.add
  split
  · rename_i h; simp
  · rfl
theorem q_arr {t e : TypeId} {x i : Operand} {g off len size : Nat} {k : IntKind} {m : Int} (ht : ∀ w, (underlying t).run P w = .ok (.array len e) w) (hz : ∀ w, (sizeOf e).run P w = .ok size w)
    (hx : ev ρ x = .pointer (some ⟨g, off, none⟩)) (hi : ev ρ i = .int k m) (hb : 0 ≤ m ∧ m < len) : qv P (.indexAddr t x i) ty ρ w (.pointer (some ⟨g, off + m.toNat * size, none⟩)) :=
  q_cast (q_indexAddr_arr ht hz hx hi hb) (by rw [addr_add])
theorem q_arr_nat {t e : TypeId} {x i : Operand} {g off len size : Nat} {k : IntKind} {j : Nat} (ht : ∀ w, (underlying t).run P w = .ok (.array len e) w) (hz : ∀ w, (sizeOf e).run P w = .ok size w)
    (hx : ev ρ x = .pointer (some ⟨g, off, none⟩)) (hi : ev ρ i = .int k (j : Int)) (hb : j < len) : qv P (.indexAddr t x i) ty ρ w (.pointer (some ⟨g, off + j * size, none⟩)) := q_arr ht hz hx hi (by omega)
theorem q_load_sub {t : TypeId} {x : Operand} {g off n : Nat} {t' : TypeId} {cs : List Value} (hA : ∀ w, (isAgg t).run P w = .ok true w) (hz : ∀ w, (sizeOf t).run P w = .ok n w) (hx : ev ρ x = .pointer (some ⟨g, off, none⟩)) (hb : Blk w g t' cs) (hn : off + n ≤ cs.length) :
    qv P (.load t x) ty ρ w (.agg ((cs.drop off).take n).toArray) :=
  q_loadN hA hz hx (by rw [List.length_take, List.length_drop]; omega) (fun j v hv => by
    rw [addr_add, hb.cell]
    rw [List.getElem?_take] at hv
    split at hv
    · rw [List.getElem?_drop] at hv; exact hv
    · cases hv)
theorem mapM_some {α γ : Type} {f : α → Option γ} {g : α → γ} (l : List α) (h : ∀ a ∈ l, f a = some (g a)) : l.mapM f = some (l.map g) := by
  induction l with
  | nil => rfl
  | cons a l ih =>
    rw [List.mapM_cons, h a List.mem_cons_self, ih fun b hb => h b (List.mem_cons_of_mem _ hb)]
    rfl
theorem keyLits_ints {t e : TypeId} {n : Nat} {k : IntKind} (ht : P.underlying t = some (.array n e)) (he : P.underlying e = some (.int k)) (hc : P.cellsOf e = 1) (hC : P.cellsOf t = n) {xs : List Int} (hn : xs.length = n) (hw : ∀ x ∈ xs, (Lit.int k x).wf = true) :
    P.keyLits 2 t (xs.map (Value.int k)) = some (xs.map (Lit.int k)) := by
  have h1 : (List.range n).mapM (fun i => P.keyLits 1 e (((xs.map (Value.int k)).drop (i * P.cellsOf e)).take (P.cellsOf e))) = some ((List.range n).map fun i => [Lit.int k (xs.getD i 0)]) := by
    refine mapM_some _ fun i hi => ?_
    have hi := List.mem_range.1 hi
    rw [hc, Nat.mul_one, List.drop_eq_getElem_cons (by rw [List.length_map]; omega)]
    have hx : xs.getD i 0 = xs[i] := by rw [List.getD_eq_getElem?_getD, List.getElem?_eq_getElem (by omega)]; rfl
    have hwf := hw xs[i] (List.getElem_mem _)
    unfold Program.keyLits
    simp only [he, List.getElem_map, List.take_succ_cons, List.take_zero, hwf, and_self, if_true, hx]
  show P.keyLits (1 + 1) t _ = _
  unfold Program.keyLits
  simp only [ht]
  rw [if_pos (by rw [List.length_map, hC, hn]), h1]
  show some (List.flatten _) = some _
  refine congrArg some ?_
  subst hn
  clear h1 hw hC ht
  apply List.ext_getElem?
  intro i
  have hfl : ∀ l : List Nat, (l.map fun i => [Lit.int k (xs.getD i 0)]).flatten = l.map fun i => Lit.int k (xs.getD i 0) := by
    intro l; induction l with
    | nil => rfl
    | cons a l ih => rw [List.map_cons, List.flatten_cons, ih]; rfl
  rw [hfl, List.getElem?_map, List.getElem?_map]
  by_cases h : i < xs.length
  · rw [List.getElem?_range h, List.getElem?_eq_getElem h]
    simp [List.getD_eq_getElem?_getD, List.getElem?_eq_getElem h]
  · rw [List.getElem?_eq_none (by simpa using h), List.getElem?_eq_none (by omega)]
    rfl
theorem q_eql_arr {t e yt : TypeId} {x y : Operand} {n : Nat} {k : IntKind} (xs ys : List Int) (ht : P.underlying t = some (.array n e)) (he : P.underlying e = some (.int k)) (hc : P.cellsOf e = 1) (hC : P.cellsOf t = n) (hg : P.eqGuardType P.depth t = false)
    (hx : ev ρ x = .agg (xs.map (Value.int k)).toArray) (hy : ev ρ y = .agg (ys.map (Value.int k)).toArray) (hn : xs.length = n) (hm : ys.length = n) (hw : ∀ x ∈ xs, (Lit.int k x).wf = true) (hv : ∀ x ∈ ys, (Lit.int k x).wf = true) :
    qv P (.binOp .eql t x y yt) ty ρ w (.bool (decide (xs = ys))) := by
  have hk : P.keyTypeAt 2 t = true := by unfold Program.keyTypeAt; simp only [ht]; unfold Program.keyTypeAt; simp only [he]
  have hf : ∀ zs : List Int, zs.length = n → Value.formed P t (.agg (zs.map (Value.int k)).toArray) = true := fun zs hz => by simp [Value.formed, ht, hC, hz]
  obtain ⟨r, hr, hiff⟩ := run_equalIn_deep 9998 2 t hk w 2 2 _ _ _ _ (hf xs hn) (hf ys hm) (keyLits_ints ht he hc hC hn hw) (keyLits_ints ht he hc hC hm hv)
  have hrr : r = decide (xs = ys) := by
    rw [Bool.eq_iff_iff, hiff, decide_eq_true_eq]
    constructor
    · intro h
      have hinj : ∀ (a b : List Int), a.map (Lit.int k) = b.map (Lit.int k) → a = b := by
        intro a
        induction a with
        | nil => intro b hb; cases b with
          | nil => rfl
          | cons _ _ => cases hb
        | cons c a ih => intro b hb; cases b with
          | nil => cases hb
          | cons d b =>
            simp only [List.map_cons, List.cons.injEq, Lit.int.injEq, true_and] at hb
            rw [hb.1, ih b hb.2]
      exact hinj _ _ h
    · intro h; rw [h]
  subst hrr
  refine q_of (s := do eqGuard .eql t x y (ev ρ x) (ev ρ y); binOp .eql t (ev ρ x) (ev ρ y)) (fun _ _ _ _ => rfl) ?_
  rw [hx, hy]
  have h1 : (eqGuard .eql t x y (.agg (xs.map (Value.int k)).toArray) (.agg (ys.map (Value.int k)).toArray)).run P w = .ok () w := by simp [eqGuard, run_program, hg]
  have h2 : (binOp .eql t (.agg (xs.map (Value.int k)).toArray) (.agg (ys.map (Value.int k)).toArray)).run P w = .ok (.bool (decide (xs = ys))) w := by
    simp only [binOp]
    simp [Op.equal, Op.maxDepth, hr]
  simp [h1, h2]
end
end Go.Proofs.Ytmgobaojioaioaa
