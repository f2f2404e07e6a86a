/- Integer operations kind by kind, where nothing wraps; more steps of a walk. Printed by mkW2.py. -/
import Derived.Test.YtcgagmojgjbfpaaDoorH1
namespace Go.Proofs.YtcgagmojgjbfpaaDoor
open Go Go.RowKit
section
variable {P : Program} {ρ : Env} {w : World} {ty : TypeId} {t yt : TypeId} {x y : Operand} {a b : Int}
theorem wrap_i64 {n : Int} (h : -9223372036854775808 ≤ n ∧ n ≤ 9223372036854775807) : IntKind.i64.wrap n = n := by
  simp only [IntKind.wrap, IntKind.bits, IntKind.signed]
  simp
  omega
theorem q_add_i64 (hx : ev ρ x = .int .i64 a) (hy : ev ρ y = .int .i64 b) (h : -9223372036854775808 ≤ a + b ∧ a + b ≤ 9223372036854775807) : qv P (.binOp .add t x y yt) ty ρ w (.int .i64 (a + b)) := q_cast (q_add hx hy) (by rw [wrap_i64 h])
theorem q_sub_i64 (hx : ev ρ x = .int .i64 a) (hy : ev ρ y = .int .i64 b) (h : -9223372036854775808 ≤ a - b ∧ a - b ≤ 9223372036854775807) : qv P (.binOp .sub t x y yt) ty ρ w (.int .i64 (a - b)) := q_cast (q_sub hx hy) (by rw [wrap_i64 h])
theorem wrap_u64 {n : Int} (h : 0 ≤ n ∧ n ≤ 18446744073709551615) : IntKind.u64.wrap n = n := by
  simp only [IntKind.wrap, IntKind.bits, IntKind.signed]
  simp
  omega
theorem q_add_u64 (hx : ev ρ x = .int .u64 a) (hy : ev ρ y = .int .u64 b) (h : 0 ≤ a + b ∧ a + b ≤ 18446744073709551615) : qv P (.binOp .add t x y yt) ty ρ w (.int .u64 (a + b)) := q_cast (q_add hx hy) (by rw [wrap_u64 h])
theorem q_conv_u64 {s d : TypeId} {k' : IntKind} {ds : TypeDesc} (hs : ∀ w, (underlying s).run P w = .ok ds w) (hd : ∀ w, (underlying d).run P w = .ok (.int .u64) w) (hx : ev ρ x = .int k' a) (h : 0 ≤ a ∧ a ≤ 18446744073709551615) : qv P (.convert s d x) ty ρ w (.int .u64 a) := q_cast (q_conv hs hd hx) (by rw [wrap_u64 h])
theorem wrapm_u64 (n : Int) : IntKind.u64.wrap n = n % 18446744073709551616 := by simp [IntKind.wrap, IntKind.bits, IntKind.signed]
theorem q_convm_u64 {s d : TypeId} {k' : IntKind} {ds : TypeDesc} (hs : ∀ w, (underlying s).run P w = .ok ds w) (hd : ∀ w, (underlying d).run P w = .ok (.int .u64) w) (hx : ev ρ x = .int k' a) : qv P (.convert s d x) ty ρ w (.int .u64 (a % 18446744073709551616)) := q_cast (q_conv hs hd hx) (by rw [wrapm_u64])
theorem wrap_u8 {n : Int} (h : 0 ≤ n ∧ n ≤ 255) : IntKind.u8.wrap n = n := by
  simp only [IntKind.wrap, IntKind.bits, IntKind.signed]
  simp
  omega
theorem q_conv_u8 {s d : TypeId} {k' : IntKind} {ds : TypeDesc} (hs : ∀ w, (underlying s).run P w = .ok ds w) (hd : ∀ w, (underlying d).run P w = .ok (.int .u8) w) (hx : ev ρ x = .int k' a) (h : 0 ≤ a ∧ a ≤ 255) : qv P (.convert s d x) ty ρ w (.int .u8 a) := q_cast (q_conv hs hd hx) (by rw [wrap_u8 h])
theorem q_quo_n {k : IntKind} (hx : ev ρ x = .int k a) (hy : ev ρ y = .int k b) (hb : 0 < b) (ha : 0 ≤ a) (hr : k.wrap (a / b) = a / b) : qv P (.binOp .quo t x y yt) ty ρ w (.int k (a / b)) :=
  q_cast (q_quo hx hy (by omega)) (by rw [Int.tdiv_eq_ediv_of_nonneg ha, hr])
theorem q_rem_n {k : IntKind} (hx : ev ρ x = .int k a) (hy : ev ρ y = .int k b) (hb : 0 < b) (ha : 0 ≤ a) : qv P (.binOp .rem t x y yt) ty ρ w (.int k (a % b)) :=
  q_cast (q_rem hx hy (by omega)) (by rw [Int.tmod_eq_emod_of_nonneg ha])
end
section
variable {P : Program} {all : Array Oper} {ρ : Env} {W w : World} {N : Env → World → Prop} {X : Nat → Env → World → Prop} {R' : Env → World → Prop} {rest : List Oper} {L R : List Asn}
/-- an element's address, of a slice that reads -/
theorem t_index {t e : TypeId} {x i : Operand} {ty : TypeId} {d : Tmp} {p : String} {af : Array Edge} {A : Option Addr} {n c size : Nat} {k : IntKind} {m : Int} {f : Nat → List Value} (ht : ∀ w, (underlying t).run P w = .ok (.slice e) w) (hz : ∀ w, (sizeOf e).run P w = .ok size w)
    (hr : Rd w size A n f) (hx : ev ρ x = .slice A n c) (hi : ev ρ i = .int k m) (hb : 0 ≤ m ∧ m < n)
    (h : ∀ ad : Addr, (f m.toNat).length = size → (∀ j v, (f m.toNat)[j]? = some v → w.cell? ((ad.add (m.toNat * size)).add j) = some v) → textE P all rest (up ρ d (.pointer (some (ad.add (m.toNat * size))))) w N) :
    textE P all (⟨some d, .indexAddr t x i, ty, p, af, none⟩ :: rest) ρ w N := by
  obtain ⟨ad, rfl, hl, hc⟩ := hr.at_ (i := m.toNat) (by omega)
  exact t_q (q_indexAddr ht hz hx hi hb) (h ad hl hc)
theorem info_of {t : TypeId} {i : TypeInfo} (h : P.types[t]? = some i) : P.info? t = some i := by
  have hlt := (Array.getElem?_eq_some_iff.1 h).1
  rw [← h]
  simp [Tables.info?, hlt]
/-- numbers in a slice -/
def isf (k : IntKind) (ns : List Int) (i : Nat) : List Value := [.int k (ns.getD i 0)]
def RdI (w : World) (k : IntKind) (A : Option Addr) (ns : List Int) : Prop := Rd w 1 A ns.length (isf k ns)
theorem St.rowInts (h : St W w L) {e : TypeId} {A : Option Addr} {n c : Nat} {k : IntKind} {ns : List Int} (pk : Pick L (rowA e 1 A n c (ns.map (Value.int k))) R) (hn : n = ns.length) : RdI w k A ns := by
  subst hn
  refine own_rd (h.row pk) (fun i _ => rfl) (fun i j hi hj => ?_)
  have : j = 0 := by omega
  subst this
  simp [isf, List.getD_eq_getElem?_getD, List.getElem?_eq_getElem hi]
/-- parts of a struct, or of an array, laid at their places -/
def PlacesOk (P : Program) : List Field → List (Nat × Nat) → Prop
  | [], [] => True
  | f :: fs, q :: qs => f.offset = q.1 ∧ (∀ w, (sizeOf f.type).run P w = .ok q.2 w) ∧ PlacesOk P fs qs
  | _, _ => False
def placeOf (f : Field) : Sem (Nat × Nat) := do pure (f.offset, ← sizeOf f.type)
theorem run_places (fs : List Field) : ∀ (qs : List (Nat × Nat)), PlacesOk P fs qs → ∀ w, (fs.mapM placeOf).run P w = .ok qs w := by
  induction fs with
  | nil => intro qs h w; cases qs with
    | nil => rfl
    | cons q qs => exact h.elim
  | cons f fs ih =>
    intro qs h w
    cases qs with
    | nil => exact h.elim
    | cons q qs =>
      obtain ⟨h1, h2, h3⟩ := h
      have e : (placeOf f).run P w = .ok q w := by unfold placeOf; simp [h2, h1]
      simp only [List.mapM_cons]
      simp [e, ih qs h3]
def fillL (qs : List (Nat × Nat)) (cs : List Value) : List (Nat × Value) → List Value
  | [] => cs
  | (i, v) :: rest => fillL qs (setN cs ((qs[i]?.map (·.1)).getD 0) v.cells.toList) rest
def fillOk (qs : List (Nat × Nat)) (len : Nat) (ps : List (Nat × Value)) : Bool := ps.all fun p => match qs[p.1]? with | some q => Nat.beq p.2.cells.toList.length q.2 && Nat.ble (q.1 + q.2) len | none => false
theorem setN_foldl (l : List Value) : ∀ (off j : Nat) (cs : List Value), (l.zipIdx j).foldl (fun cs (c, j) => cs.setIfInBounds (off + j) c) cs.toArray = (setN cs (off + j) l).toArray := by
  induction l with
  | nil => intro off j cs; rfl
  | cons v l ih =>
    intro off j cs
    simp only [List.zipIdx_cons, List.foldl_cons, setN]
    have := ih off (j + 1) (cs.set (off + j) v)
    simpa [Nat.add_assoc] using this
theorem fill_eq {place : Nat → Option (Nat × Nat)} (qs : List (Nat × Nat)) (ps : List (Nat × Value)) (hpl : ∀ p ∈ ps, place p.1 = qs[p.1]?) : ∀ (cs : List Value), fillOk qs cs.length ps = true → Instr.fill place cs.toArray ps = some (fillL qs cs ps).toArray := by
  induction ps with
  | nil => intro cs _; rfl
  | cons p ps ih =>
    intro cs h
    obtain ⟨i, v⟩ := p
    simp only [fillOk, List.all_cons, Bool.and_eq_true] at h
    obtain ⟨h1, h2⟩ := h
    have hp := hpl (i, v) List.mem_cons_self
    simp only at hp h1
    cases hq : qs[i]? with
    | none => rw [hq] at h1; cases h1
    | some q =>
      rw [hq] at h1 hp
      simp only [Bool.and_eq_true] at h1
      have e1 : v.cells.size = q.2 := by rw [← Array.length_toList]; exact Nat.eq_of_beq_eq_true h1.1
      have e2 : q.1 + q.2 ≤ cs.length := Nat.le_of_ble_eq_true h1.2
      simp only [Instr.fill, hp, fillL, hq, Option.map_some, Option.getD_some]
      rw [if_neg (by rw [e1]; simp; omega)]
      have hset : v.cells.zipIdx.foldl (fun cs (c, j) => cs.setIfInBounds (q.1 + j) c) cs.toArray = (setN cs q.1 v.cells.toList).toArray := by
        rw [← Array.foldl_toList]
        have := setN_foldl v.cells.toList q.1 0 cs
        simpa [Array.toList_zipIdx] using this
      rw [hset]
      refine ih (fun p hp' => hpl p (List.mem_cons_of_mem _ hp')) _ ?_
      rw [setN_length]
      exact h2
theorem q_build {t : TypeId} {parts : Array (Nat × Operand)} {ty : TypeId} {fs : Array Field} {zs : List Value} {qs : List (Nat × Nat)} (cs : List Value) (hz : ∀ w, (zeroValue t).run P w = .ok (.agg zs.toArray) w) (hu : ∀ w, (underlying t).run P w = .ok (.struct fs) w)
    (hq : PlacesOk P fs.toList qs) (hok : fillOk qs zs.length (parts.toList.map fun q => (q.1, ev ρ q.2)) = true) (hcs : fillL qs zs (parts.toList.map fun q => (q.1, ev ρ q.2)) = cs) : qv P (.build t parts) ty ρ w (.agg cs.toArray) := by
  refine q_of _ (fun _ _ _ _ => rfl) ?_
  have hp : (parts.map fun (i, x) => (i, ev ρ x)).toList = parts.toList.map fun q => (q.1, ev ρ q.2) := by simp
  have hpl : ∀ w, (fs.mapM placeOf).run P w = .ok qs.toArray w := by
    intro w
    have h1 := run_places fs.toList qs hq w
    rw [Array.mapM_eq_mapM_toList]
    simp [h1]
  have e0 : (fun f : Field => (do pure (f.offset, ← sizeOf f.type) : Sem (Nat × Nat))) = placeOf := rfl
  have hf : Instr.fill (qs.toArray[·]?) (zs.toArray) (parts.toList.map fun q => (q.1, ev ρ q.2)) = some cs.toArray := by
    rw [← hcs]; exact fill_eq qs _ (fun p _ => by simp) zs hok
  simp only [Instr.build, Sem.run_bind, hz, Result.andThen_ok, hu, e0, hpl, hp]
  simp only [Value.cells]
  rw [hf]
  rfl
/-- what a slot holds is laid open -/
theorem c_know {c : Code} (s : Nat) {v : Value} (h : ρ s = v) (hw : wpE P c (up ρ s v) w N X R') : wpE P c ρ w N X R' := by
  have e : up ρ s v = ρ := by
    funext u
    show (bif Nat.beq u s then v else ρ u) = ρ u
    cases hq : Nat.beq u s with
    | false => rfl
    | true => have := Nat.eq_of_beq_eq_true hq; subst this; exact h.symm
  rwa [e] at hw
theorem r_one {rs : Array ResultVar} {K : Value → Prop} {r : ResultVar} {v : Value} (hr : rs = #[r]) (h1 : res1 P ρ w r v) (h : K v) : resE P rs ρ w K := by subst hr; exact ⟨v, h1, h⟩
end
end Go.Proofs.YtcgagmojgjbfpaaDoor
