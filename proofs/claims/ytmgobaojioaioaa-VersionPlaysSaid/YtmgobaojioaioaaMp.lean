/- Maps of the call's own, keyed by integers; rows that are only read. -/
import Derived.Test.YtmgobaojioaioaaQ
import Derived.MapKept
import Derived.WalkSpells
namespace Go.Proofs.Ytmgobaojioaioaa
open Go Go.RowKit Go.Lib
/-- a map's entries as data: the first one with a key counts -/
abbrev MpL := List (Int × Value)
def mfind (E : MpL) (key : Int) : Option Value := match E with
  | [] => none
  | (a, v) :: E => if a = key then some v else mfind E key
def mset (E : MpL) (key : Int) (u : Value) : MpL := match E with
  | [] => [(key, u)]
  | (a, v) :: E => if a = key then (key, u) :: E else (a, v) :: mset E key u
def kvs (k : IntKind) (es : List MapEntry) (E : MpL) : Prop := es.map (fun e => (e.key, e.val)) = E.map fun p => (Value.int k p.1, p.2)
def MSt (es : List MapEntry) (clock : Nat) : Prop := (∀ e ∈ es, e.born < clock) ∧ (es.map (·.born)).Nodup
def mapA (k : IntKind) (r : Nat) (E : MpL) : Asn where
  holds w F := F = [r] ∧ ∃ es clock, w.heap[r]? = some (.map es clock) ∧ kvs k es.toList E ∧ MSt es.toList clock
  loc w w' F h hk := ⟨h.1, by
    obtain ⟨es, clock, hb, rest⟩ := h.2
    exact ⟨es, clock, (hk r (by rw [h.1]; simp)).trans hb, rest⟩⟩
  lt w F h k hk := by
    obtain ⟨es, clock, hb, _⟩ := h.2
    rw [h.1] at hk
    rw [List.mem_singleton.1 hk]
    rcases Nat.lt_or_ge r w.heap.size with hlt | hge
    · exact hlt
    · rw [Array.getElem?_eq_none hge] at hb; cases hb
theorem findNow_mfind {k : IntKind} {key : Int} : ∀ (es : List MapEntry) (E : MpL) (i : Nat), kvs k es E → ∃ a, Instr.findNow (TypeDesc.int k) (Value.int k key) es i = some a ∧ a.map (·.2) = mfind E key ∧ (∀ j v, a = some (j, v) → ∃ q, j = i + q ∧ q < es.length ∧ (es[q]?).map (·.key) = some (.int k key))
  | [], E, i, h => by
    cases E with
    | nil => exact ⟨none, rfl, rfl, fun _ _ h => by cases h⟩
    | cons p E => simp [kvs] at h
  | e :: es, E, i, h => by
    cases E with
    | nil => simp [kvs] at h
    | cons p E =>
      simp only [kvs, List.map_cons, List.cons.injEq, Prod.mk.injEq] at h
      obtain ⟨⟨hk, hv⟩, hr⟩ := h
      obtain ⟨pk, pv⟩ := p
      by_cases hp : pk = key
      · subst hp
        refine ⟨some (i, e.val), by simp [Instr.findNow, Instr.sameNow, hk], by simp only [mfind, if_true]; rw [show e.val = pv from hv]; rfl, fun j v hj => ⟨0, ?_, by simp, by simp [hk]⟩⟩
        injection hj with hj
        injection hj with h1 _
        omega
      · obtain ⟨a, h1, h2, h3⟩ := findNow_mfind (key := key) es E (i + 1) hr
        have hne : (key == pk) = false := by simpa using fun h => hp h.symm
        refine ⟨a, by simp [Instr.findNow, Instr.sameNow, hk, hne, h1], by simp only [mfind, if_neg hp]; exact h2, fun j v hj => ?_⟩
        obtain ⟨q, hq, hl, hkey⟩ := h3 j v hj
        exact ⟨q + 1, by omega, by simpa using hl, by simpa using hkey⟩
section
variable {P : Program} {ρ : Env} {W w : World} {L R : List Asn} {ty : TypeId}
theorem St.map {k : IntKind} {r : Nat} {E : MpL} (hS : St W w L) (pk : Pick L (mapA k r E) R) : ∃ es clock, w.heap[r]? = some (.map es clock) ∧ kvs k es.toList E ∧ MSt es.toList clock := by
  obtain ⟨F, hx, _⟩ := hS.get pk; exact hx.2
theorem q_lookup {t kt et : TypeId} {x i : Operand} {ok : Bool} {k : IntKind} {r : Nat} {E : MpL} {key : Int} {z : Value} (ht : P.underlying t = some (.map kt et)) (hk : P.underlying kt = some (.int k)) (hz : ∀ w, (zeroValue et).run P w = .ok z w)
    (hS : St W w L) (pk : Pick L (mapA k r E) R) (hx : ev ρ x = .map (some r)) (hi : ev ρ i = .int k key) :
    qv P (.lookup t x i ok) ty ρ w (if ok then .tuple #[(mfind E key).getD z, .bool (mfind E key).isSome] else (mfind E key).getD z) := by
  obtain ⟨es, clock, hb, hkv, _⟩ := hS.map pk
  obtain ⟨a, h1, h2, _⟩ := findNow_mfind es.toList E 0 hkv (key := key)
  refine q_of _ (fun _ _ _ _ => rfl) ?_
  have hf := Go.MapKept.run_findKey (w := w) hk h1
  have hc := Go.MapKept.run_checkKey (P := P) (w := w) (k := .int k key) hk (by simp [Go.MapKept.IsKey]) es.isEmpty 9999
  simp only [hx, hi, Instr.lookup, Sem.run_bind, run_underlying ht, Result.andThen_ok, Go.MapKept.run_getObj_map hb, hc, hf, Sem.run_pure]
  rw [← h2]
  cases a with
  | none => cases ok <;> simp [hz]
  | some p => cases ok <;> simp
theorem q_len_map {t u kt et : TypeId} {x : Operand} {k : IntKind} {r : Nat} {E : MpL} (ht : P.underlying t = some (.map kt et)) (hS : St W w L) (pk : Pick L (mapA k r E) R) (hx : ev ρ x = .map (some r)) :
    qv P (.call ⟨.builtin .len, #[x], #[t]⟩) u ρ w (.int .i64 (E.length : Int)) := by
  obtain ⟨es, clock, hb, hkv, _⟩ := hS.map pk
  have hl : es.size = E.length := by have := congrArg List.length hkv; simpa using this
  intro dst pos af g
  simp [execOp, resolve, invoke, builtin, hx, Builtin.len_, run_underlying ht, Go.MapKept.run_getObj_map hb, hl, goInt]
theorem q_eql_map_nil {t yt kt et : TypeId} {x y : Operand} {r : Option Nat} (ht : P.underlying t = some (.map kt et)) (hx : ev ρ x = .map r) (hy : ev ρ y = .map none) : qv P (.binOp .eql t x y yt) ty ρ w (.bool r.isNone) := by
  refine q_eql_of hx hy (by cases r <;> simp [eqGuard]) (by cases r <;> rfl) (run_equal fun d => ?_)
  simp only [Op.equalIn, Sem.run_bind, run_underlying ht, Result.andThen_ok]
  cases r <;> rfl
end
section
variable {P : Program} {all : Array Oper} {ρ : Env} {W w : World} {L R : List Asn} {N : Env → World → Prop} {rest : List Oper}
theorem t_makeMap {t ty : TypeId} {k : IntKind} {d : Tmp} {p : String} {af : Array Edge} (hS : St W w L) (h : ∀ r w', St W w' (mapA k r [] :: L) → textE P all rest (up ρ d (.map (some r))) w' N) :
    textE P all (⟨some d, .makeMap t none, ty, p, af, none⟩ :: rest) ρ w N := by
  refine t_val (w' := w.alloc (.map #[] 0)) (v := .map (some w.heap.size)) (fun dst pos af gd => ?_) (h _ _ ?_)
  · simp [execOp, Instr.makeMap, Sem.run, newObj]
  · exact hS.add (Fr.alloc _ _ _) (F := [w.heap.size]) ⟨rfl, #[], 0, heap_alloc_new w _, rfl, fun _ h => by simp at h, by simp⟩ (fun k hk => by have := List.mem_singleton.1 hk; omega)
end
theorem modify_born {f : MapEntry → MapEntry} (hf : ∀ e, (f e).born = e.born) : ∀ (es : List MapEntry) (q : Nat), (es.modify q f).map (·.born) = es.map (·.born)
  | [], q => by cases q <;> simp
  | e :: es, 0 => by simp [hf]
  | e :: es, q + 1 => by simp [modify_born hf es q]
theorem findNow_set {k : IntKind} {key : Int} : ∀ (es : List MapEntry) (E : MpL) (i : Nat) (a : Option (Nat × Value)), kvs k es E → Instr.findNow (TypeDesc.int k) (Value.int k key) es i = some a →
    (a = none → (∀ (u : Value) (b : Nat), kvs k (es ++ [⟨.int k key, u, b⟩]) (mset E key u)) ∧ mfind E key = none) ∧
    (∀ j v, a = some (j, v) → ∃ q, j = i + q ∧ (∃ e, es[q]? = some e ∧ e.key = .int k key) ∧ ∀ u, kvs k (es.modify q fun e => { e with key := .int k key, val := u }) (mset E key u))
  | [], E, i, a, h, ha => by
    cases E with
    | nil =>
      have : a = none := by simpa [Instr.findNow] using ha.symm
      subst this
      exact ⟨fun _ => ⟨fun u b => rfl, rfl⟩, fun _ _ h => by cases h⟩
    | cons p E => simp [kvs] at h
  | e :: es, E, i, a, h, ha => by
    cases E with
    | nil => simp [kvs] at h
    | cons p E =>
      simp only [kvs, List.map_cons, List.cons.injEq, Prod.mk.injEq] at h
      obtain ⟨⟨hk, hv⟩, hr⟩ := h
      obtain ⟨pk, pv⟩ := p
      replace hk : e.key = Value.int k pk := hk
      replace hv : e.val = pv := hv
      by_cases hp : pk = key
      · subst hp
        have : a = some (i, e.val) := by simpa [Instr.findNow, Instr.sameNow, hk] using ha.symm
        subst this
        refine ⟨(fun h => by cases h), fun j v hj => ⟨0, ?_, ⟨e, rfl, hk⟩, fun u => ?_⟩⟩
        · injection hj with hj
          injection hj with h1 _
          omega
        · simp only [kvs, mset, if_true, List.modify_zero_cons, List.map_cons]
          rw [hr]
      · have hne : (key == pk) = false := by simpa using fun h => hp h.symm
        have ha' : Instr.findNow (TypeDesc.int k) (Value.int k key) es (i + 1) = some a := by simpa [Instr.findNow, Instr.sameNow, hk, hne] using ha
        obtain ⟨h1, h2⟩ := findNow_set es E (i + 1) a hr ha'
        refine ⟨fun hn => ⟨fun u b => ?_, by simp only [mfind, if_neg hp]; exact (h1 hn).2⟩, fun j v hj => ?_⟩
        · have := (h1 hn).1 u b
          simp only [kvs, mset, if_neg hp, List.cons_append, List.map_cons] at this ⊢
          rw [this, hk, hv]
        · obtain ⟨q, hq, hl, hu⟩ := h2 j v hj
          refine ⟨q + 1, by omega, by simpa using hl, fun u => ?_⟩
          have := hu u
          simp only [kvs, mset, if_neg hp, List.modify_succ_cons, List.map_cons] at this ⊢
          rw [this, hk, hv]
theorem same_key {k : IntKind} {n : Int} : Instr.sameBits 10000 (.int k n) (.int k n) = true := by simp [Instr.sameBits]
theorem push_MSt {es : List MapEntry} {clock : Nat} {key val : Value} (h : MSt es clock) : MSt (es ++ [⟨key, val, clock⟩]) (clock + 1) := by
  refine ⟨fun e he => ?_, ?_⟩
  · rcases List.mem_append.1 he with he | he
    · have := h.1 e he; omega
    · rw [List.mem_singleton.1 he]; exact Nat.lt_succ_self _
  · rw [List.map_append, List.nodup_append]
    refine ⟨h.2, by simp, fun a ha b hb => ?_⟩
    obtain ⟨e, he, rfl⟩ := List.mem_map.1 ha
    have := h.1 e he
    have hb' : b = clock := by simpa using hb
    omega
section
variable {P : Program} {all : Array Oper} {ρ : Env} {W w : World} {L R : List Asn} {N : Env → World → Prop} {rest : List Oper}
theorem set_map {k : IntKind} {r : Nat} {E E' : MpL} {es es' : Array MapEntry} {clock clock' : Nat} (hS : St W w L) (pk : Pick L (mapA k r E) R) (hb : w.heap[r]? = some (.map es clock)) (hkv : kvs k es'.toList E') (hm : MSt es'.toList clock') :
    St W { w with heap := w.heap.setIfInBounds r (.map es' clock') } (mapA k r E' :: R) := by
  obtain ⟨h1, h2⟩ := MapKept.heap_set (o' := .map es' clock') hb
  refine (hS.pick pk).upd fun F hF => ?_
  have hF1 := hF.1
  subst hF1
  exact ⟨⟨rfl, rfl, rfl, by simp, fun q hq hn => h2 q (by simpa using hn)⟩, [r], ⟨rfl, es', clock', h1, hkv, hm⟩, fun _ h => .inl h⟩
theorem t_mapUpdate {t kt et ty : TypeId} {x y z : Operand} {k : IntKind} {r : Nat} {E : MpL} {key : Int} {u : Value} {d : Option Tmp} {p : String} {af : Array Edge} (ht : P.underlying t = some (.map kt et)) (hk : P.underlying kt = some (.int k))
    (hS : St W w L) (pk : Pick L (mapA k r E) R) (hx : ev ρ x = .map (some r)) (hy : ev ρ y = .int k key) (hz : ev ρ z = u)
    (h : ∀ w', St W w' (mapA k r (mset E key u) :: R) → textE P all rest (putE ρ d undef) w' N) : textE P all (⟨d, .mapUpdate t x y z, ty, p, af, none⟩ :: rest) ρ w N := by
  obtain ⟨es, clock, hb, hkv, hm⟩ := hS.map pk
  obtain ⟨a, h1, _, _⟩ := findNow_mfind es.toList E 0 hkv (key := key)
  obtain ⟨hn, hs⟩ := findNow_set es.toList E 0 a hkv h1
  have hf := Go.MapKept.run_findKey (w := w) hk h1
  have hc := Go.MapKept.run_checkKey (P := P) (w := w) (k := .int k key) hk (by simp [Go.MapKept.IsKey]) false 9999
  cases a with
  | none =>
    refine t_skip (w' := { w with heap := w.heap.setIfInBounds r (.map (es.push ⟨.int k key, u, clock⟩) (clock + 1)) }) (fun dst pos af gd => ?_) (h _ (set_map hS pk hb (by rw [Array.toList_push]; exact (hn rfl).1 u clock) (by rw [Array.toList_push]; exact push_MSt hm)))
    simp [execOp, Instr.mapUpdate, hx, hy, hz, run_underlying ht, Go.MapKept.run_getObj_map hb, hc, hf, Go.MapKept.run_setObj_map _ hb]
  | some jv =>
    obtain ⟨j, v⟩ := jv
    obtain ⟨q, hq, ⟨e, he, hek⟩, hu⟩ := hs j v rfl
    have hj : j = q := by omega
    subst hj
    have hkk : ((es[j]?).map (·.key)).getD (.int k key) = .int k key := by
      rw [← Array.getElem?_toList, he]; exact hek
    refine t_skip (w' := { w with heap := w.heap.setIfInBounds r (.map (es.modify j fun e => { e with key := .int k key, val := u }) clock) }) (fun dst pos af gd => ?_) (h _ (set_map hS pk hb (by rw [Array.toList_modify]; exact hu u) ?_))
    · simp [execOp, Instr.mapUpdate, Instr.keyThatStays, hkk, same_key, hx, hy, hz, run_underlying ht, Go.MapKept.run_getObj_map hb, hc, hf, Go.MapKept.run_setObj_map _ hb]
    · rw [Array.toList_modify]
      have hbo := modify_born (f := fun e => { e with key := .int k key, val := u }) (fun _ => rfl) es.toList j
      refine ⟨fun x hx => ?_, by rw [hbo]; exact hm.2⟩
      have hx' : x.born ∈ (es.toList.modify j fun e => { e with key := .int k key, val := u }).map (·.born) := List.mem_map_of_mem hx
      rw [hbo] at hx'
      obtain ⟨y, hy, hyb⟩ := List.mem_map.1 hx'
      rw [← hyb]; exact hm.1 y hy
end
section
variable {P : Program} {all : Array Oper} {ρ : Env} {W w : World} {L R : List Asn} {N : Env → World → Prop} {rest : List Oper}
end
/-- rows that are only read -/
structure RdP where
  size : Nat
  A : Option Addr
  n : Nat
  f : Nat → List Value
def RdP.ok (w : World) (F : List Nat) (p : RdP) : Prop := Rd w p.size p.A p.n p.f ∧ (0 < p.n → ∀ a, p.A = some a → a.block ∈ F)
def rdsA (l : List RdP) : Asn where
  holds w F := (∀ k ∈ F, k < w.heap.size) ∧ ∀ p ∈ l, p.ok w F
  loc w w' F h hk := by
    have hlt : ∀ k ∈ F, k < w'.heap.size := fun k hkF => by
      have h1 := h.1 k hkF
      have h2 := hk k hkF
      rcases Nat.lt_or_ge k w'.heap.size with h3 | h3
      · exact h3
      · rw [Array.getElem?_eq_none h3, Array.getElem?_eq_getElem h1] at h2; cases h2
    refine ⟨hlt, fun p hp => ?_⟩
    obtain ⟨hr, hF⟩ := h.2 p hp
    refine ⟨fun hn => ?_, hF⟩
    obtain ⟨ad, hA, hl, hc⟩ := hr hn
    have hb := hF hn ad hA
    refine ⟨ad, hA, hlt _ hb, fun i hi => ⟨(hc i hi).1, fun j v hv => ?_⟩⟩
    have := (hc i hi).2 j v hv
    have hbl : ((ad.add (i * p.size)).add j).block = ad.block := by rw [add_block, add_block]
    rw [← this]
    unfold World.cell?
    rw [hbl, hk _ hb]
  lt w F h k hk := h.1 k hk
section
variable {W w : World} {L R : List Asn}
theorem St.rds0 (hS : St W w L) : St W w (rdsA [] :: L) := hS.add (Fr.refl _ _) (F := []) ⟨(fun _ h => by cases h), fun _ h => by cases h⟩ (fun _ h => by cases h)
theorem St.rds_add {t : TypeId} {size n c : Nat} {A : Option Addr} {xs : List Value} {f : Nat → List Value} {l : List RdP} (hS : St W w (rowA t size A n c xs :: rdsA l :: R)) (hr : Rd w size A n f) : St W w (rdsA (⟨size, A, n, f⟩ :: l) :: R) := by
  have h := hS.unstar
  refine h.upd fun F hF => ?_
  obtain ⟨F1, F2, e, h1, h2, _⟩ := hF
  refine ⟨Fr.refl _ _, F, ⟨fun k hk => ?_, fun p hp => ?_⟩, fun k hk => .inl hk⟩
  · rw [e] at hk
    rcases List.mem_append.1 hk with hk | hk
    · exact (rowA t size A n c xs).lt w F1 h1 k hk
    · exact h2.1 k hk
  · rcases List.mem_cons.1 hp with hp | hp
    · subst hp
      exact ⟨hr, fun _ a ha => by
        rw [e]
        refine List.mem_append_left _ ?_
        rw [h1.1]
        simp only at ha
        rw [ha]
        simp⟩
    · obtain ⟨h3, h4⟩ := h2.2 p hp
      exact ⟨h3, fun hn a ha => by rw [e]; exact List.mem_append_right _ (h4 hn a ha)⟩
theorem St.rds_sub {l l' : List RdP} (hS : St W w (rdsA l :: R)) (h : ∀ p ∈ l', p ∈ l) : St W w (rdsA l' :: R) :=
  hS.upd fun F hF => ⟨Fr.refl _ _, F, ⟨hF.1, fun p hp => hF.2 p (h p hp)⟩, fun k hk => .inl hk⟩
theorem St.rds {l : List RdP} {p : RdP} (hS : St W w L) (pk : Pick L (rdsA l) R) (hp : p ∈ l) : Rd w p.size p.A p.n p.f := by
  obtain ⟨F, hx, _⟩ := hS.get pk
  exact (hx.2 p hp).1
end
end Go.Proofs.Ytmgobaojioaioaa
