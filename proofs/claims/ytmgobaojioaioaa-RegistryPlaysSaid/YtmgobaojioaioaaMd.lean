/- Maps: an entry taken away; a map cloned; a type assertion that holds. -/
import Derived.Test.YtmgobaojioaioaaMp
import Derived.Test.YtmgobaojioaioaaIf
import Derived.Laws.Externs
namespace Go.Proofs.Ytmgobaojioaioaa
open Go Go.RowKit Go.Lib
def mdel (E : MpL) (key : Int) : MpL := match E with
  | [] => []
  | (a, v) :: E => if a = key then E else (a, v) :: mdel E key
theorem erase_sub {es : Array MapEntry} {i : Nat} : (es.eraseIdxIfInBounds i).toList.Sublist es.toList := by
  unfold Array.eraseIdxIfInBounds
  split
  · simp only [Array.toList_eraseIdx]; exact List.eraseIdx_sublist _ _
  · exact List.Sublist.refl _
theorem erase_MSt {es : Array MapEntry} {clock i : Nat} (h : MSt es.toList clock) : MSt (es.eraseIdxIfInBounds i).toList clock :=
  ⟨fun e he => h.1 e (erase_sub.subset he), h.2.sublist (erase_sub.map _)⟩
theorem findNow_del {k : IntKind} {key : Int} : ∀ (es : List MapEntry) (E : MpL) (i : Nat) (a : Option (Nat × Value)), kvs k es E → Instr.findNow (TypeDesc.int k) (Value.int k key) es i = some a →
    (a = none → mdel E key = E) ∧ (∀ j v, a = some (j, v) → ∃ q, j = i + q ∧ q < es.length ∧ kvs k (es.eraseIdx q) (mdel E key))
  | [], E, i, a, h, ha => by
    cases E with
    | nil =>
      have : a = none := by simpa [Instr.findNow] using ha.symm
      subst this
      exact ⟨fun _ => rfl, fun _ _ h => by cases h⟩
    | cons p E => simp [kvs] at h
  | e :: es, E, i, a, h, ha => by
    cases E with
    | nil => simp [kvs] at h
    | cons p E =>
      simp only [kvs, List.map_cons, List.cons.injEq, Prod.mk.injEq] at h
      obtain ⟨⟨hk, hv⟩, hr⟩ := h
      obtain ⟨pk, pv⟩ := p
      replace hk : e.key = Value.int k pk := hk
      replace hv : e.val = pv := hv
      by_cases hp : pk = key
      · subst hp
        have : a = some (i, e.val) := by simpa [Instr.findNow, Instr.sameNow, hk] using ha.symm
        subst this
        refine ⟨(fun h => by cases h), fun j v hj => ⟨0, ?_, by simp, ?_⟩⟩
        · injection hj with hj
          injection hj with h1 _
          omega
        · simp only [mdel, if_true, List.eraseIdx_cons_zero]
          exact hr
      · have hne : (key == pk) = false := by simpa using fun h => hp h.symm
        have ha' : Instr.findNow (TypeDesc.int k) (Value.int k key) es (i + 1) = some a := by simpa [Instr.findNow, Instr.sameNow, hk, hne] using ha
        obtain ⟨h1, h2⟩ := findNow_del es E (i + 1) a hr ha'
        refine ⟨fun hn => by simp only [mdel, if_neg hp]; rw [h1 hn], fun j v hj => ?_⟩
        obtain ⟨q, hq, hl, hu⟩ := h2 j v hj
        refine ⟨q + 1, by omega, by simpa using hl, ?_⟩
        simp only [kvs, mdel, if_neg hp, List.eraseIdx_cons_succ, List.map_cons] at hu ⊢
        rw [hu, hk, hv]
section
variable {P : Program} {all : Array Oper} {ρ : Env} {W w : World} {L R : List Asn} {N : Env → World → Prop} {rest : List Oper}
theorem t_delete {t kt et ty : TypeId} {x y : Operand} {k : IntKind} {r : Nat} {E : MpL} {key : Int} {d : Option Tmp} {p : String} {af : Array Edge} (ht : P.underlying t = some (.map kt et)) (hk : P.underlying kt = some (.int k))
    (hS : St W w L) (pk : Pick L (mapA k r E) R) (hx : ev ρ x = .map (some r)) (hy : ev ρ y = .int k key)
    (h : ∀ w', St W w' (mapA k r (mdel E key) :: R) → textE P all rest (putE ρ d (.tuple #[])) w' N) : textE P all (⟨d, .call ⟨.builtin .delete, #[x, y], #[t, kt]⟩, ty, p, af, none⟩ :: rest) ρ w N := by
  obtain ⟨es, clock, hb, hkv, hm⟩ := hS.map pk
  obtain ⟨a, h1, _, _⟩ := findNow_mfind es.toList E 0 hkv (key := key)
  obtain ⟨hn, hs⟩ := findNow_del es.toList E 0 a hkv h1
  have hf := Go.MapKept.run_findKey (w := w) hk h1
  have hc := Go.MapKept.run_checkKey (P := P) (w := w) (k := .int k key) hk (by simp [Go.MapKept.IsKey]) es.isEmpty 9999
  cases a with
  | none =>
    refine t_val (w' := { w with heap := w.heap.setIfInBounds r (.map es clock) }) (fun dst pos af gd => ?_) (h _ (set_map hS pk hb (by rw [hn rfl]; exact hkv) hm))
    simp [execOp, resolve, invoke, builtin, Builtin.delete_, hx, hy, run_underlying ht, Go.MapKept.run_getObj_map hb, hc, hf, Go.MapKept.run_setObj_map _ hb]
  | some jv =>
    obtain ⟨j, v⟩ := jv
    obtain ⟨q, hq, hl, hu⟩ := hs j v rfl
    have hj : j = q := by omega
    subst hj
    refine t_val (w' := { w with heap := w.heap.setIfInBounds r (.map (es.eraseIdxIfInBounds j) clock) }) (fun dst pos af gd => ?_) (h _ (set_map hS pk hb ?_ (erase_MSt hm)))
    · simp [execOp, resolve, invoke, builtin, Builtin.delete_, hx, hy, run_underlying ht, Go.MapKept.run_getObj_map hb, hc, hf, Go.MapKept.run_setObj_map _ hb]
    · have hl' : j < es.size := by simpa using hl
      unfold Array.eraseIdxIfInBounds
      rw [dif_pos hl', Array.toList_eraseIdx]
      exact hu
theorem run_mclone {r : Nat} {es : Array MapEntry} {clock : Nat} (t : TypeId) (hb : w.heap[r]? = some (.map es clock)) :
    (Extern.MapsClone.clone #[.iface t (.map (some r))]).run P w = .ok (.iface t (.map (some w.heap.size))) (w.alloc (.map es clock)) := by
  have e : Extern.MapsClone.clone #[.iface t (.map (some r))] = (getObj r >>= fun o => match o with
      | .map entries clock => (newObj (.map entries clock) >>= fun n => pure (.iface t (.map (some n))))
      | _ => stuck "maps.clone: a map expected") := rfl
  rw [e]
  simp [Go.MapKept.run_getObj_map hb, go_sem]
theorem t_mclone {f : FuncId} {fn : Func} (hf : P.funcs[f]? = some fn) (hname : (fn.name == "runtime.NumGoroutine") = false) (hb0 : fn.body.isNone = true) (hn : Extern.findNext fn = none) (he : Extern.find fn = some Extern.MapsClone.clone)
    {ty t : TypeId} {x : Operand} {k : IntKind} {r : Nat} {E : MpL} {d : Tmp} {p : String} {af : Array Edge} (hS : St W w L) (pk : Pick L (mapA k r E) R) (hx : ev ρ x = .iface t (.map (some r))) {ts : Array TypeId}
    (h : ∀ r' w', St W w' (mapA k r' E :: L) → textE P all rest (up ρ d (.iface t (.map (some r')))) w' N) : textE P all (⟨some d, .call ⟨.value (.func f), #[x], ts⟩, ty, p, af, none⟩ :: rest) ρ w N := by
  obtain ⟨es, clock, hb, hkv, hm⟩ := hS.map pk
  refine t_val (w' := w.alloc (.map es clock)) (v := .iface t (.map (some w.heap.size))) (fun dst pos af gd => ?_) (h _ _ ?_)
  · have hc := run_callFunc_extern (P := P) hf hname hb0 hn he #[.iface t (.map (some r))] w
    rw [run_mclone t hb] at hc
    simp only [Result.andThen] at hc
    have hfv : ev ρ (.func f) = .func (.func f) #[] #[] := rfl
    simp [execOp, resolve, invoke, hx, hfv, hc, Deferred.ofValue]
  · exact hS.add (Fr.alloc _ _ _) (F := [w.heap.size]) ⟨rfl, es, clock, heap_alloc_new w _, hkv, hm⟩ (fun k hk => by have := List.mem_singleton.1 hk; omega)
theorem q_assert_map {t xT ke et ty : TypeId} {x : Operand} {v : Value} (ht : P.underlying t = some (.map ke et)) (hx : ev ρ x = .iface t v) : qv P (.typeAssert x xT t false) ty ρ w v := by
  refine q_of _ (fun _ _ _ _ => rfl) ?_
  rw [hx]
  simp [Instr.typeAssert, run_underlying ht, go_sem]
end
end Go.Proofs.Ytmgobaojioaioaa
