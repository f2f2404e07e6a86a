/- A range over a function: the caller's law; calls of yield. -/
import Derived.Test.YtlppgpidakfnlaaDr
import Derived.RangeFuncIn
import Derived.RangeFuncLeaves
import Derived.RangeFuncRecord
import Derived.RangeFuncSeq
namespace Go.Proofs.Ytlppgpidakfnlaa
open Go Go.RowKit Go.Lib
/-- an object of the call's own, of whatever kind -/
def objA (g : Nat) (o : Obj) : Asn where
  holds w F := F = [g] ∧ w.heap[g]? = some o
  loc w w' F h hk := ⟨h.1, (hk g (by rw [h.1]; simp)).trans h.2⟩
  lt w F h k hk := by
    rw [h.1] at hk
    have := List.mem_singleton.1 hk
    subst this
    rcases Nat.lt_or_ge k w.heap.size with hlt | hge
    · exact hlt
    · have h2 := h.2; rw [Array.getElem?_eq_none hge] at h2; cases h2
section
variable {W w : World} {L R : List Asn} {g : Nat} {o : Obj}
theorem St.newObj (h : St W w L) (o : Obj) : St W (w.alloc o) (objA w.heap.size o :: L) :=
  h.add (Fr.alloc _ _ _) (F := [w.heap.size]) ⟨rfl, World.alloc_heap_new w o⟩ (fun k hk => by have := List.mem_singleton.1 hk; omega)
theorem St.obj (h : St W w L) (p : Pick L (objA g o) R) : w.heap[g]? = some o := by
  obtain ⟨F, hx, _⟩ := h.get p; exact hx.2
theorem St.setObj (h : St W w (objA g o :: R)) (o' : Obj) : St W (w.putObj g o') (objA g o' :: R) :=
  h.upd fun F hF => by
    obtain ⟨rfl, hg⟩ := hF
    have hlt : g < w.heap.size := (Array.getElem?_eq_some_iff.1 hg).1
    exact ⟨⟨rfl, rfl, rfl, by simp, fun k _ hk => World.putObj_heap_other (by simpa using hk)⟩, [g], ⟨rfl, World.putObj_heap_same hlt⟩, fun _ hk => .inl hk⟩
theorem St.drops {M : List Asn} (h : St W w (M ++ L)) : St W w L := by
  induction M with
  | nil => exact h
  | cons A M ih => exact ih h.drop
theorem pick_mid (l : List Asn) (A : Asn) (r : List Asn) : Pick (l ++ A :: r) A (l ++ r) := by
  induction l with
  | nil => exact .here _ _
  | cons B l ih => exact .there ih
theorem St.mid {l r : List Asn} {A : Asn} (h : St W w (A :: (l ++ r))) : St W w (l ++ A :: r) := h.perm (List.perm_middle).symm
end
def mark (D : Nat) : Deferred := { target := .collected D, args := #[] }
def slotsM (n : Nat) : Code → Bool
  | .seq a b => slotsM n a && slotsM n b
  | .cond _ a b => slotsM n a && slotsM n b
  | .block _ b => slotsM n b
  | .rangeFunc _ ps a b => slotsOk n a && slotsOk n b && ps.toList.all fun p => Nat.blt p n
  | c => slotsOk n c
theorem slots_of {n : Nat} (c : Code) : slotsM n c = true → slotsOk n c = true := by
  induction c with
  | seq a b iha ihb => intro h; simp only [slotsM, slotsOk, Bool.and_eq_true] at h ⊢; exact ⟨iha h.1, ihb h.2⟩
  | cond c a b iha ihb => intro h; simp only [slotsM, slotsOk, Bool.and_eq_true] at h ⊢; exact ⟨iha h.1, ihb h.2⟩
  | block i b ih => intro h; simp only [slotsM, slotsOk] at h ⊢; exact ih h
  | rangeFunc _ _ _ _ _ _ => intro _; rfl
  | _ => intro h; exact h
/-- Code that holds a range over a function: the blocks of its loops' marks beside the environment. -/
def wpM (P : Program) (c : Code) (ds : List Nat) (ρ : Env) (w : World) (N : List Nat → Env → World → Prop) (X : Nat → List Nat → Env → World → Prop) (R : List Nat → Env → World → Prop) : Prop :=
  ∀ n, slotsM n c = true → ∀ (a : Act) (Q : Exit → Act → World → Prop), RepD n (ds.map mark) a ρ → (∀ ds a ρ w, RepD n (ds.map mark) a ρ → N ds ρ w → Q .normal a w) →
    (∀ i ds a ρ w, RepD n (ds.map mark) a ρ → X i ds ρ w → Q (.exit i) a w) → (∀ ds a ρ w, RepD n (ds.map mark) a ρ → R ds ρ w → Q .ret a w) → c.wpIn Fence.wide 0 P Q a w
section
variable {P : Program} {ds : List Nat} {ρ : Env} {w : World} {N : List Nat → Env → World → Prop} {X : Nat → List Nat → Env → World → Prop} {R : List Nat → Env → World → Prop}
theorem m_of {c : Code} (h : wpE P c ρ w (N ds) (fun i => X i ds) (R ds)) : wpM P c ds ρ w N X R := fun _ hs a Q hr hN hX hR =>
  wpE_sound (r := none) c (slots_of c hs) ρ w _ _ _ h a Q hr (hN ds) (fun i => hX i ds) (hR ds)
theorem m_seq {a b : Code} (h : wpM P a ds ρ w (fun ds ρ w => wpM P b ds ρ w N X R) X R) : wpM P (.seq a b) ds ρ w N X R := fun n hs ac Q hr hN hX hR => by
  simp only [slotsM, Bool.and_eq_true] at hs
  exact wpIn_seq (h n hs.1 ac _ hr (fun ds a ρ w hr hb => hb n hs.2 a Q hr hN hX hR) hX hR)
theorem m_block {i : Nat} {b : Code} (h : wpM P b ds ρ w N (fun j ds ρ w => if j = i then N ds ρ w else X j ds ρ w) R) : wpM P (.block i b) ds ρ w N X R := fun n hs ac Q hr hN hX hR => by
  simp only [slotsM] at hs
  refine wpIn_block (h n hs ac _ hr hN ?_ hR)
  intro j ds a' ρ' w' hr' hx
  show if j = i then _ else _
  split
  · rename_i e; rw [if_pos e] at hx; exact hN _ _ _ _ hr' hx
  · rename_i e; rw [if_neg e] at hx; exact hX _ _ _ _ _ hr' hx
theorem m_cond {c : Operand} {a b : Code} {t : Bool} (hc : ev ρ c = .bool t) (h1 : t = true → wpM P a ds ρ w N X R) (h2 : t = false → wpM P b ds ρ w N X R) : wpM P (.cond c a b) ds ρ w N X R := fun n hs ac Q hr hN hX hR => by
  simp only [slotsM, Bool.and_eq_true] at hs
  exact wpIn_cond_split (t := t) (by rw [hr.eval]; exact hc) (fun e => h1 e n hs.1 ac Q hr hN hX hR) (fun e => h2 e n hs.2 ac Q hr hN hX hR)
end
/-- What a function hands back whose loops' marks are still to be taken. -/
def leaveM (P : Program) (rs : Array ResultVar) : List Nat → Env → World → (Value → World → Prop) → Prop
  | [], ρ, w, K => resE P rs ρ w fun v => K v w
  | D :: ds, ρ, w, K => w.heap[D]? = some (.deferred (some [])) ∧ leaveM P rs ds ρ (w.putObj D (.deferred none)) K
theorem leaveM_sound {P : Program} {fn : Func} {n : Nat} {R : Ending → World → Prop} : ∀ (ds : List Nat) {a : Act} {ρ : Env} {w : World} {es : List Deferred}, RepD n es a ρ → leaveM P fn.results ds ρ w (fun v w' => R (.returned v) w') →
    LeavesInM Fence.wide 0 P fn a.tmps R (ds.map mark) .returning w
  | [], a, ρ, w, es, hr, h => by
    obtain ⟨v, hv, hK⟩ := resE_run hr h
    exact ⟨v, hv, hK⟩
  | D :: ds, a, ρ, w, es, hr, h => ⟨by simp, .inl ⟨D, _, rfl, run_takeDeferred h.1, leaveM_sound ds hr h.2⟩⟩
theorem calls_of_wpM {P : Program} {f : FuncId} {fn : Func} {c : Code} {args : List Value} {w : World} {R : Ending → World → Prop}
    (hf : P.funcs[f]? = some fn) (hb : fn.body = some c) (hs : slotsM fn.ntmps c = true) (hn' : Nat.ble args.length fn.ntmps = true)
    (h : wpM P c [] (env0 args) w (fun ds ρ' w' => leaveM P fn.results ds ρ' w' fun v w'' => R (.returned v) w'') (fun _ _ _ _ => False) (fun ds ρ' w' => leaveM P fn.results ds ρ' w' fun v w'' => R (.returned v) w'')) :
    Calls P f args.toArray w R := by
  refine callsIn_wide.1 (callsIn_of_wp_marks (F := Fence.wide) (n := 0) hf hb trivial ?_)
  refine h _ hs _ _ (rep0 (Nat.le_of_ble_eq_true hn')) ?_ (fun _ _ _ _ _ _ hx => hx.elim) ?_
  · intro ds a ρ w hr hK
    show LeavesInM _ _ _ _ _ _ a.defers _ _
    rw [hr.defers]
    exact leaveM_sound ds hr hK
  · intro ds a ρ w hr hK
    show LeavesInM _ _ _ _ _ _ a.defers _ _
    rw [hr.defers]
    exact leaveM_sound ds hr hK
def putL (ρ : Env) : List (Nat × Value) → Env
  | [] => ρ
  | (p, v) :: l => putL (up ρ p v) l
theorem rep_putL {n : Nat} {es : List Deferred} : ∀ (l : List (Nat × Value)) {tmps : Array Value} {ρ : Env}, (∀ q ∈ l, q.1 < n) → RepD n es { tmps, defers := es } ρ → RepD n es { tmps := l.foldl (fun t q => t.setIfInBounds q.1 q.2) tmps, defers := es } (putL ρ l)
  | [], _, _, _, h => h
  | (p, v) :: l, tmps, ρ, hp, h => by
    have h1 := h.put (some p) v (fun k hk => by injection hk with hk; exact hk ▸ hp (p, v) List.mem_cons_self)
    exact rep_putL l (fun q hq => hp q (List.mem_cons_of_mem _ hq)) h1
/-- how a loop is left -/
def jumpC : Option Nat → Code
  | none => .ret
  | some i => .exit i
section
variable {P : Program} {ds : List Nat} {ρ : Env} {W w : World} {N : List Nat → Env → World → Prop} {X : Nat → List Nat → Env → World → Prop} {R : List Nat → Env → World → Prop}
def doneObj : Obj := .deferred (some [])
theorem m_range {α : Type} {encs : α → Array Value} {g : Operand} {ps : Array Tmp} {assign body : Code} {gf : Nat} {lb : List Value}
    (A : List α → List Asn) (Ax : Option Nat → List α → List Asn) (give : α → List Asn) (nxt : List α → α → Prop) (S : List α → Prop) (ρ1 : α → Env)
    (hS : St W w (A [])) (hg : ev ρ g = .func (.func gf) #[] lb.toArray) (heg : ∀ (us : Array Value) w, (callFunc gf us).run P w = .ok (.enter gf us) w) (hps : ∀ x, (encs x).size = ps.size)
    (hass : ∀ x w (K : Env → World → Prop), K (ρ1 x) w → wpE P assign (putL ρ (ps.toList.zip (encs x).toList)) w K (fun _ _ _ => False) (fun _ _ => False))
    (hbody : ∀ E pre x w, nxt pre x → St W w (give x ++ (A pre ++ E)) → wpE P body (ρ1 x) w (fun _ w' => St W w' (A (pre ++ [x]) ++ E)) (fun i _ w' => St W w' (Ax (some i) (pre ++ [x]) ++ E)) (fun _ w' => St W w' (Ax none (pre ++ [x]) ++ E)))
    (hit : ∀ (l : Nat) (J : List α → List Asn → World → Prop) (Jx : List α → World → Prop), (∀ pre M w, J pre M w → ∃ E, St W w (M ++ (A pre ++ E))) → (∀ pre M w w', J pre [] w → St w w' M → J pre M w') → (∀ pre M w, J pre M w → J pre [] w) →
      (∀ pre x w, J pre (give x) w → nxt pre x → YieldAt Fence.wide 0 P l (encs x) w fun e w' => (e = .returned (.bool true) ∧ J (pre ++ [x]) [] w') ∨ (e = .returned (.bool false) ∧ Jx (pre ++ [x]) w')) →
      ∀ w, J [] [] w → Calls P gf (.func (.yield l) #[] #[] :: lb).toArray w fun e w' => (∃ v, e = .returned v) ∧ ((∃ xs, S xs ∧ J xs [] w') ∨ ∃ pre, Jx pre w'))
    (hdone : ∀ D xs w, S xs → St W w (A xs ++ [objA D doneObj]) → N (D :: ds) ρ w) (hexit : ∀ D i pre w, St W w (Ax (some i) pre ++ [objA D doneObj]) → X i (D :: ds) ρ w)
    (hret : ∀ D pre w, St W w (Ax none pre ++ [objA D doneObj]) → R (D :: ds) ρ w) : wpM P (.rangeFunc g ps assign body) ds ρ w N X R := by
  intro n hs a Q hr hN hX hR
  simp only [slotsM, Bool.and_eq_true] at hs
  obtain ⟨⟨hsa, hsb⟩, hsp⟩ := hs
  refine wpIn_rangeFunc fun fn _ => ?_
  obtain ⟨rec, hrec⟩ : ∃ rec : LoopState → Option Code → Loop, rec = fun st pe => { state := st, pending := pe, fn, tmps := a.tmps, params := ps, assign, body, defers := w.heap.size } := ⟨_, rfl⟩
  obtain ⟨W1, hW1⟩ : ∃ W1, (w.alloc doneObj).alloc (.loop (rec .ready none)) = W1 := ⟨_, rfl⟩
  have hS1 : St W W1 (objA (w.heap.size + 1) (.loop (rec .ready none)) :: objA w.heap.size doneObj :: A []) := by
    have := (hS.newObj doneObj).newObj (.loop (rec .ready none))
    rw [hW1, World.size_alloc] at this
    exact this
  have hS2 : St W W1 (A [] ++ [objA (w.heap.size + 1) (.loop (rec .ready none)), objA w.heap.size doneObj]) := hS1.perm (List.perm_append_comm (l₁ := [_, _]))
  refine ⟨w.heap.size + 1, [mark w.heap.size], W1, { target := .fn (.func gf) lb.toArray, args := #[.func (.yield (w.heap.size + 1)) #[] #[]] }, W1, gf,
    (.func (.yield (w.heap.size + 1)) #[] #[] :: lb).toArray, W1, ?_, ?_, fun _ _ => trivial, ?_, fun h => (by cases h), ?_⟩
  · rw [← hW1, hrec]; exact run_enterLoop_outer _ _ _ _ _
  · simp only [resolve, hr.eval, hg]
    simp [go_sem]
  · simp [invoke, go_sem, heg]
  · refine callsIn_wide.2 ((hit (w.heap.size + 1) (fun pre M w' => St W w' (M ++ (A pre ++ [objA (w.heap.size + 1) (.loop (rec .ready none)), objA w.heap.size doneObj])))
      (fun pre w' => ∃ c : Option Nat, St W w' (Ax c pre ++ [objA (w.heap.size + 1) (.loop (rec .done (some (jumpC c)))), objA w.heap.size doneObj])) (fun pre M w' h => ⟨_, h⟩) (fun pre M w' w'' h h' => h.lift h') (fun pre M w' h => h.drops) ?_ W1 hS2).mono ?_)
    · intro pre x w2 hJ0 hn
      have hJ : St W w2 ((give x ++ A pre) ++ [objA (w.heap.size + 1) (.loop (rec .ready none)), objA w.heap.size doneObj]) := by rw [List.append_assoc]; exact hJ0
      have hl := hJ.obj (pick_mid _ _ _)
      have hy := run_yield (P := P) (args := encs x) hl (by rw [hrec]; exact hps x)
      rw [hrec] at hy
      refine ⟨fn, _, assign, body, hy, roundIn_of_wpIn (F := Fence.wide) (n := 0) trivial ?_⟩
      have hrp : RepD n [] { tmps := (ps.toList.zip (encs x).toList).foldl (fun t q => t.setIfInBounds q.1 q.2) a.tmps, defers := [] } (putL ρ (ps.toList.zip (encs x).toList)) :=
        rep_putL _ (fun q hq => by
          have h1 : q.1 ∈ ps.toList := (List.of_mem_zip hq).1
          exact Nat.le_of_ble_eq_true (List.all_eq_true.1 hsp _ h1)) ⟨hr.size, hr.val, rfl⟩
      have hfold : ((ps.zip (encs x)).foldl (fun (tmps : Array Value) (q : Nat × Value) => tmps.setIfInBounds q.1 q.2) a.tmps) = (ps.toList.zip (encs x).toList).foldl (fun t q => t.setIfInBounds q.1 q.2) a.tmps := by rw [← Array.toList_zip, Array.foldl_toList]
      rw [show ((ps.zip (encs x)).foldl (fun tmps (t, a) => tmps.setIfInBounds t a) a.tmps) = (ps.toList.zip (encs x).toList).foldl (fun t q => t.setIfInBounds q.1 q.2) a.tmps from hfold]
      refine wpE_sound (r := some (w.heap.size + 1)) (m := 0) (ds := []) assign hsa _ w2 (fun ρ' w' => ρ' = ρ1 x ∧ w' = w2) _ _ (hass x w2 _ ⟨rfl, rfl⟩) _ _ hrp ?_ (fun _ _ _ _ _ h => h.elim) (fun _ _ _ _ h => h.elim)
      rintro a1 ρ' w' hr1 ⟨rfl, rfl⟩
      have hbg := run_beginRound (P := P) hl (by rw [hrec])
      refine ⟨_, hbg, ?_⟩
      have hSb : St W (w'.putObj (w.heap.size + 1) (.loop { rec .ready none with state := .busy })) (give x ++ (A pre ++ [objA (w.heap.size + 1) (.loop { rec .ready none with state := .busy }), objA w.heap.size doneObj])) := by
        have := ((hJ.pick (pick_mid _ _ _)).setObj (.loop { rec .ready none with state := .busy })).mid
        rw [List.append_assoc] at this
        exact this
      refine wpE_sound (r := some (w.heap.size + 1)) (m := 0) (ds := []) body hsb (ρ1 x) _ _ _ _ (hbody _ pre x _ hn hSb) a1 _ hr1 ?_ ?_ ?_
      · intro a3 ρ3 w3 _ h3
        have he := run_endRound (P := P) none (h3.obj (pick_mid _ _ _))
        refine ⟨_, _, he, .inl ⟨rfl, ?_⟩⟩
        have := ((h3.pick (pick_mid _ _ _)).setObj (.loop (rec .ready none))).mid
        rw [hrec] at this ⊢
        exact this
      · intro i a3 ρ3 w3 _ h3
        have he := run_endRound (P := P) (some (.exit i)) (h3.obj (pick_mid _ _ _))
        refine ⟨_, _, he, .inr ⟨rfl, some i, ?_⟩⟩
        have := ((h3.pick (pick_mid _ _ _)).setObj (.loop (rec .done (some (.exit i))))).mid
        rw [hrec] at this ⊢
        exact this
      · intro a3 ρ3 w3 _ h3
        have he := run_endRound (P := P) (some .ret) (h3.obj (pick_mid _ _ _))
        refine ⟨_, _, he, .inr ⟨rfl, none, ?_⟩⟩
        have := ((h3.pick (pick_mid _ _ _)).setObj (.loop (rec .done (some .ret)))).mid
        rw [hrec] at this ⊢
        exact this
    · have hra : ∀ {w' : World}, RepD n ((w.heap.size :: ds).map mark) { a with defers := [mark w.heap.size] ++ a.defers } ρ := ⟨hr.size, hr.val, by show [mark w.heap.size] ++ a.defers = _; rw [hr.defers]; rfl⟩
      rintro e w2 ⟨⟨v, rfl⟩, ⟨xs, hx, h2⟩ | ⟨pre, c, h2⟩⟩
      · have hl := h2.obj (pick_mid _ _ _)
        have he := run_endLoop (P := P) hl (by rw [hrec]; simp)
        refine ⟨none, _, by rw [hrec] at he; exact he, ?_⟩
        refine hN _ _ _ _ (hra (w' := w)) (hdone _ xs _ hx ?_)
        exact ((h2.pick (pick_mid _ _ _)).setObj _).drop
      · have hl := h2.obj (pick_mid _ _ _)
        have he := run_endLoop (P := P) hl (by rw [hrec]; simp)
        refine ⟨some (jumpC c), _, by rw [hrec] at he; exact he, ?_⟩
        cases c with
        | none => exact wpIn_ret (hR _ _ _ _ (hra (w' := w)) (hret _ pre _ ((h2.pick (pick_mid _ _ _)).setObj _).drop))
        | some i => exact wpIn_exit (hX _ _ _ _ _ (hra (w' := w)) (hexit _ i pre _ ((h2.pick (pick_mid _ _ _)).setObj _).drop))
end
section
variable {P : Program} {all : Array Oper} {ρ : Env} {w : World} {N : Env → World → Prop} {rest : List Oper}
theorem t_yield {d : Option Tmp} {x : Operand} {l : Nat} {args : Array Operand} {ats : Array TypeId} {ty : TypeId} {p : String} {af : Array Edge} {R : Ending → World → Prop} {al : List Value}
    (hx : ev ρ x = .func (.yield l) #[] #[]) (hy : YieldAt Fence.wide 0 P l al.toArray w R) (has : args.toList.map (ev ρ) = al)
    (h : ∀ e w', R e w' → ∃ v, e = .returned v ∧ textE P all rest (putE ρ d v) w' N) : textE P all (⟨d, .call ⟨.value x, args, ats⟩, ty, p, af, none⟩ :: rest) ρ w N := by
  obtain ⟨fn, tmps, assign, body, hr, hR⟩ := hy
  refine t_op ?_
  unfold opE
  have e : (execOp (ev ρ) ⟨d, .call ⟨.value x, args, ats⟩, ty, p, af, none⟩).run P w = .ok (.round l fn tmps assign body) w := by
    have e1 : args.map (ev ρ) = al.toArray := by rw [← has, ← Array.toList_map, Array.toArray_toList]
    simp [execOp, resolve, Deferred.ofValue, hx, invoke, hr, e1]
  rw [e]
  exact hR.mono fun e w' hr => h e w' hr
end
section
variable {P : Program} {rs : Array ResultVar} {ρ : Env} {w : World} {K : Value → World → Prop} {D : Nat} {ds : List Nat}
theorem l_nil (h : resE P rs ρ w fun v => K v w) : leaveM P rs [] ρ w K := h
theorem l_mark (hg : w.heap[D]? = some doneObj) (h : leaveM P rs ds ρ (w.putObj D (.deferred none)) K) : leaveM P rs (D :: ds) ρ w K := ⟨hg, h⟩
end
end Go.Proofs.Ytlppgpidakfnlaa
