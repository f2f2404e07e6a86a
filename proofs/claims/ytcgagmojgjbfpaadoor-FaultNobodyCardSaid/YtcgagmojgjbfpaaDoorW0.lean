/- A walk's ground: weakest preconditions of the model's code over environments (slots as functions), proved sound for the base's own Code.wp and Calls. No program is named. -/
import Derived.WalkKit
import Derived.Deep.LoopGhost
import Derived.Deep.Draws
import Derived.CallsIn
import Derived.TacticsIn
import Derived.Sort.LoopGhostIn
namespace Go.Proofs.YtcgagmojgjbfpaaDoor
open Go Go.RowKit
abbrev Env := Nat → Value
def up (ρ : Env) (d : Nat) (v : Value) : Env := fun t => bif Nat.beq t d then v else ρ t
def ev (ρ : Env) : Operand → Value
  | .tmp t => ρ t
  | .const v => v
  | .global g => .pointer (some ⟨g, 0, none⟩)
  | .func f => .func (.func f) #[] #[]
def putE (ρ : Env) : Option Nat → Value → Env
  | some d, v => up ρ d v
  | none, _ => ρ
structure RepD (n : Nat) (ds : List Deferred) (a : Act) (ρ : Env) : Prop where
  size : a.tmps.size = n
  val : ∀ t, a.tmps.getD t undef = ρ t
  defers : a.defers = ds
theorem RepD.eval {n : Nat} {ds : List Deferred} {a : Act} {ρ : Env} (h : RepD n ds a ρ) (x : Operand) : a.eval x = ev ρ x := by
  cases x with
  | tmp t => exact h.val t
  | _ => rfl
theorem RepD.eval' {n : Nat} {ds : List Deferred} {a : Act} {ρ : Env} (h : RepD n ds a ρ) : a.eval = ev ρ := funext h.eval
theorem RepD.put {n : Nat} {ds : List Deferred} {a : Act} {ρ : Env} (h : RepD n ds a ρ) (d : Option Nat) (v : Value) (hd : ∀ k, d = some k → k < n) : RepD n ds (a.put d v) (putE ρ d v) := by
  cases d with
  | none => exact h
  | some d =>
    have hlt := hd d rfl
    refine ⟨by simp [Act.put, h.size], ?_, h.defers⟩
    intro t
    simp only [Act.put, putE, up]
    by_cases e : t = d
    · subst e
      have : t < a.tmps.size := by rw [h.size]; exact hlt
      simp [Array.getD, this]
    · have hb : Nat.beq t d = false := by
        cases hq : Nat.beq t d with
        | true => exact absurd (Nat.eq_of_beq_eq_true hq) e
        | false => rfl
      rw [hb, cond_false, ← h.val t]
      simp only [Array.getD_eq_getD_getElem?, Array.getElem?_setIfInBounds]
      rw [if_neg (fun hh => e hh.symm)]
/-- What the guard's operation has said. -/
def yE (ops : Array Oper) (ρ : Env) (j : Nat) : Option Bool :=
  match (ops[j]?).bind (·.dst) with
  | some d => match ρ d with
    | .bool b => some b
    | _ => none
  | none => none
theorem RepD.yielded {n : Nat} {ds : List Deferred} {a : Act} {ρ : Env} (h : RepD n ds a ρ) (ops : Array Oper) : Go.yielded ops a.tmps = yE ops ρ := by
  funext j
  unfold Go.yielded yE
  cases (ops[j]?).bind (·.dst) with
  | none => rfl
  | some d =>
    simp only [Option.bind_some]
    rw [← h.val d]
    by_cases hd : d < a.tmps.size
    · simp only [Array.getD_eq_getD_getElem?, Array.getElem?_eq_getElem hd, Option.getD_some]
      cases a.tmps[d] <;> rfl
    · have e : a.tmps[d]? = none := Array.getElem?_eq_none (Nat.le_of_not_lt hd)
      simp only [Array.getD_eq_getD_getElem?, e]
      rfl
/-- One operation. -/
def opE (P : Program) (o : Oper) (ρ : Env) (w : World) (K : Value → World → Prop) : Prop :=
  match (execOp (ev ρ) o).run P w with
  | .ok (.value v) w' => K v w'
  | .ok .skip w' => K undef w'
  | .ok (.enter f args) w' => Calls P f args w' fun e w'' => ∃ v, e = .returned v ∧ K v w''
  | .ok (.round l f tmps assign body) w' => RoundIn Fence.wide 0 P l f tmps assign body w' fun e w'' => ∃ v, e = .returned v ∧ K v w''
  | _ => False
theorem opE_mono {P : Program} {o : Oper} {ρ : Env} {w : World} {K K' : Value → World → Prop} (h : opE P o ρ w K) (hk : ∀ v w', K v w' → K' v w') : opE P o ρ w K' := by
  unfold opE at h ⊢
  split at h
  · exact hk _ _ h
  · exact hk _ _ h
  · exact h.mono fun e w'' ⟨v, he, hv⟩ => ⟨v, he, hk _ _ hv⟩
  · exact h.mono fun e w'' ⟨v, he, hv⟩ => ⟨v, he, hk _ _ hv⟩
  · exact h.elim
/-- The wide fence, within a round or not. -/
def wideAt (r : Option Nat) : Fence := { Fence.wide with round := r }
theorem callsIn_at {r : Option Nat} {n : Nat} {P : Program} {f : FuncId} {args : Array Value} {w : World} {R : Ending → World → Prop} (h : Calls P f args w R) : CallsIn (wideAt r) n P f args w R :=
  show CallsIn Fence.wide n P f args w R from callsIn_wide.2 h
theorem roundIn_at {r : Option Nat} {n k : Nat} {P : Program} {l : Nat} {f : FuncId} {tmps : Array Value} {assign body : Code} {w : World} {R : Ending → World → Prop} (h : RoundIn Fence.wide k P l f tmps assign body w R) : RoundIn (wideAt r) n P l f tmps assign body w R :=
  ⟨trivial, fun c cs _ => h.2 c cs (room_wide _)⟩
theorem opE_defer {P : Program} {o : Oper} {ρ : Env} {w : World} {K : Value → World → Prop} (h : opE P o ρ w K) : ∀ c, o.op ≠ .defer c := by
  intro c hc
  unfold opE at h
  simp only [execOp, hc, Sem.run_bind] at h
  cases hr : (resolve (ev ρ) c o.type).run P w with
  | ok d w' => simp [hr] at h
  | halt s w' => simp [hr] at h
theorem opE_sound {P : Program} {o : Oper} {n m : Nat} {r : Option Nat} {ds : List Deferred} {a : Act} {ρ : Env} {w : World} {next : Act → World → Prop} {Q : Exit → Act → World → Prop} {K : Value → World → Prop}
    (hr : RepD n ds a ρ) (h : opE P o ρ w K) (hk : ∀ v w', K v w' → next (a.put o.dst v) w') : o.wpIn (wideAt r) m P a w next Q := by
  refine ⟨fun _ _ => trivial, ?_⟩
  rw [Oper.semAt_eq _ _ _ (opE_defer h), hr.eval']
  unfold opE at h
  revert h
  generalize (execOp (ev ρ) o).run P w = res
  intro h
  split at h
  · rw [Oper.uponIn_value]; exact hk _ _ h
  · rw [Oper.uponIn_skip]; exact hk _ _ h
  · rw [Oper.uponIn_enter]
    exact ⟨fun hd => (by cases hd), callsIn_at (h.mono fun e w'' ⟨v, he, hv⟩ => by subst he; exact hk _ _ hv)⟩
  · rw [Oper.uponIn_round]
    exact ⟨fun hd => (by cases hd), roundIn_at (h.mono fun e w'' ⟨v, he, hv⟩ => by subst he; exact hk _ _ hv)⟩
  · exact h.elim
/-- The operation at place i. -/
def stepE (P : Program) (ops : Array Oper) (i : Nat) (ρ : Env) (w : World) (K : Env → World → Prop) : Prop :=
  match ops[i]? with
  | none => K ρ w
  | some o => if Region.wanted o (yE ops ρ) = true then opE P o ρ w (fun v w' => K (putE ρ o.dst v) w') else K (putE ρ o.dst undef) w
def listE (P : Program) (ops : Array Oper) : List Nat → Env → World → (Env → World → Prop) → Prop
  | [], ρ, w, N => N ρ w
  | i :: rest, ρ, w, N => stepE P ops i ρ w fun ρ' w' => listE P ops rest ρ' w' N
theorem stepE_mono {P : Program} {ops : Array Oper} {i : Nat} {ρ : Env} {w : World} {K K' : Env → World → Prop} (h : stepE P ops i ρ w K) (hk : ∀ ρ' w', K ρ' w' → K' ρ' w') : stepE P ops i ρ w K' := by
  unfold stepE at h ⊢
  split
  · rename_i he; rw [he] at h; exact hk _ _ h
  · rename_i o he
    rw [he] at h
    dsimp only at h
    split
    · rename_i hw; rw [if_pos hw] at h; exact opE_mono h fun _ _ => hk _ _
    · rename_i hw; rw [if_neg hw] at h; exact hk _ _ h
theorem listE_mono {P : Program} {ops : Array Oper} (l : List Nat) : ∀ {ρ : Env} {w : World} {K K' : Env → World → Prop}, listE P ops l ρ w K → (∀ ρ' w', K ρ' w' → K' ρ' w') → listE P ops l ρ w K' := by
  induction l with
  | nil => exact fun h hk => hk _ _ h
  | cons i l ih => exact fun h hk => stepE_mono h fun _ _ h' => ih h' hk
/-- All slots that are written lie in the frame. -/
def dstsOk (n : Nat) (ops : Array Oper) : Bool := ops.toList.all fun o => match o.dst with | some d => Nat.blt d n | none => true
theorem dstsOk_at {n : Nat} {ops : Array Oper} (h : dstsOk n ops = true) {i : Nat} {o : Oper} (ho : ops[i]? = some o) : ∀ k, o.dst = some k → k < n := by
  intro k hk
  unfold dstsOk at h
  have := List.all_eq_true.1 h o (by simpa using Array.mem_of_getElem? ho)
  rw [hk] at this
  exact Nat.le_of_ble_eq_true this
theorem listE_sound {P : Program} {ops : Array Oper} {n m : Nat} {r : Option Nat} {ds : List Deferred} {N : Env → World → Prop} {Q : Exit → Act → World → Prop} (hd : dstsOk n ops = true)
    (hN : ∀ a ρ w, RepD n ds a ρ → N ρ w → Q .normal a w) (l : List Nat) : ∀ (a : Act) (ρ : Env) (w : World), RepD n ds a ρ → listE P ops l ρ w N → wpOpsIn (wideAt r) m P ops Q l a w := by
  induction l with
  | nil => exact fun a ρ w hr h => hN a ρ w hr h
  | cons i l ih =>
    intro a ρ w hr h
    simp only [listE, stepE] at h
    simp only [wpOpsIn]
    cases ho : ops[i]? with
    | none => rw [ho] at h; exact ih a ρ w hr h
    | some o =>
      rw [ho] at h
      simp only at h ⊢
      rw [hr.yielded ops]
      split
      · rename_i hw
        rw [if_pos hw] at h
        exact opE_sound hr h fun v w' hv => ih _ _ _ (hr.put o.dst v (dstsOk_at hd ho)) hv
      · rename_i hw
        rw [if_neg hw] at h
        exact ⟨fun _ _ => trivial, ih _ _ _ (hr.put o.dst undef (dstsOk_at hd ho)) h⟩
/-- In the order of the text. -/
def textE (P : Program) (all : Array Oper) : List Oper → Env → World → (Env → World → Prop) → Prop
  | [], ρ, w, N => N ρ w
  | o :: rest, ρ, w, N => if Region.wanted o (yE all ρ) = true then opE P o ρ w (fun v w' => textE P all rest (putE ρ o.dst v) w' N) else textE P all rest (putE ρ o.dst undef) w N
theorem textE_list {P : Program} {ops : Array Oper} {N : Env → World → Prop} (l : List Oper) : ∀ (k : Nat) (ρ : Env) (w : World), ops.toList.drop k = l → textE P ops l ρ w N → listE P ops (List.range' k l.length) ρ w N := by
  induction l with
  | nil => exact fun k ρ w _ h => h
  | cons o l ih =>
    intro k ρ w hl h
    have hk : ops[k]? = some o := by
      have := congrArg (fun x => x[0]?) hl
      simpa using this
    have hl' : ops.toList.drop (k + 1) = l := by
      have := congrArg List.tail hl
      simpa using this
    simp only [List.length_cons, List.range'_succ, listE, stepE, hk]
    simp only [textE] at h
    split
    · rename_i hw
      rw [if_pos hw] at h
      exact opE_mono h fun v w' hv => ih (k + 1) _ _ hl' hv
    · rename_i hw
      rw [if_neg hw] at h
      exact ih (k + 1) _ _ hl' h
/-- In any order that its edges allow. -/
def drawE (P : Program) (ops : Array Oper) (ρ : Env) (w : World) (N : Env → World → Prop) : Prop :=
  ∀ t, listE P ops (Region.schedule (P.follows .mixedOrders) ops t) ρ { w with drawn := w.drawn + 1 } N
/-- Code: what stands behind it (N), behind a leaving of a block (X), behind a return (R). -/
def wpE (P : Program) : Code → Env → World → (Env → World → Prop) → (Nat → Env → World → Prop) → (Env → World → Prop) → Prop
  | .skip, ρ, w, N, _, _ => N ρ w
  | .region _ ops false, ρ, w, N, _, _ => textE P ops ops.toList ρ w N
  | .region _ ops true, ρ, w, N, _, _ => drawE P ops ρ w N
  | .seq a b, ρ, w, N, X, R => wpE P a ρ w (fun ρ' w' => wpE P b ρ' w' N X R) X R
  | .cond c a b, ρ, w, N, X, R => ∃ t, ev ρ c = .bool t ∧ (t = true → wpE P a ρ w N X R) ∧ (t = false → wpE P b ρ w N X R)
  | .block id b, ρ, w, N, X, R => wpE P b ρ w N (fun i ρ' w' => if i = id then N ρ' w' else X i ρ' w') R
  | .exit id, ρ, w, _, X, _ => X id ρ w
  | .loop b, ρ, w, _, X, R => ∃ (I : Nat → Env → World → Prop) (n : Nat), I n ρ w ∧ ∀ n ρ w, I n ρ w → wpE P b ρ w (fun ρ' w' => ∃ n', n' < n ∧ I n' ρ' w') X R
  | .ret, ρ, w, _, _, R => R ρ w
  | _, _, _, _, _, _ => False
/-- All slots that are written lie in the frame, in all of a code. -/
def slotsOk (n : Nat) : Code → Bool
  | .region _ ops _ => dstsOk n ops
  | .seq a b => slotsOk n a && slotsOk n b
  | .cond _ a b => slotsOk n a && slotsOk n b
  | .block _ b => slotsOk n b
  | .loop b => slotsOk n b
  | _ => true
theorem wpE_sound {P : Program} {n m : Nat} {r : Option Nat} {ds : List Deferred} (c : Code) : slotsOk n c = true → ∀ (ρ : Env) (w : World) (N : Env → World → Prop) (X : Nat → Env → World → Prop) (R : Env → World → Prop), wpE P c ρ w N X R →
    ∀ (a : Act) (Q : Exit → Act → World → Prop), RepD n ds a ρ → (∀ a ρ w, RepD n ds a ρ → N ρ w → Q .normal a w) → (∀ i a ρ w, RepD n ds a ρ → X i ρ w → Q (.exit i) a w) → (∀ a ρ w, RepD n ds a ρ → R ρ w → Q .ret a w) → c.wpIn (wideAt r) m P Q a w := by
  induction c with
  | skip => exact fun _ ρ w N X R h a Q hr hN _ _ => wpIn_skip (hN _ _ _ hr h)
  | region id ops draw =>
    intro hs ρ w N X R h a Q hr hN _ _
    simp only [slotsOk] at hs
    cases draw with
    | false =>
      have h2 := textE_list (P := P) (ops := ops) (N := N) ops.toList 0 ρ w (by simp) h
      rw [Array.length_toList, ← List.range_eq_range'] at h2
      exact wpIn_region (listE_sound hs hN _ a ρ w hr h2)
    | true => exact wpIn_region_draw fun t => listE_sound hs hN _ a ρ _ hr (h t)
  | seq x y ihx ihy =>
    intro hs ρ w N X R h a Q hr hN hX hR
    simp only [slotsOk, Bool.and_eq_true] at hs
    exact wpIn_seq (ihx hs.1 ρ w _ X R h a _ hr (fun a' ρ' w' hr' h' => ihy hs.2 ρ' w' N X R h' a' Q hr' hN hX hR) hX hR)
  | cond c x y ihx ihy =>
    intro hs ρ w N X R h a Q hr hN hX hR
    simp only [slotsOk, Bool.and_eq_true] at hs
    obtain ⟨t, ht, h1, h2⟩ := h
    refine wpIn_cond_split (t := t) (by rw [hr.eval]; exact ht) (fun e => ihx hs.1 ρ w N X R (h1 e) a Q hr hN hX hR) (fun e => ihy hs.2 ρ w N X R (h2 e) a Q hr hN hX hR)
  | block id b ih =>
    intro hs ρ w N X R h a Q hr hN hX hR
    refine wpIn_block (ih hs ρ w N _ R h a _ hr hN ?_ hR)
    intro i a' ρ' w' hr' hx
    show if i = id then _ else _
    split
    · rename_i e; rw [if_pos e] at hx; exact hN _ _ _ hr' hx
    · rename_i e; rw [if_neg e] at hx; exact hX _ _ _ _ hr' hx
  | loop b ih =>
    intro hs ρ w N X R h a Q hr hN hX hR
    obtain ⟨I, k, h0, hround⟩ := h
    refine wpIn_loop_ghost (fun m a w => ∃ ρ, RepD n ds a ρ ∧ I m ρ w) k ⟨ρ, hr, h0⟩ ?_
    rintro m a w ⟨ρ, hr, hi⟩
    exact ih hs ρ w _ X R (hround m ρ w hi) a _ hr (fun a' ρ' w' hr' ⟨m', hlt, hi'⟩ => ⟨m', hlt, ρ', hr', hi'⟩) hX hR
  | exit id => exact fun _ ρ w N X R h a Q hr _ hX _ => wpIn_exit (hX _ _ _ _ hr h)
  | ret => exact fun _ ρ w N X R h a Q hr _ _ hR => wpIn_ret (hR _ _ _ hr h)
  | _ => exact fun _ ρ w N X R h => h.elim
/-- One result. -/
def res1 (P : Program) (ρ : Env) (w : World) : ResultVar → Value → Prop
  | .tmp t, v => ρ t = v
  | .cell a t, v => ∃ p, ρ a = .pointer (some p) ∧ (loadVar t p).run P w = .ok v w
def resRun (tmps : Array Value) : ResultVar → Sem Value
  | .tmp t => pure (tmps.getD t undef)
  | .cell a t => do loadVar t (← asAddr (tmps.getD a undef))
theorem results_eq (fn : Func) (tmps : Array Value) : results fn tmps = (do
    let vs ← fn.results.mapM (resRun tmps)
    pure (if h : vs.size = 1 then vs[0] else .tuple vs)) := rfl
theorem res1_run {P : Program} {n : Nat} {ds : List Deferred} {a : Act} {ρ : Env} {w : World} (hr : RepD n ds a ρ) {r : ResultVar} {v : Value} (h : res1 P ρ w r v) :
    (resRun a.tmps r).run P w = .ok v w := by
  cases r with
  | tmp t =>
    simp only [res1] at h
    simp only [resRun, hr.val t, h]
    rfl
  | cell b t =>
    obtain ⟨p, hp, hl⟩ := h
    simp only [resRun, hr.val b, hp]
    simpa [asAddr] using hl
/-- What a function hands back. -/
def resE (P : Program) (rs : Array ResultVar) (ρ : Env) (w : World) (K : Value → Prop) : Prop :=
  match rs.toList with
  | [] => K (.tuple #[])
  | [r] => ∃ v, res1 P ρ w r v ∧ K v
  | [r, s] => ∃ v u, res1 P ρ w r v ∧ res1 P ρ w s u ∧ K (.tuple #[v, u])
  | [r, s, t] => ∃ v u x, res1 P ρ w r v ∧ res1 P ρ w s u ∧ res1 P ρ w t x ∧ K (.tuple #[v, u, x])
  | [r, s, t, q] => ∃ v u x y, res1 P ρ w r v ∧ res1 P ρ w s u ∧ res1 P ρ w t x ∧ res1 P ρ w q y ∧ K (.tuple #[v, u, x, y])
  | _ => False
theorem resE_run {P : Program} {fn : Func} {n : Nat} {ds : List Deferred} {a : Act} {ρ : Env} {w : World} {K : Value → Prop} (hr : RepD n ds a ρ) (h : resE P fn.results ρ w K) : ∃ v, (results fn a.tmps).run P w = .ok v w ∧ K v := by
  unfold resE at h
  obtain ⟨l, hl⟩ : ∃ l, fn.results = List.toArray l := ⟨fn.results.toList, by simp⟩
  rw [results_eq, hl]
  rw [hl] at h
  simp only [List.mapM_toArray]
  match l, h with
  | [], h => exact ⟨_, by simp, h⟩
  | [r], ⟨v, hv, h⟩ =>
    have e := res1_run hr hv
    exact ⟨_, by simp only [List.mapM_cons, List.mapM_nil]; simp [e], h⟩
  | [r, s], ⟨v, u, hv, hu, h⟩ =>
    have e := res1_run hr hv
    have e1 := res1_run hr hu
    exact ⟨_, by simp only [List.mapM_cons, List.mapM_nil]; simp [e, e1], h⟩
  | [r, s, t], ⟨v, u, x, hv, hu, hx, h⟩ =>
    have e := res1_run hr hv
    have e1 := res1_run hr hu
    have e2 := res1_run hr hx
    exact ⟨_, by simp only [List.mapM_cons, List.mapM_nil]; simp [e, e1, e2], h⟩
  | [r, s, t, q], ⟨v, u, x, y, hv, hu, hx, hy, h⟩ =>
    have e := res1_run hr hv
    have e1 := res1_run hr hu
    have e2 := res1_run hr hx
    have e3 := res1_run hr hy
    exact ⟨_, by simp only [List.mapM_cons, List.mapM_nil]; simp [e, e1, e2, e3], h⟩
/-- The environment at a call's beginning. -/
def env0 (args : List Value) : Env := fun t => args.getD t undef
theorem rep0 {n : Nat} {args : List Value} (hn : args.length ≤ n) : RepD n [] { tmps := args.toArray ++ Array.replicate (n - args.toArray.size) undef, defers := [] } (env0 args) := by
  refine ⟨by simp; omega, ?_, rfl⟩
  intro t
  simp only [env0, Array.getD_eq_getD_getElem?, List.getD_eq_getElem?_getD, Array.getElem?_append, List.size_toArray, Array.getElem?_replicate]
  by_cases h1 : t < args.length
  · simp [h1]
  · rw [if_neg h1, List.getElem?_eq_none (by omega : args.length ≤ t)]
    split <;> rfl
theorem calls_of_wpE {P : Program} {f : FuncId} {fn : Func} {c : Code} {args : List Value} {w : World} {R : Ending → World → Prop}
    (hf : P.funcs[f]? = some fn) (hb : fn.body = some c) (hs : slotsOk fn.ntmps c = true) (hn' : Nat.ble args.length fn.ntmps = true)
    (h : wpE P c (env0 args) w (fun ρ' w' => resE P fn.results ρ' w' fun v => R (.returned v) w') (fun _ _ _ => False) (fun ρ' w' => resE P fn.results ρ' w' fun v => R (.returned v) w')) :
    Calls P f args.toArray w R := by
  refine callsIn_wide.1 (callsIn_of_wp (F := Fence.wide) (n := 0) hf hb trivial ?_)
  refine wpE_sound (r := none) c hs _ w _ _ _ h _ _ (rep0 (Nat.le_of_ble_eq_true hn')) ?_ (fun _ _ _ _ _ hx => hx.elim) ?_
  · intro a ρ w hr hK
    obtain ⟨v, hv, hK⟩ := resE_run hr hK
    exact ⟨hr.defers, v, hv, hK⟩
  · intro a ρ w hr hK
    obtain ⟨v, hv, hK⟩ := resE_run hr hK
    exact ⟨hr.defers, v, hv, hK⟩
end Go.Proofs.YtcgagmojgjbfpaaDoor
