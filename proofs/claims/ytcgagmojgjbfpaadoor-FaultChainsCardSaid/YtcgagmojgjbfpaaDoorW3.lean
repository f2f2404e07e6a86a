/- A statement whose order is open: whatever only computes or reads may be taken first, where its value stands in every world that the statement passes. -/
import Derived.Test.YtcgagmojgjbfpaaDoorW2
import Derived.Orders
namespace Go.Proofs.YtcgagmojgjbfpaaDoor
open Go Go.RowKit
/-- The operation at place i may come next. -/
def readyE (ops : Array Oper) (done : List Nat) (i : Nat) : Bool :=
  !done.any (Nat.beq i) && (match ops.toList[i]? with | some o => o.after.toList.all fun e => (match e.ground with | .textOnly _ => true | .gcOnly _ => true | _ => false) || done.any (Nat.beq e.on) | none => false)
def hangsB (o : Oper) (j : Nat) : Bool := o.after.toList.any fun e => (match e.ground with | .textOnly _ => false | .gcOnly _ => false | _ => true) && Nat.beq e.on j
/-- It stands behind all others. -/
def bindsB (e : Edge) : Bool := match e.ground with | .textOnly _ => false | .gcOnly _ => false | _ => true
def edgesE (o : Oper) : List Nat := o.after.toList.filterMap fun e => if bindsB e then some e.on else none
/-- What a place hangs on, through others too. -/
def reachB (ops : Array Oper) (i : Nat) : List Nat := (List.range ops.size).reverse.foldl (fun S k => if S.any (Nat.beq k) then (match ops.toList[k]? with | some o => edgesE o ++ S | none => S) else S) [i]
/-- Every other place stands behind it or ahead of it. -/
def lastB (ops : Array Oper) (i : Nat) : Bool := (List.range ops.size).all fun j => Nat.beq j i || (reachB ops i).any (Nat.beq j) || (reachB ops j).any (Nat.beq i)
/-- What came has all behind it on which it hangs. -/
def Closed (ops : Array Oper) (done : List Nat) : Prop := ∀ i ∈ done, ∀ o, ops[i]? = some o → ∀ j, hangsB o j = true → j ∈ done
def anyE (P : Program) (ops : Array Oper) (I : World → Prop) : Nat → List Nat → Env → World → (Env → World → Prop) → Prop
  | 0, done, ρ, w, N => (∀ i, i < ops.size → readyE ops done i = false) ∧ N ρ w
  | n + 1, done, ρ, w, N => ((∀ i, i < ops.size → readyE ops done i = false) → N ρ w) ∧
      ∀ i, i < ops.size → readyE ops done i = true → stepE P ops i ρ w fun ρ' w' => (lastB ops i = true ∨ I w') ∧ anyE P ops I n (i :: done) ρ' w' N
theorem any_mem {l : List Nat} {i : Nat} : l.any (Nat.beq i) = true ↔ i ∈ l := by
  rw [List.any_eq_true]
  constructor
  · rintro ⟨x, hx, h⟩; have := Nat.eq_of_beq_eq_true h; subst this; exact hx
  · intro h; exact ⟨i, h, Nat.beq_refl i⟩
theorem any_congr {l l' : List Nat} (h : ∀ i, i ∈ l ↔ i ∈ l') (i : Nat) : l.any (Nat.beq i) = l'.any (Nat.beq i) := by
  rw [Bool.eq_iff_iff, any_mem, any_mem]; exact h i
theorem readyE_congr {ops : Array Oper} {l l' : List Nat} (h : ∀ i, i ∈ l ↔ i ∈ l') (i : Nat) : readyE ops l i = readyE ops l' i := by
  unfold readyE
  rw [any_congr h]
  congr 1
  split
  · congr 1; funext e; rw [any_congr h]
  · rfl
theorem anyE_congr {P : Program} {ops : Array Oper} {I : World → Prop} (n : Nat) : ∀ {l l' : List Nat} {ρ : Env} {w : World} {N : Env → World → Prop}, (∀ i, i ∈ l ↔ i ∈ l') → anyE P ops I n l ρ w N → anyE P ops I n l' ρ w N := by
  induction n with
  | zero => intro l l' ρ w N h ha; exact ⟨fun i hi => by rw [← readyE_congr h]; exact ha.1 i hi, ha.2⟩
  | succ n ih =>
    intro l l' ρ w N h ha
    refine ⟨fun hn => ha.1 fun i hi => by rw [readyE_congr h]; exact hn i hi, fun i hi hr => ?_⟩
    refine stepE_mono (ha.2 i hi (by rw [readyE_congr h]; exact hr)) fun ρ' w' ⟨h1, h2⟩ => ⟨h1, ih (fun j => ?_) h2⟩
    simp [h j]
theorem go_tail (m : Region.Mode) (ops : Array Oper) (n : Nat) : ∀ (t : Nat) (listed : Array Bool) (acc : List Nat), ∃ tail, Region.linearise.go m ops n t listed acc = acc.reverse ++ tail := by
  induction n with
  | zero => intro t listed acc; exact ⟨[], by simp [Region.linearise.go]⟩
  | succ n ih =>
    intro t listed acc
    simp only [Region.linearise.go]
    split
    · rename_i i _
      obtain ⟨tail, ht⟩ := ih (t / ((List.range ops.size).filter fun i => !listed.getD i true && ((ops[i]?).map (·.after.all fun e => !Region.binds m e || listed.getD e.on false)).getD false).length) (listed.setIfInBounds i true) (i :: acc)
      exact ⟨i :: tail, by rw [ht]; simp⟩
    · exact ⟨[], by simp⟩
/-- ord is an order that the edges of a mode allow. -/
def topoB (m : Region.Mode) (ops : Array Oper) : List Nat → List Nat → Bool
  | [], _ => true
  | i :: rest, before => (match ops.toList[i]? with | some o => o.after.toList.all fun e => !Region.binds m e || before.any (Nat.beq e.on) | none => false) && topoB m ops rest (i :: before)
def coverB (n : Nat) (ord : List Nat) : Bool := (List.range n).all fun i => ord.any (Nat.beq i)
theorem topo_progress {m : Region.Mode} {ops : Array Oper} {listed : Array Bool} (hs : listed.size = ops.size) (ord : List Nat) : ∀ before : List Nat, topoB m ops ord before = true → (∀ i ∈ before, listed.getD i false = true) →
    (∀ i, i < ops.size → (!listed.getD i true && ((ops[i]?).map (·.after.all fun e => !Region.binds m e || listed.getD e.on false)).getD false) = false) → ∀ i ∈ ord, listed.getD i false = true := by
  induction ord with
  | nil => intro _ _ _ _ i hi; cases hi
  | cons j ord ih =>
    intro before ht hb hn
    simp only [topoB, Bool.and_eq_true] at ht
    have hj : listed.getD j false = true := by
      have h1 := ht.1
      rw [Array.getElem?_toList] at h1
      cases ho : ops[j]? with
      | none => rw [ho] at h1; cases h1
      | some o =>
        rw [ho] at h1
        have hlt := (Array.getElem?_eq_some_iff.1 ho).1
        have h2 := hn j hlt
        rw [ho] at h2
        have h3 : (o.after.all fun e => !Region.binds m e || listed.getD e.on false) = true := by
          rw [Array.all_eq_true']
          intro e he
          have := List.all_eq_true.1 h1 e (by simpa using he)
          simp only [Bool.or_eq_true] at this ⊢
          rcases this with h | h
          · exact .inl h
          · exact .inr (hb _ (any_mem.1 h))
        simp only [Option.map_some, Option.getD_some, h3, Bool.and_true, Bool.not_eq_false'] at h2
        have hl : j < listed.size := by omega
        simp only [Array.getD_eq_getD_getElem?, Array.getElem?_eq_getElem hl, Option.getD_some] at h2 ⊢
        exact h2
    intro i hi
    rcases List.mem_cons.1 hi with rfl | hi
    · exact hj
    · exact ih (j :: before) ht.2 (fun k hk => by rcases List.mem_cons.1 hk with rfl | hk; exact hj; exact hb k hk) hn i hi
/-- What the order may be, is allowed. -/
theorem any_schedule {P : Program} {ops : Array Oper} {I : World → Prop} {N : Env → World → Prop} (m : Region.Mode) {ord : List Nat} (htopo : topoB m ops ord [] = true) (hcov : coverB ops.size ord = true) (n : Nat) : ∀ (t : Nat) (listed : Array Bool) (acc done : List Nat) (ρ : Env) (w : World),
    (∀ i, i < ops.size → listed.getD i true = done.any (Nat.beq i)) → (∀ i, listed.getD i false = true → i ∈ done) → listed.size = ops.size → anyE P ops I n done ρ w N →
    ∃ tail, Region.linearise.go m ops n t listed acc = acc.reverse ++ tail ∧ listE P ops tail ρ w N := by
  have hready : ∀ (listed : Array Bool) (done : List Nat) (i : Nat), (∀ i, i < ops.size → listed.getD i true = done.any (Nat.beq i)) → (∀ i, listed.getD i false = true → i ∈ done) → i < ops.size →
      (!listed.getD i true && ((ops[i]?).map (·.after.all fun e => !Region.binds m e || listed.getD e.on false)).getD false) = true → readyE ops done i = true := by
    intro listed done i h1 h2 hi h
    simp only [Bool.and_eq_true] at h
    unfold readyE
    rw [← h1 i hi, h.1, Bool.true_and]
    have ho : ops[i]? = some ops[i] := Array.getElem?_eq_getElem hi
    rw [Array.getElem?_toList, ho]
    have h3 := h.2
    rw [ho] at h3
    simp only [Option.map_some, Option.getD_some, Array.all_eq_true'] at h3
    refine List.all_eq_true.2 fun e he => ?_
    have := h3 e (by simpa using he)
    simp only [Bool.or_eq_true, Bool.not_eq_true'] at this ⊢
    rcases this with hb | hb
    · left
      unfold Region.binds at hb
      cases hg : e.ground <;> rw [hg] at hb <;> first | rfl | cases hb
    · right; exact any_mem.2 (h2 _ hb)
  induction n with
  | zero => intro t listed acc done ρ w _ _ _ ha; exact ⟨[], by simp [Region.linearise.go], ha.2⟩
  | succ n ih =>
    intro t listed acc done ρ w h1 h2 hs ha
    simp only [Region.linearise.go]
    generalize hrs : (List.range ops.size).filter _ = rs
    have hmem : ∀ i, i ∈ rs → i < ops.size ∧ readyE ops done i = true := by
      intro i hi
      rw [← hrs, List.mem_filter, List.mem_range] at hi
      exact ⟨hi.1, hready listed done i h1 h2 hi.1 hi.2⟩
    cases hp : rs[t % rs.length]? with
    | none =>
      have hnil : rs = [] := by
        rcases rs with _ | ⟨a, l⟩
        · rfl
        · have : t % (a :: l).length < (a :: l).length := Nat.mod_lt _ (by simp)
          rw [List.getElem?_eq_getElem this] at hp
          cases hp
      have hn : ∀ i, i < ops.size → (!listed.getD i true && ((ops[i]?).map (·.after.all fun e => !Region.binds m e || listed.getD e.on false)).getD false) = false := by
        intro i hi
        cases hq : (!listed.getD i true && ((ops[i]?).map (·.after.all fun e => !Region.binds m e || listed.getD e.on false)).getD false) with
        | false => rfl
        | true =>
          have : i ∈ rs := by rw [← hrs, List.mem_filter]; exact ⟨List.mem_range.2 hi, hq⟩
          rw [hnil] at this; cases this
      have hall := topo_progress hs ord [] htopo (fun _ h => by cases h) hn
      refine ⟨[], by simp, ha.1 fun i hi => ?_⟩
      have hin := any_mem.1 (List.all_eq_true.1 hcov i (List.mem_range.2 hi))
      have hd := h2 i (hall i hin)
      unfold readyE
      rw [any_mem.2 hd]
      rfl
    | some i =>
      obtain ⟨hi, hr⟩ := hmem i (List.mem_of_getElem? hp)
      have hstep := ha.2 i hi hr
      have key : ∀ ρ' w', anyE P ops I n (i :: done) ρ' w' N → ∃ tail, Region.linearise.go m ops n (t / rs.length) (listed.setIfInBounds i true) (i :: acc) = (i :: acc).reverse ++ tail ∧ listE P ops tail ρ' w' N := by
        intro ρ' w' h'
        refine ih _ _ _ (i :: done) ρ' w' ?_ ?_ (by simpa using hs) h'
        · intro j hj
          by_cases e : j = i
          · subst e; simp [Array.getD_eq_getD_getElem?, hs, hj]
          · have e2 : Nat.beq j i = false := by
              cases hq : Nat.beq j i with
              | false => rfl
              | true => exact absurd (Nat.eq_of_beq_eq_true hq) e
            rw [List.any_cons, e2, Bool.false_or, ← h1 j hj]
            simp only [Array.getD_eq_getD_getElem?, Array.getElem?_setIfInBounds]
            rw [if_neg (fun hh => e hh.symm)]
        · intro j hj
          by_cases e : j = i
          · subst e; exact List.mem_cons_self
          · refine List.mem_cons_of_mem _ (h2 j ?_)
            simp only [Array.getD_eq_getD_getElem?, Array.getElem?_setIfInBounds] at hj ⊢
            rwa [if_neg (fun hh => e hh.symm)] at hj
      obtain ⟨tail, ht⟩ := go_tail m ops n (t / rs.length) (listed.setIfInBounds i true) (i :: acc)
      dsimp only
      refine ⟨i :: tail, by rw [ht]; simp, ?_⟩
      show stepE P ops i ρ w _
      refine stepE_mono hstep fun ρ' w' ⟨_, h'⟩ => ?_
      obtain ⟨tail', ht', hl⟩ := key ρ' w' h'
      rw [ht] at ht'
      have := List.append_cancel_left ht'
      subst this
      exact hl
/-- A statement of open order: the two orders show that it comes to its end in each mode. -/
theorem d_any {P : Program} {ops : Array Oper} {ρ : Env} {w : World} {N : Env → World → Prop} (I : World → Prop) (ordT ordG : List Nat) (hT : (topoB .text ops ordT [] && coverB ops.size ordT) = true) (hG : (topoB .gc ops ordG [] && coverB ops.size ordG) = true)
    (h : anyE P ops I ops.size [] ρ { w with drawn := w.drawn + 1 } N) : drawE P ops ρ w N := by
  simp only [Bool.and_eq_true] at hT hG
  have weak : ∀ (ord before : List Nat), topoB .text ops ord before = true → topoB .any ops ord before = true := by
    intro ord
    induction ord with
    | nil => intro _ _; rfl
    | cons i ord ih =>
      intro before hh
      simp only [topoB, Bool.and_eq_true] at hh ⊢
      refine ⟨?_, ih _ hh.2⟩
      have h1 := hh.1
      revert h1
      split
      · intro h1
        refine List.all_eq_true.2 fun e he => ?_
        have := List.all_eq_true.1 h1 e he
        simp only [Bool.or_eq_true, Bool.not_eq_true'] at this ⊢
        rcases this with hb | hb
        · left
          unfold Region.binds at hb ⊢
          cases hg : e.ground <;> rw [hg] at hb <;> first | rfl | cases hb
        · exact .inr hb
      · exact id
  intro t
  have start : ∀ (m : Region.Mode) (ord : List Nat) (t : Nat), topoB m ops ord [] = true → coverB ops.size ord = true → listE P ops (Region.linearise m ops t) ρ { w with drawn := w.drawn + 1 } N := by
    intro m ord t h1 h2
    obtain ⟨tail, ht, hl⟩ := any_schedule (P := P) (N := N) (I := I) m h1 h2 ops.size t (Array.replicate ops.size false) [] [] ρ _ (fun i hi => by simp [Array.getD_eq_getD_getElem?, hi]) (fun i hi => by
      simp only [Array.getD_eq_getD_getElem?, Array.getElem?_replicate] at hi
      split at hi <;> cases hi) (by simp) h
    unfold Region.linearise
    rw [ht]
    exact hl
  unfold Region.schedule
  split
  · exact start .any ordT t (weak _ _ hT.1) hT.2
  · split
    · exact start .text ordT _ hT.1 hT.2
    · exact start .gc ordG _ hG.1 hG.2
/-- the slots at which an operation looks, its own among them -/
def namesB (ops : Array Oper) (o : Oper) : List Nat :=
  o.dst.toList ++ (o.op.operands.toList.filterMap fun | .tmp t => some t | _ => none) ++ (match o.guard with | some (j, _) => ((ops.toList[j]?).bind (·.dst)).toList | none => [])
/-- No operation writes a slot at which one looks that may come in either order. -/
def apartB (ops : Array Oper) : Bool :=
  (ops.toList.zipIdx).all fun (oi, i) => (ops.toList.zipIdx).all fun (oj, j) => Nat.beq i j || (match oi.dst with | some d => !((namesB ops oj).any (Nat.beq d)) | none => true) || hangsB oi j || hangsB oj i
def noSelect (ops : Array Oper) : Bool := ops.toList.all fun o => match o.op with | .select .. => false | _ => true
theorem hangs_not_ready {ops : Array Oper} {o : Oper} {i j : Nat} {done : List Nat} (ho : ops[i]? = some o) (hh : hangsB o j = true) (hj : j ∉ done) : readyE ops done i = false := by
  unfold readyE
  rw [Array.getElem?_toList, ho]
  simp only [Bool.and_eq_false_iff]
  right
  rw [List.all_eq_false]
  obtain ⟨e, he, h⟩ := List.any_eq_true.1 hh
  simp only [Bool.and_eq_true] at h
  refine ⟨e, he, ?_⟩
  have hon := Nat.eq_of_beq_eq_true h.2
  have h1 := h.1
  simp only [Bool.not_eq_true, Bool.or_eq_false_iff]
  constructor
  · cases hg : e.ground <;> rw [hg] at h1 <;> first | rfl | cases h1
  · cases hq : done.any (Nat.beq e.on) with
    | false => rfl
    | true => exact absurd (hon ▸ any_mem.1 hq) hj
theorem ready_not_done {ops : Array Oper} {done : List Nat} {i : Nat} (h : readyE ops done i = true) : i ∉ done := by
  intro hm
  unfold readyE at h
  rw [any_mem.2 hm] at h
  cases h
theorem ready_more {ops : Array Oper} {done : List Nat} {i j : Nat} (h : readyE ops done i = true) (hij : i ≠ j) : readyE ops (j :: done) i = true := by
  unfold readyE at h ⊢
  simp only [Bool.and_eq_true] at h ⊢
  constructor
  · have h1 := h.1
    rw [List.any_cons]
    have : Nat.beq i j = false := by
      cases hq : Nat.beq i j with
      | false => rfl
      | true => exact absurd (Nat.eq_of_beq_eq_true hq) hij
    rw [this, Bool.false_or]; exact h1
  · have h2 := h.2
    revert h2
    split
    · intro h2
      refine List.all_eq_true.2 fun e he => ?_
      have := List.all_eq_true.1 h2 e he
      simp only [Bool.or_eq_true] at this ⊢
      rcases this with h | h
      · exact .inl h
      · exact .inr (any_mem.2 (List.mem_cons_of_mem _ (any_mem.1 h)))
    · exact id
theorem apart_names {ops : Array Oper} (ha : apartB ops = true) {i j : Nat} {oi oj : Oper} (hi : ops[i]? = some oi) (hj : ops[j]? = some oj) (hne : i ≠ j) {done : List Nat} (ri : readyE ops done i = true) (rj : readyE ops done j = true) : ∀ d, oi.dst = some d → d ∉ namesB ops oj := by
  intro d hd hm
  unfold apartB at ha
  have h1 := List.all_eq_true.1 ha (oi, i) (by rw [List.mem_zipIdx_iff_getElem?]; simpa using hi)
  have h2 := List.all_eq_true.1 h1 (oj, j) (by rw [List.mem_zipIdx_iff_getElem?]; simpa using hj)
  simp only [Bool.or_eq_true, hd] at h2
  rcases h2 with ((h | h) | h) | h
  · exact hne (Nat.eq_of_beq_eq_true h)
  · rw [any_mem.2 hm] at h; cases h
  · have := hangs_not_ready hi h (ready_not_done rj); rw [ri] at this; cases this
  · have := hangs_not_ready hj h (ready_not_done ri); rw [rj] at this; cases this
theorem putE_comm {ρ : Env} {a b : Option Nat} {u v : Value} (h : ∀ d, a = some d → b ≠ some d) : putE (putE ρ a u) b v = putE (putE ρ b v) a u := by
  cases a with
  | none => rfl
  | some a =>
    cases b with
    | none => rfl
    | some b =>
      have hab : a ≠ b := fun e => h a rfl (by rw [e])
      funext t
      show (bif Nat.beq t b then v else bif Nat.beq t a then u else ρ t) = (bif Nat.beq t a then u else bif Nat.beq t b then v else ρ t)
      cases h1 : Nat.beq t b with
      | false => rfl
      | true =>
        have := Nat.eq_of_beq_eq_true h1
        subst this
        cases h2 : Nat.beq t a with
        | false => rfl
        | true => exact absurd (Nat.eq_of_beq_eq_true h2).symm hab
theorem putE_off {ρ : Env} {d : Option Nat} {v : Value} {t : Nat} (h : ∀ k, d = some k → k ≠ t) : putE ρ d v t = ρ t := by
  cases d with
  | none => rfl
  | some k =>
    show (bif Nat.beq t k then v else ρ t) = ρ t
    cases hq : Nat.beq t k with
    | false => rfl
    | true => exact absurd (Nat.eq_of_beq_eq_true hq).symm (h k rfl)
/-- A step hangs on the slots at which it looks alone. -/
theorem stepE_congr {P : Program} {ops : Array Oper} {i : Nat} {o : Oper} {ρ ρ' : Env} {w : World} {K : Env → World → Prop} (ho : ops[i]? = some o) (hs : ∀ cs b, o.op ≠ .select cs b) (hn : ∀ t ∈ namesB ops o, ρ' t = ρ t)
    (h : stepE P ops i ρ w fun ρ1 w1 => ∀ v, ρ1 = putE ρ o.dst v → K (putE ρ' o.dst v) w1) : stepE P ops i ρ' w K := by
  have hev : ∀ x ∈ o.op.operands, ev ρ x = ev ρ' x := by
    intro x hx
    cases x with
    | tmp t => exact (hn t (by unfold namesB; simp only [List.mem_append]; exact .inl (.inr (List.mem_filterMap.2 ⟨.tmp t, by simpa using hx, rfl⟩)))).symm
    | _ => rfl
  have hw : Region.wanted o (yE ops ρ') = Region.wanted o (yE ops ρ) := by
    unfold Region.wanted
    cases hg : o.guard with
    | none => rfl
    | some g =>
      obtain ⟨j, want⟩ := g
      have : yE ops ρ' j = yE ops ρ j := by
        unfold yE
        cases hd : (ops[j]?).bind (·.dst) with
        | none => rfl
        | some d =>
          simp only
          rw [hn d (by unfold namesB; simp only [List.mem_append, hg, Array.getElem?_toList, hd]; right; simp)]
      simp only [this]
  unfold stepE at h ⊢
  rw [ho] at h ⊢
  dsimp only at h ⊢
  rw [hw]
  split
  · rename_i hww
    rw [if_pos hww] at h
    have he : execOp (ev ρ') o = execOp (ev ρ) o := (execOp_congr o hs hev).symm
    unfold opE at h ⊢
    rw [he]
    revert h
    generalize (execOp (ev ρ) o).run P w = r
    intro h
    split at h
    · exact h _ rfl
    · exact h _ rfl
    · exact h.mono fun e w'' ⟨v, hv, hk⟩ => ⟨v, hv, hk v rfl⟩
    · exact h.mono fun e w'' ⟨v, hv, hk⟩ => ⟨v, hv, hk v rfl⟩
    · exact h.elim
  · rename_i hww
    rw [if_neg hww] at h
    exact h _ rfl
/-- What is put where: an environment's step, told. -/
theorem stepE_told {P : Program} {ops : Array Oper} {i : Nat} {o : Oper} {ρ : Env} {w : World} {K : Env → World → Prop} (ho : ops[i]? = some o) (h : stepE P ops i ρ w K) : stepE P ops i ρ w fun ρ1 w1 => K ρ1 w1 ∧ ∃ v, ρ1 = putE ρ o.dst v := by
  unfold stepE at h ⊢
  rw [ho] at h ⊢
  dsimp only at h ⊢
  split
  · rename_i hw; rw [if_pos hw] at h; exact opE_mono h fun v w' hk => ⟨hk, v, rfl⟩
  · rename_i hw; rw [if_neg hw] at h; exact ⟨h, _, rfl⟩
theorem Closed.cons {ops : Array Oper} {done : List Nat} {i : Nat} (h : Closed ops done) (hr : readyE ops done i = true) : Closed ops (i :: done) := by
  intro k hk o ho j hj
  rcases List.mem_cons.1 hk with rfl | hk
  · by_cases hd : j ∈ done
    · exact List.mem_cons_of_mem _ hd
    · have := hangs_not_ready ho hj hd; rw [hr] at this; cases this
  · exact List.mem_cons_of_mem _ (h k hk o ho j hj)
theorem edges_hang {o : Oper} {j : Nat} (h : j ∈ edgesE o) : hangsB o j = true := by
  unfold edgesE at h
  obtain ⟨e, he, h1⟩ := List.mem_filterMap.1 h
  unfold hangsB
  refine List.any_eq_true.2 ⟨e, he, ?_⟩
  show (bindsB e && Nat.beq e.on j) = true
  cases hg : bindsB e with
  | true =>
    rw [hg, if_pos rfl] at h1
    injection h1 with h1
    rw [h1, Nat.beq_refl]; rfl
  | false => rw [hg] at h1; cases h1
theorem reach_done {ops : Array Oper} {done : List Nat} {i j : Nat} (hcl : Closed ops done) (hr : readyE ops done i = true) (hj : j ∈ reachB ops i) : j = i ∨ j ∈ done := by
  have key : ∀ (l S : List Nat), (∀ k ∈ S, k = i ∨ k ∈ done) → ∀ k ∈ l.foldl (fun S k => if S.any (Nat.beq k) then (match ops.toList[k]? with | some o => edgesE o ++ S | none => S) else S) S, k = i ∨ k ∈ done := by
    intro l
    induction l with
    | nil => exact fun S h => h
    | cons a l ih =>
      intro S h
      refine ih _ ?_
      dsimp only
      split
      · rename_i ha
        have ha := any_mem.1 ha
        cases ho : ops.toList[a]? with
        | none => exact h
        | some o =>
          intro k hk
          rcases List.mem_append.1 hk with hk | hk
          · have hh := edges_hang hk
            rw [Array.getElem?_toList] at ho
            right
            rcases h a ha with rfl | had
            · by_cases hd : k ∈ done
              · exact hd
              · have := hangs_not_ready ho hh hd; rw [hr] at this; cases this
            · exact hcl a had o ho k hh
          · exact h k hk
      · exact h
  exact key _ _ (fun k hk => .inl (List.mem_singleton.1 hk)) j hj
/-- Taken first: an operation that gives v in every world that the statement passes. -/
theorem any_pull {P : Program} {ops : Array Oper} {I : World → Prop} {N : Env → World → Prop} (ha : apartB ops = true) (hsel : noSelect ops = true) {r : Nat} {o : Oper} {v : Value} (ho : ops[r]? = some o) (n : Nat) : ∀ {done : List Nat} {ρ : Env} {w : World}, Closed ops done → readyE ops done r = true →
    (∀ w', I w' → ∀ K : Env → World → Prop, K (putE ρ o.dst v) w' → stepE P ops r ρ w' K) → I w → anyE P ops I n (r :: done) (putE ρ o.dst v) w N → anyE P ops I (n + 1) done ρ w N := by
  have hrlt := (Array.getElem?_eq_some_iff.1 ho).1
  have nosel : ∀ {i : Nat} {oi : Oper}, ops[i]? = some oi → ∀ cs b, oi.op ≠ .select cs b := by
    intro i oi hi cs b he
    have := List.all_eq_true.1 hsel oi (by simpa using Array.mem_of_getElem? hi)
    rw [he] at this; cases this
  induction n with
  | zero =>
    intro done ρ w hcl hr hst hI h
    refine ⟨fun hn => (by rw [hn r hrlt] at hr; cases hr), fun i hi hri => ?_⟩
    by_cases e : i = r
    · subst e; exact hst w hI _ ⟨.inr hI, h⟩
    · have := h.1 i hi; rw [ready_more hri e] at this; cases this
  | succ n ih =>
    intro done ρ w hcl hr hst hI h
    refine ⟨fun hn => (by rw [hn r hrlt] at hr; cases hr), fun i hi hri => ?_⟩
    by_cases e : i = r
    · subst e; exact hst w hI _ ⟨.inr hI, h⟩
    · have hoi : ops[i]? = some ops[i] := Array.getElem?_eq_getElem hi
      generalize ops[i] = oi at hoi
      have h1 := h.2 i hi (ready_more hri e)
      have d1 := apart_names ha ho hoi (fun hh => e hh.symm) hr hri
      have d2 := apart_names ha hoi ho e hri hr
      refine stepE_congr (ρ := putE ρ o.dst v) hoi (nosel hoi) (fun t ht => (putE_off fun k hk hkt => d1 k hk (hkt ▸ ht)).symm) ?_
      have hnl : lastB ops i = true → False := by
        intro hl
        have := List.all_eq_true.1 hl r (List.mem_range.2 hrlt)
        simp only [Bool.or_eq_true] at this
        rcases this with (hb | hb) | hb
        · exact e (Nat.eq_of_beq_eq_true hb).symm
        · rcases reach_done hcl hri (any_mem.1 hb) with h0 | h0
          · exact e h0.symm
          · exact ready_not_done hr h0
        · rcases reach_done hcl hr (any_mem.1 hb) with h0 | h0
          · exact e h0
          · exact ready_not_done hri h0
      refine stepE_mono (stepE_told hoi h1) fun ρ1 w1 ⟨⟨hI1', hk⟩, u, hu⟩ x hx => ?_
      have hI1 : I w1 := hI1'.resolve_left fun hl => hnl hl
      refine ⟨.inr hI1, ?_⟩
      have hdst : ∀ d, o.dst = some d → oi.dst ≠ some d := fun d hd hd' => d1 d hd (by unfold namesB; rw [hd']; simp)
      refine ih (hcl.cons hri) (ready_more hr (fun hh => e hh.symm)) (fun w' hI' K hK => ?_) hI1 ?_
      · refine stepE_congr (ρ := ρ) ho (nosel ho) (fun t ht => putE_off fun k hk hkt => d2 k hk (hkt ▸ ht)) (hst w' hI' _ fun v' hv' => ?_)
        cases hd : o.dst with
        | none => rw [hd] at hK; exact hK
        | some d =>
          rw [hd] at hK hv'
          have hvv : v = v' := by
            have := congrFun hv' d
            simpa [putE, up, Nat.beq_refl] using this
          rw [← hvv]; exact hK
      · rw [← putE_comm hdst, ← hx]
        exact anyE_congr n (fun j => by simp only [List.mem_cons]; constructor <;> rintro (h | h | h) <;> simp [h]) hk
end Go.Proofs.YtcgagmojgjbfpaaDoor
