/- Operations that only compute or read: what each gives ('qv'), and the steps of a walk in the order of the text. -/
import Derived.Test.YtcgagmojgjbfpaaDoorW0
import Derived.Lib.Hide
namespace Go.Proofs.YtcgagmojgjbfpaaDoor
open Go Go.RowKit
section
variable {P : Program} {ρ : Env} {w : World} {ty : TypeId}
/-- The operation gives v and turns nothing. -/
def qv (P : Program) (op : Op) (ty : TypeId) (ρ : Env) (w : World) (v : Value) : Prop :=
  ∀ dst pos af g, (execOp (ev ρ) ⟨dst, op, ty, pos, af, g⟩).run P w = .ok (.value v) w
theorem q_cast {op : Op} {v v' : Value} (h : qv P op ty ρ w v) (e : v = v') : qv P op ty ρ w v' := e ▸ h
theorem q_of {op : Op} {v : Value} (s : Sem Value) (hs : ∀ dst pos af g, execOp (ev ρ) ⟨dst, op, ty, pos, af, g⟩ = (do pure (.value (← s)))) (h : s.run P w = .ok v w) : qv P op ty ρ w v := by
  intro dst pos af g
  rw [hs]
  simp [h]
theorem q_move {x : Operand} : qv P (.move x) ty ρ w (ev ρ x) := fun _ _ _ _ => rfl
theorem q_mv {x : Operand} (v : Value) (h : ev ρ x = v) : qv P (.move x) ty ρ w v := fun _ _ _ _ => by rw [← h]; rfl
theorem q_as {x : Operand} (v : Value) (h : ev ρ x = v) : qv P (.assign x) ty ρ w v := fun _ _ _ _ => by rw [← h]; rfl
theorem q_assign {x : Operand} : qv P (.assign x) ty ρ w (ev ρ x) := fun _ _ _ _ => rfl
theorem q_pick {c a b : Operand} {t : Bool} (hc : ev ρ c = .bool t) : qv P (.pick c a b) ty ρ w (if t then ev ρ a else ev ρ b) := by
  intro _ _ _ _
  simp only [execOp, hc]
  rfl
theorem q_pick_t {c a b : Operand} {t : Bool} (hc : ev ρ c = .bool t) (ht : t = true) : qv P (.pick c a b) ty ρ w (ev ρ a) := by
  have h := q_pick (P := P) (w := w) (ty := ty) (a := a) (b := b) hc
  rw [ht] at h; exact h
theorem q_pick_f {c a b : Operand} {t : Bool} (hc : ev ρ c = .bool t) (ht : t = false) : qv P (.pick c a b) ty ρ w (ev ρ b) := by
  have h := q_pick (P := P) (w := w) (ty := ty) (a := a) (b := b) hc
  rw [ht] at h; exact h
theorem q_nilCheck {x : Operand} {p : Addr} (hx : ev ρ x = .pointer (some p)) : qv P (.nilCheck x) ty ρ w (.pointer (some p)) := by
  intro _ _ _ _
  simp only [execOp, hx]
  rfl
theorem q_fieldAddr {s : TypeId} {x : Operand} {i : Nat} {p : Addr} {fs : Array Field} {f : Field} {n : Nat} (o : Nat) (hs : ∀ w, (underlying s).run P w = .ok (.struct fs) w) (hf : fs[i]? = some f)
    (hz : ∀ w, (sizeOf f.type).run P w = .ok n w) (hn : n ≠ 0) (ho : f.offset = o) (hx : ev ρ x = .pointer (some p)) : qv P (.fieldAddr s x i) ty ρ w (.pointer (some (p.add o))) := by
  subst ho
  refine q_of _ (fun _ _ _ _ => rfl) ?_
  simp [Instr.fieldAt, hs, hf, hx, Instr.sureAddr, fieldPlace, hz, hn]
theorem q_load1 {t : TypeId} {x : Operand} {p : Addr} {v : Value} (hA : ∀ w, (isAgg t).run P w = .ok false w) (hx : ev ρ x = .pointer (some p)) (hv : w.cell? p = some v) : qv P (.load t x) ty ρ w v := by
  refine q_of _ (fun _ _ _ _ => rfl) ?_
  simp [Instr.loadAt, hx, Instr.sureAddr, loadVar, hA, load, Sem.run, hv]
theorem run_loadCellsFrom {a : Addr} (n : Nat) : ∀ (i : Nat) (acc : Array Value) (cs : List Value), cs.length = n → (∀ j v, cs[j]? = some v → w.cell? (a.add (i + j)) = some v) → (loadCellsFrom a i n acc).run P w = .ok (acc ++ cs.toArray) w := by
  induction n with
  | zero => intro i acc cs hl _; have := List.eq_nil_of_length_eq_zero hl; subst this; simp [loadCellsFrom]
  | succ n ih =>
    intro i acc cs hl hc
    cases cs with
    | nil => simp at hl
    | cons v cs =>
      have h0 := hc 0 v rfl
      have hr := ih (i + 1) (acc.push v) cs (by simpa using hl) (fun j u hu => by have := hc (j + 1) u (by simpa using hu); rwa [Nat.add_assoc, Nat.add_comm 1 j])
      simp only [Nat.add_zero] at h0
      simp only [loadCellsFrom, load, Sem.run_bind, Sem.run, h0, Result.andThen_ok, hr]
      simp
theorem run_loadCells {a : Addr} {cs : List Value} (hc : ∀ j v, cs[j]? = some v → w.cell? (a.add j) = some v) : (loadCells a cs.length).run P w = .ok cs.toArray w := by
  unfold loadCells
  rw [run_loadCellsFrom cs.length 0 #[] cs rfl (fun j v hv => by rw [Nat.zero_add]; exact hc j v hv)]
  simp
/-- an element's address, of a slice -/
theorem q_indexAddr {t e : TypeId} {x i : Operand} {a : Addr} {len cap : Nat} {k : IntKind} {n : Int} {size : Nat} (ht : ∀ w, (underlying t).run P w = .ok (.slice e) w) (hz : ∀ w, (sizeOf e).run P w = .ok size w)
    (hx : ev ρ x = .slice (some a) len cap) (hi : ev ρ i = .int k n) (h : 0 ≤ n ∧ n < len) : qv P (.indexAddr t x i) ty ρ w (.pointer (some (a.add (n.toNat * size)))) := by
  refine q_of _ (fun _ _ _ _ => rfl) ?_
  simp [Instr.indexAt, hx, hi, asIntOf, ht, hz, h]
/-- an element's address, of an array in memory -/
theorem q_indexAddr_arr {t e : TypeId} {x i : Operand} {a : Addr} {len : Nat} {k : IntKind} {n : Int} {size : Nat} (ht : ∀ w, (underlying t).run P w = .ok (.array len e) w) (hz : ∀ w, (sizeOf e).run P w = .ok size w)
    (hx : ev ρ x = .pointer (some a)) (hi : ev ρ i = .int k n) (h : 0 ≤ n ∧ n < len) : qv P (.indexAddr t x i) ty ρ w (.pointer (some (a.add (n.toNat * size)))) := by
  refine q_of _ (fun _ _ _ _ => rfl) ?_
  simp [Instr.indexAt, hx, hi, asIntOf, ht, hz, h, Instr.sureAddr]
theorem q_len_slice {x : Operand} {t e : TypeId} {A : Option Addr} {n c : Nat} (ht : ∀ w, (underlying t).run P w = .ok (.slice e) w) (hx : ev ρ x = .slice A n c) :
    qv P (.call ⟨.builtin .len, #[x], #[t]⟩) ty ρ w (.int .i64 (n : Int)) := by
  intro _ _ _ _
  simp [execOp, resolve, invoke, builtin, hx, Builtin.len_, ht, goInt]
theorem q_neg {t : TypeId} {x : Operand} {k : IntKind} {a : Int} (hx : ev ρ x = .int k a) : qv P (.unOp .neg t x) ty ρ w (.int k (k.wrap (0 - a))) := by
  refine q_of _ (fun _ _ _ _ => rfl) ?_
  simp [Op.unary, Op.intArith, hx]
theorem q_conv {s d : TypeId} {x : Operand} {k k' : IntKind} {a : Int} {ds : TypeDesc} (hs : ∀ w, (underlying s).run P w = .ok ds w) (hd : ∀ w, (underlying d).run P w = .ok (.int k) w) (hx : ev ρ x = .int k' a) :
    qv P (.convert s d x) ty ρ w (.int k (k.wrap a)) := by
  refine q_of _ (fun _ _ _ _ => rfl) ?_
  simp [convert, hs, hd, hx, Conv.intToInt]
theorem eqGuard_int {op : BinOp} {t : TypeId} {x y : Operand} {k : IntKind} {a b : Int} : (eqGuard op t x y (.int k a) (.int k b)).run P w = .ok () w := by
  cases op <;> simp [eqGuard]
theorem q_int {op : BinOp} {t yt : TypeId} {x y : Operand} {k : IntKind} {a b : Int} {v : Value} (hx : ev ρ x = .int k a) (hy : ev ρ y = .int k b) (h : (binOp op t (.int k a) (.int k b)).run P w = .ok v w) : qv P (.binOp op t x y yt) ty ρ w v := by
  refine q_of (s := do eqGuard op t x y (ev ρ x) (ev ρ y); binOp op t (ev ρ x) (ev ρ y)) (fun _ _ _ _ => rfl) ?_
  simp [hx, hy, eqGuard_int, h]
section ints
variable {t yt : TypeId} {x y : Operand} {k : IntKind} {a b : Int}
theorem q_add (hx : ev ρ x = .int k a) (hy : ev ρ y = .int k b) : qv P (.binOp .add t x y yt) ty ρ w (.int k (k.wrap (a + b))) := q_int hx hy (by simp [binOp, Op.intArith])
theorem q_sub (hx : ev ρ x = .int k a) (hy : ev ρ y = .int k b) : qv P (.binOp .sub t x y yt) ty ρ w (.int k (k.wrap (a - b))) := q_int hx hy (by simp [binOp, Op.intArith])
theorem q_quo (hx : ev ρ x = .int k a) (hy : ev ρ y = .int k b) (hb : b ≠ 0) : qv P (.binOp .quo t x y yt) ty ρ w (.int k (k.wrap (a.tdiv b))) := q_int hx hy (by simp [binOp, Op.intDiv, hb])
theorem q_rem (hx : ev ρ x = .int k a) (hy : ev ρ y = .int k b) (hb : b ≠ 0) : qv P (.binOp .rem t x y yt) ty ρ w (.int k (a.tmod b)) := q_int hx hy (by simp [binOp, Op.intDiv, hb])
theorem q_lss (hx : ev ρ x = .int k a) (hy : ev ρ y = .int k b) : qv P (.binOp .lss t x y yt) ty ρ w (.bool (decide (a < b))) := q_int hx hy (by simp [binOp, Op.intCmp])
theorem q_gtr (hx : ev ρ x = .int k a) (hy : ev ρ y = .int k b) : qv P (.binOp .gtr t x y yt) ty ρ w (.bool (decide (b < a))) := q_int hx hy (by simp [binOp, Op.intCmp])
theorem q_eql (hx : ev ρ x = .int k a) (hy : ev ρ y = .int k b) : qv P (.binOp .eql t x y yt) ty ρ w (.bool (decide (a = b))) := q_int hx hy (by simp [binOp, Op.intCmp]; rfl)
theorem q_neq (hx : ev ρ x = .int k a) (hy : ev ρ y = .int k b) : qv P (.binOp .neq t x y yt) ty ρ w (.bool (decide (a ≠ b))) := q_int hx hy (by simp [binOp, Op.intCmp]; rfl)
end ints
/-- bools, strings, nil pointers -/
theorem run_equal {t : TypeId} {a b : Value} {r : Bool} (h : ∀ d : Nat, (Op.equalIn (d + 1) t a b).run P w = .ok r w) : (Op.equal t a b).run P w = .ok r w := h 9999
theorem q_eql_of {t yt : TypeId} {x y : Operand} {a b : Value} {r : Bool} (hx : ev ρ x = a) (hy : ev ρ y = b) (hg : (eqGuard .eql t x y a b).run P w = .ok () w)
    (hb : binOp .eql t a b = (do pure (.bool (← Op.equal t a b)))) (h : (Op.equal t a b).run P w = .ok r w) : qv P (.binOp .eql t x y yt) ty ρ w (.bool r) := by
  refine q_of (s := do eqGuard .eql t x y (ev ρ x) (ev ρ y); binOp .eql t (ev ρ x) (ev ρ y)) (fun _ _ _ _ => rfl) ?_
  simp [hx, hy, hg, hb, h]
theorem q_neq_of {t yt : TypeId} {x y : Operand} {a b : Value} {r : Bool} (hx : ev ρ x = a) (hy : ev ρ y = b) (hg : (eqGuard .neq t x y a b).run P w = .ok () w)
    (hb : binOp .neq t a b = (do pure (.bool (!(← Op.equal t a b))))) (h : (Op.equal t a b).run P w = .ok r w) : qv P (.binOp .neq t x y yt) ty ρ w (.bool (!r)) := by
  refine q_of (s := do eqGuard .neq t x y (ev ρ x) (ev ρ y); binOp .neq t (ev ρ x) (ev ρ y)) (fun _ _ _ _ => rfl) ?_
  simp [hx, hy, hg, hb, h]
theorem beq_decide (a b : ByteArray) : (a.toList == b.toList) = decide (a.data.toList = b.data.toList) := by
  rw [ByteArray.toList_eq, ByteArray.toList_eq, Bool.eq_iff_iff]
  simp only [beq_iff_eq, decide_eq_true_eq]
theorem q_eql_string {t yt : TypeId} {x y : Operand} {a b : ByteArray} (hx : ev ρ x = .string a) (hy : ev ρ y = .string b) : qv P (.binOp .eql t x y yt) ty ρ w (.bool (decide (a.data.toList = b.data.toList))) := by
  refine q_of (s := do eqGuard .eql t x y (ev ρ x) (ev ρ y); binOp .eql t (ev ρ x) (ev ρ y)) (fun _ _ _ _ => rfl) ?_
  simp only [hx, hy, eqGuard, binOp, Op.stringOp, beq_decide]
  rfl
theorem q_neq_string {t yt : TypeId} {x y : Operand} {a b : ByteArray} (hx : ev ρ x = .string a) (hy : ev ρ y = .string b) : qv P (.binOp .neq t x y yt) ty ρ w (.bool (decide (a.data.toList ≠ b.data.toList))) := by
  refine q_of (s := do eqGuard .neq t x y (ev ρ x) (ev ρ y); binOp .neq t (ev ρ x) (ev ρ y)) (fun _ _ _ _ => rfl) ?_
  simp only [hx, hy, eqGuard, binOp, Op.stringOp, beq_decide, ne_eq, decide_not]
  rfl
theorem q_neq_ptr_nil {t yt e : TypeId} {x y : Operand} {p : Option Addr} (ht : ∀ w, (underlying t).run P w = .ok (.pointer e) w) (hx : ev ρ x = .pointer p) (hy : ev ρ y = .pointer none) : qv P (.binOp .neq t x y yt) ty ρ w (.bool p.isSome) := by
  refine q_cast (q_neq_of (r := p.isNone) hx hy (by cases p <;> simp [eqGuard]) (by cases p <;> rfl) (run_equal fun d => ?_)) (by cases p <;> rfl)
  simp only [Op.equalIn, Sem.run_bind, ht, Result.andThen_ok]
  cases p <;> rfl
/-- cuts of slices -/
theorem q_slice {t e : TypeId} {x : Operand} {lo hi : Option Operand} {A : Option Addr} {len cap size l h : Nat} (ht : ∀ w, (underlying t).run P w = .ok (.slice e) w) (hz : ∀ w, (sizeOf e).run P w = .ok size w)
    (hx : ev ρ x = .slice A len cap)
    (hhi : match hi with | none => h = len | some o => ∃ k n, ev ρ o = .int k n ∧ 0 ≤ n ∧ n ≤ cap ∧ h = n.toNat)
    (hlo : match lo with | none => l = 0 | some o => ∃ k n, ev ρ o = .int k n ∧ 0 ≤ n ∧ n ≤ h ∧ l = n.toNat) :
    qv P (.slice t x lo hi none) ty ρ w (.slice (if cap = l then A else A.map (·.add (l * size))) (h - l) (cap - l)) := by
  refine q_of _ (fun _ _ _ _ => rfl) ?_
  have e1 : (Instr.sliceBounds true len cap (lo.map (ev ρ)) (hi.map (ev ρ)) none).run P w = .ok (l, h, cap) w := by
    unfold Instr.sliceBounds
    cases hi with
    | none =>
      simp only at hhi
      subst hhi
      cases lo with
      | none => simp only at hlo; subst hlo; simp
      | some o =>
        obtain ⟨k, n, e, h0, h1, rfl⟩ := hlo
        simp [Instr.sliceBound, e, asIntOf, h0, h1]
    | some o =>
      obtain ⟨k, n, e, h0, h1, rfl⟩ := hhi
      cases lo with
      | none => simp only at hlo; subst hlo; simp [Instr.sliceBound, e, asIntOf, h0, h1]
      | some o' =>
        obtain ⟨k', n', e', h0', h1', rfl⟩ := hlo
        simp only [Option.map_some, Instr.sliceBound, e, e', asIntOf]
        simp [h0, h1, h0']
        omega
  simp only [Instr.sliceAt, Sem.run_bind, ht, Result.andThen_ok, Instr.slice, hx, e1, hz, Option.map_none]
  simp
end
section
variable {P : Program} {all : Array Oper} {ρ : Env} {w : World} {N : Env → World → Prop} {rest : List Oper}
theorem t_nil (h : N ρ w) : textE P all [] ρ w N := h
theorem t_op {d : Option Tmp} {op : Op} {ty : TypeId} {p : String} {af : Array Edge} (h : opE P ⟨d, op, ty, p, af, none⟩ ρ w fun v w' => textE P all rest (putE ρ d v) w' N) : textE P all (⟨d, op, ty, p, af, none⟩ :: rest) ρ w N := by
  unfold textE
  rw [if_pos (by rfl)]
  exact h
/-- an operation that only computes or reads -/
theorem t_q {d : Tmp} {op : Op} {ty : TypeId} {p : String} {af : Array Edge} {v : Value} (h : qv P op ty ρ w v) (hN : textE P all rest (up ρ d v) w N) : textE P all (⟨some d, op, ty, p, af, none⟩ :: rest) ρ w N := by
  refine t_op ?_
  unfold opE
  rw [h]
  exact hN
/-- a guarded operation that is done -/
theorem t_yes {d : Option Tmp} {op : Op} {ty : TypeId} {p : String} {af : Array Edge} {j dj : Nat} {want b : Bool} (hd : (all[j]?).bind (·.dst) = some dj) (hv : ρ dj = .bool b) (hb : b = want)
    (h : textE P all (⟨d, op, ty, p, af, none⟩ :: rest) ρ w N) : textE P all (⟨d, op, ty, p, af, some (j, want)⟩ :: rest) ρ w N := by
  unfold textE at h ⊢
  rw [if_pos (by rfl)] at h
  rw [if_pos (by simp [Region.wanted, yE, hd, hv, hb])]
  exact h
/-- a guarded operation that is left out -/
theorem t_no {d : Option Tmp} {op : Op} {ty : TypeId} {p : String} {af : Array Edge} {j dj : Nat} {want b : Bool} (hd : (all[j]?).bind (·.dst) = some dj) (hv : ρ dj = .bool b) (hb : b ≠ want)
    (h : textE P all rest (putE ρ d undef) w N) : textE P all (⟨d, op, ty, p, af, some (j, want)⟩ :: rest) ρ w N := by
  unfold textE
  rw [if_neg (by simp [Region.wanted, yE, hd, hv, hb])]
  exact h
/-- a call by its contract -/
theorem t_call {d : Option Tmp} {f : FuncId} {args : Array Operand} {ats : Array TypeId} {ty : TypeId} {p : String} {af : Array Edge} {R : Ending → World → Prop} {al : List Value}
    (hf : ∀ (as : Array Value) w, (callFunc f as).run P w = .ok (.enter f as) w) (hc : Calls P f al.toArray w R) (has : args.toList.map (ev ρ) = al)
    (h : ∀ e w', R e w' → ∃ v, e = .returned v ∧ textE P all rest (putE ρ d v) w' N) : textE P all (⟨d, .call ⟨.value (.func f), args, ats⟩, ty, p, af, none⟩ :: rest) ρ w N := by
  refine t_op ?_
  unfold opE
  have e : (execOp (ev ρ) ⟨d, .call ⟨.value (.func f), args, ats⟩, ty, p, af, none⟩).run P w = .ok (.enter f al.toArray) w := by
    have e1 : args.map (ev ρ) = al.toArray := by rw [← has, ← Array.toList_map, Array.toArray_toList]
    simp [execOp, resolve, Deferred.ofValue, ev, invoke, hf, e1]
  rw [e]
  exact hc.mono fun e w' hr => h e w' hr
/-- a Bool in a slot is parted -/
theorem t_case {l : List Oper} {b : Bool} (s : Nat) (_hv : ρ s = .bool b) (h1 : b = true → textE P all l ρ w N) (h2 : b = false → textE P all l ρ w N) : textE P all l ρ w N := by
  cases b
  · exact h2 rfl
  · exact h1 rfl
end
section
variable {P : Program} {ρ : Env} {w : World} {N : Env → World → Prop} {X : Nat → Env → World → Prop} {R : Env → World → Prop}
theorem c_region {id : Nat} {ops : Array Oper} (h : textE P ops ops.toList ρ w N) : wpE P (.region id ops false) ρ w N X R := h
theorem c_seq {a b : Code} (h : wpE P a ρ w (fun ρ' w' => wpE P b ρ' w' N X R) X R) : wpE P (.seq a b) ρ w N X R := h
theorem c_cond {c : Operand} {a b : Code} {t : Bool} (hc : ev ρ c = .bool t) (h1 : t = true → wpE P a ρ w N X R) (h2 : t = false → wpE P b ρ w N X R) : wpE P (.cond c a b) ρ w N X R := ⟨t, hc, h1, h2⟩
theorem c_cond_t {c : Operand} {a b : Code} {t : Bool} (hc : ev ρ c = .bool t) (ht : t = true) (h : wpE P a ρ w N X R) : wpE P (.cond c a b) ρ w N X R := ⟨t, hc, fun _ => h, fun e => by rw [ht] at e; cases e⟩
theorem c_cond_f {c : Operand} {a b : Code} {t : Bool} (hc : ev ρ c = .bool t) (ht : t = false) (h : wpE P b ρ w N X R) : wpE P (.cond c a b) ρ w N X R := ⟨t, hc, fun e => (by rw [ht] at e; cases e), fun _ => h⟩
theorem c_skip (h : N ρ w) : wpE P .skip ρ w N X R := h
theorem c_ret (h : R ρ w) : wpE P .ret ρ w N X R := h
theorem c_exit {i : Nat} (h : X i ρ w) : wpE P (.exit i) ρ w N X R := h
theorem c_block {id : Nat} {b : Code} (h : wpE P b ρ w N (fun i ρ' w' => if i = id then N ρ' w' else X i ρ' w') R) : wpE P (.block id b) ρ w N X R := h
theorem ite_t {c : Prop} [Decidable c] {a b : Prop} (hc : c) (h : a) : if c then a else b := by rw [if_pos hc]; exact h
theorem ite_f {c : Prop} [Decidable c] {a b : Prop} (hc : ¬ c) (h : b) : if c then a else b := by rw [if_neg hc]; exact h
/-- What stands in the slots of D has turned, the others stand as they did. -/
def mix (D : List Nat) (ρ σ : Env) : Env := fun t => bif D.any (Nat.beq t) then σ t else ρ t
/-- Only slots of D are written. -/
def dstsIn (D : List Nat) : Code → Bool
  | .region _ ops _ => ops.toList.all fun o => match o.dst with | some d => D.any (Nat.beq d) | none => true
  | .seq a b => dstsIn D a && dstsIn D b
  | .cond _ a b => dstsIn D a && dstsIn D b
  | .block _ b => dstsIn D b
  | .loop b => dstsIn D b
  | _ => true
/-- ρ' is ρ but for D. -/
def Off (D : List Nat) (ρ ρ' : Env) : Prop := ∀ t, D.any (Nat.beq t) = false → ρ' t = ρ t
theorem Off.refl (D : List Nat) (ρ : Env) : Off D ρ ρ := fun _ _ => rfl
theorem Off.trans {D : List Nat} {a b c : Env} (h : Off D a b) (k : Off D b c) : Off D a c := fun t ht => (k t ht).trans (h t ht)
theorem Off.mix {D : List Nat} {ρ ρ' : Env} (h : Off D ρ ρ') : ρ' = mix D ρ ρ' := by
  funext t
  unfold Go.Proofs.YtcgagmojgjbfpaaDoor.mix
  cases ht : D.any (Nat.beq t) with
  | true => rfl
  | false => exact h t ht
theorem Off.put {D : List Nat} {ρ : Env} {d : Option Nat} (v : Value) (hd : ∀ k, d = some k → D.any (Nat.beq k) = true) : Off D ρ (putE ρ d v) := by
  intro t ht
  cases d with
  | none => rfl
  | some k =>
    show (bif Nat.beq t k then v else ρ t) = ρ t
    cases hq : Nat.beq t k with
    | false => rfl
    | true =>
      have := Nat.eq_of_beq_eq_true hq
      subst this
      rw [hd t rfl] at ht
      cases ht
theorem textE_off {D : List Nat} {ρ0 : Env} {all : Array Oper} (l : List Oper) : (∀ o ∈ l, ∀ k, o.dst = some k → D.any (Nat.beq k) = true) → ∀ (ρ : Env) (w : World) (N : Env → World → Prop), Off D ρ0 ρ → textE P all l ρ w N → textE P all l ρ w (fun ρ' w' => N ρ' w' ∧ Off D ρ0 ρ') := by
  induction l with
  | nil => exact fun _ ρ w N ho h => ⟨h, ho⟩
  | cons o l ih =>
    intro hd ρ w N ho h
    have h1 := hd o List.mem_cons_self
    have hl := fun o' ho' => hd o' (List.mem_cons_of_mem _ ho')
    unfold textE at h ⊢
    split
    · rename_i hw
      rw [if_pos hw] at h
      exact opE_mono h fun v w' h' => ih hl _ _ _ (ho.trans (Off.put v h1)) h'
    · rename_i hw
      rw [if_neg hw] at h
      exact ih hl _ _ _ (ho.trans (Off.put undef h1)) h
theorem listE_off {D : List Nat} {ρ0 : Env} {ops : Array Oper} (hd : ∀ o ∈ ops, ∀ k, o.dst = some k → D.any (Nat.beq k) = true) (l : List Nat) : ∀ (ρ : Env) (w : World) (N : Env → World → Prop), Off D ρ0 ρ → listE P ops l ρ w N → listE P ops l ρ w (fun ρ' w' => N ρ' w' ∧ Off D ρ0 ρ') := by
  induction l with
  | nil => exact fun ρ w N ho h => ⟨h, ho⟩
  | cons i l ih =>
    intro ρ w N ho h
    simp only [listE, stepE] at h ⊢
    cases hi : ops[i]? with
    | none => rw [hi] at h; exact ih _ _ _ ho h
    | some o =>
      rw [hi] at h
      have h1 := hd o (Array.mem_of_getElem? hi)
      dsimp only at h ⊢
      split
      · rename_i hw
        rw [if_pos hw] at h
        exact opE_mono h fun v w' h' => ih _ _ _ (ho.trans (Off.put v h1)) h'
      · rename_i hw
        rw [if_neg hw] at h
        exact ih _ _ _ (ho.trans (Off.put undef h1)) h
theorem wpE_mono (c : Code) : ∀ {ρ : Env} {w : World} {N N' : Env → World → Prop} {X X' : Nat → Env → World → Prop} {R R' : Env → World → Prop}, wpE P c ρ w N X R → (∀ ρ w, N ρ w → N' ρ w) → (∀ i ρ w, X i ρ w → X' i ρ w) → (∀ ρ w, R ρ w → R' ρ w) → wpE P c ρ w N' X' R' := by
  induction c with
  | skip => exact fun h hN _ _ => hN _ _ h
  | region id ops draw =>
    intro ρ w N N' X X' R R' h hN hX hR
    cases draw with
    | false =>
      have key : ∀ (l : List Oper) (ρ : Env) (w : World), textE P ops l ρ w N → textE P ops l ρ w N' := by
        intro l
        induction l with
        | nil => exact fun ρ w h => hN _ _ h
        | cons o l ih =>
          intro ρ w h
          unfold textE at h ⊢
          split
          · rename_i hw; rw [if_pos hw] at h; exact opE_mono h fun v w' h' => ih _ _ h'
          · rename_i hw; rw [if_neg hw] at h; exact ih _ _ h
      exact key _ _ _ h
    | true => exact fun t => listE_mono _ (h t) hN
  | seq x y ihx ihy => exact fun h hN hX hR => ihx h (fun _ _ h' => ihy h' hN hX hR) hX hR
  | cond c x y ihx ihy => exact fun ⟨t, ht, h1, h2⟩ hN hX hR => ⟨t, ht, fun e => ihx (h1 e) hN hX hR, fun e => ihy (h2 e) hN hX hR⟩
  | block id b ih =>
    intro ρ w N N' X X' R R' h hN hX hR
    refine ih h hN (fun i ρ w hx => ?_) hR
    split
    · rename_i e; rw [if_pos e] at hx; exact hN _ _ hx
    · rename_i e; rw [if_neg e] at hx; exact hX _ _ _ hx
  | loop b ih =>
    intro ρ w N N' X X' R R' ⟨I, n, h0, hr⟩ hN hX hR
    exact ⟨I, n, h0, fun n ρ w hi => ih (hr n ρ w hi) (fun _ _ h => h) hX hR⟩
  | exit id => exact fun h _ hX _ => hX _ _ _ h
  | ret => exact fun h _ _ hR => hR _ _ h
  | _ => exact fun h => h.elim
theorem dstsIn_at {D : List Nat} {ops : Array Oper} (h : (ops.toList.all fun o => match o.dst with | some d => D.any (Nat.beq d) | none => true) = true) : ∀ o ∈ ops, ∀ k, o.dst = some k → D.any (Nat.beq k) = true := by
  intro o ho k hk
  have := List.all_eq_true.1 h o (by simpa using ho)
  rw [hk] at this
  exact this
/-- Behind a code that writes slots of D alone the others stand as they did. -/
theorem wpE_off {D : List Nat} {ρ0 : Env} (c : Code) : dstsIn D c = true → ∀ {ρ : Env} {w : World} {N : Env → World → Prop} {X : Nat → Env → World → Prop} {R : Env → World → Prop}, Off D ρ0 ρ → wpE P c ρ w N X R →
    wpE P c ρ w (fun ρ' w' => N ρ' w' ∧ Off D ρ0 ρ') (fun i ρ' w' => X i ρ' w' ∧ Off D ρ0 ρ') R := by
  induction c with
  | skip => exact fun _ _ _ _ _ _ ho h => ⟨h, ho⟩
  | region id ops draw =>
    intro hd ρ w N X R ho h
    simp only [dstsIn] at hd
    cases draw with
    | false => exact textE_off _ (fun o ho' => dstsIn_at hd o (by simpa using ho')) _ _ _ ho h
    | true => exact fun t => listE_off (dstsIn_at hd) _ _ _ _ ho (h t)
  | seq x y ihx ihy =>
    intro hd ρ w N X R ho h
    simp only [dstsIn, Bool.and_eq_true] at hd
    exact wpE_mono x (ihx hd.1 ho h) (fun ρ' w' ⟨h', ho'⟩ => ihy hd.2 ho' h') (fun _ _ _ h => h) (fun _ _ h => h)
  | cond c x y ihx ihy =>
    intro hd ρ w N X R ho ⟨t, ht, h1, h2⟩
    simp only [dstsIn, Bool.and_eq_true] at hd
    exact ⟨t, ht, fun e => ihx hd.1 ho (h1 e), fun e => ihy hd.2 ho (h2 e)⟩
  | block id b ih =>
    intro hd ρ w N X R ho h
    refine wpE_mono b (ih hd ho h) (fun _ _ h => h) (fun i ρ w hx => ?_) (fun _ _ h => h)
    obtain ⟨hx, ho'⟩ := hx
    split
    · rename_i e; rw [if_pos e] at hx; exact ⟨hx, ho'⟩
    · rename_i e; rw [if_neg e] at hx; exact ⟨hx, ho'⟩
  | loop b ih =>
    intro hd ρ w N X R ho ⟨I, n, h0, hr⟩
    refine ⟨fun n ρ w => I n ρ w ∧ Off D ρ0 ρ, n, ⟨h0, ho⟩, fun n ρ w ⟨hi, ho'⟩ => ?_⟩
    exact wpE_mono b (ih hd ho' (hr n ρ w hi)) (fun ρ' w' ⟨⟨n', hlt, hi'⟩, ho''⟩ => ⟨n', hlt, hi', ho''⟩) (fun _ _ _ h => h) (fun _ _ h => h)
  | exit id => exact fun _ _ _ _ _ _ ho h => ⟨h, ho⟩
  | ret => exact fun _ _ _ _ _ _ _ h => h
  | _ => exact fun _ _ _ _ _ _ _ h => h.elim
/-- A loop: D: the slots that its body writes; I: what holds of them at a round's head, with a number that each round lowers. -/
theorem c_loop {b : Code} (D : List Nat) (I : Nat → Env → World → Prop) (n : Nat) (hD : dstsIn D b = true) (h0 : I n ρ w)
    (hr : ∀ n σ w, I n σ w → wpE P b (mix D ρ σ) w (fun ρ' w' => ∃ n', n' < n ∧ I n' ρ' w') X R) : wpE P (.loop b) ρ w N X R := by
  refine ⟨fun n ρ' w => I n ρ' w ∧ Off D ρ ρ', n, ⟨h0, Off.refl _ _⟩, fun n ρ' w ⟨hi, ho⟩ => ?_⟩
  have h1 := hr n ρ' w hi
  rw [← ho.mix] at h1
  exact wpE_mono b (wpE_off b hD ho h1) (fun ρ'' w' ⟨⟨n', hlt, hi'⟩, ho''⟩ => ⟨n', hlt, hi', ho''⟩) (fun _ _ _ h => h.1) (fun _ _ h => h)
/-- A cut: what stands behind a code is shown of whatever its slots D then hold, of which M is known. -/
theorem c_cut {a b : Code} (D : List Nat) (M : Env → World → Prop) (hD : dstsIn D a = true) (h1 : wpE P a ρ w M X R) (h2 : ∀ σ w', M σ w' → wpE P b (mix D ρ σ) w' N X R) : wpE P (.seq a b) ρ w N X R := by
  refine wpE_mono a (wpE_off a hD (Off.refl D ρ) h1) (fun ρ' w' ⟨hm, ho⟩ => ?_) (fun _ _ _ h => h.1) (fun _ _ h => h)
  have := h2 ρ' w' hm
  rwa [← ho.mix] at this
end
end Go.Proofs.YtcgagmojgjbfpaaDoor
