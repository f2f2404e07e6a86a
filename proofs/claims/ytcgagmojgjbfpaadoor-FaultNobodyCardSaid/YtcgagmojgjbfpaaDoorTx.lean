/- Texts: put together, cut out of an array; calls through an interface; pointers of an interface held against each other. -/
import Derived.Test.YtcgagmojgjbfpaaDoorIf
import Derived.LaidEql
import Derived.Stop.Asserts
namespace Go.Proofs.YtcgagmojgjbfpaaDoor
open Go Go.RowKit Go.Lib
section
variable {P : Program} {ρ : Env} {w : World} {ty : TypeId}
theorem q_add_string {t yt : TypeId} {x y : Operand} {a b : ByteArray} (hx : ev ρ x = .string a) (hy : ev ρ y = .string b) (h : a.size + b.size ≤ 9223372036854775807) : qv P (.binOp .add t x y yt) ty ρ w (.string (a ++ b)) := by
  refine q_of (s := do eqGuard .add t x y (ev ρ x) (ev ρ y); binOp .add t (ev ρ x) (ev ρ y)) (fun _ _ _ _ => rfl) ?_
  have h2 : ¬ ((a.size + b.size : Nat) : Int) > IntKind.i64.max := by
    have : IntKind.i64.max = 9223372036854775807 := by decide
    rw [this]; omega
  simp only [hx, hy, eqGuard, binOp, Op.stringOp, if_neg h2]
  rfl
theorem bs_app (a b : List UInt8) : (⟨a.toArray⟩ : ByteArray) ++ ⟨b.toArray⟩ = ⟨(a ++ b).toArray⟩ := by
  apply ByteArray.ext
  simp
theorem q_add_lst {t yt : TypeId} {x y : Operand} {a b : List UInt8} (hx : ev ρ x = .string ⟨a.toArray⟩) (hy : ev ρ y = .string ⟨b.toArray⟩) (h : a.length + b.length ≤ 9223372036854775807) : qv P (.binOp .add t x y yt) ty ρ w (.string ⟨(a ++ b).toArray⟩) :=
  q_cast (q_add_string hx hy h) (by rw [bs_app])
theorem q_eql_lst {t yt : TypeId} {x y : Operand} {a b : List UInt8} (hx : ev ρ x = .string ⟨a.toArray⟩) (hy : ev ρ y = .string ⟨b.toArray⟩) : qv P (.binOp .eql t x y yt) ty ρ w (.bool (decide (a = b))) := q_eql_string hx hy
theorem q_arr_from {t e : TypeId} {x o : Operand} {g off len size : Nat} {k : IntKind} {n : Int} (ht : ∀ w, (underlying t).run P w = .ok (.array len e) w) (hz : ∀ w, (sizeOf e).run P w = .ok size w)
    (hx : ev ρ x = .pointer (some ⟨g, off, none⟩)) (hlo : ev ρ o = .int k n) (h0 : 0 ≤ n) (h1 : n < len) :
    qv P (.slice t x (some o) none none) ty ρ w (.slice (some ⟨g, off + n.toNat * size, none⟩) (len - n.toNat) (len - n.toNat)) := by
  refine q_of _ (fun _ _ _ _ => rfl) ?_
  have e1 : (Instr.sliceBounds false len len (some (ev ρ o)) none none).run P w = .ok (n.toNat, len, len) w := by
    unfold Instr.sliceBounds
    have h2 : n ≤ len := by omega
    simp [Instr.sliceBound, hlo, asIntOf, h0, h2]
  simp only [Instr.sliceAt, Sem.run_bind, ht, Result.andThen_ok, hx, Instr.sureAddr, Sem.run_pure]
  simp only [Option.map_none, Option.map_some, e1, Result.andThen_ok, hz]
  have e2 : (if len = n.toNat then (⟨g, off, none⟩ : Addr) else (⟨g, off, none⟩ : Addr).add (n.toNat * size)) = ⟨g, off + n.toNat * size, none⟩ := by
    rw [addr_add, if_neg (by omega)]
  rw [e2]
theorem run_equal' {t : TypeId} {a b : Value} {r : Bool} (h : ∀ d : Nat, (Op.equalIn (d + 2) t a b).run P w = .ok r w) : (Op.equal t a b).run P w = .ok r w := h 9998
/-- what an assertion finds of a method set -/
theorem q_has {x : Operand} {t xT asserted : TypeId} {want : Array (String × TypeId)} {v : Value} (hu : P.underlying asserted = some (.interface want)) (h : (P.info? t).map (fun i => (lacking want i.methods).isEmpty) = some true) (hx : ev ρ x = .iface t v) :
    qv P (.typeAssert x xT asserted true) ty ρ w (.tuple #[.iface t v, .bool true]) := by
  refine q_of _ (fun _ _ _ _ => rfl) ?_
  rw [hx]
  exact Go.run_typeAssert_hasB hu h v xT w
theorem q_eql_if_ptr_other {t yt tp te : TypeId} {ms : Array (String × TypeId)} {i j : TypeInfo} {x y : Operand} {a b : Addr} {ca cb : Array Value} {ta tb : TypeId} (ht : P.underlying t = some (.interface ms)) (hp : P.underlying tp = some (.pointer te)) (hi : P.info? tp = some i) (hc : i.comparable = true) (hj : P.info? te = some j) (hs : j.size ≠ 0)
    (hne : a ≠ b) (ha : w.heap[a.block]? = some (.cells ca ta (0, 0))) (hb : w.heap[b.block]? = some (.cells cb tb (0, 0))) (hx : ev ρ x = .iface tp (.pointer (some a))) (hy : ev ρ y = .iface tp (.pointer (some b))) : qv P (.binOp .eql t x y yt) ty ρ w (.bool false) :=
  q_eql_of hx hy (by simp [eqGuard]) rfl (run_equal' fun d => run_equalIn_iface_ptr_other w d ht hp hi hc hj hs hne ha hb)
theorem q_eql_if_nil_left {t yt tp : TypeId} {ms : Array (String × TypeId)} {x y : Operand} {v : Value} (ht : ∀ w, (underlying t).run P w = .ok (.interface ms) w) (hx : ev ρ x = .nilIface) (hy : ev ρ y = .iface tp v) : qv P (.binOp .eql t x y yt) ty ρ w (.bool false) := by
  refine q_eql_of hx hy (by simp [eqGuard]) rfl (run_equal fun d => ?_)
  simp only [Op.equalIn, Sem.run_bind, ht, Result.andThen_ok]
  rfl
end
section
variable {P : Program} {all : Array Oper} {ρ : Env} {w : World} {N : Env → World → Prop} {rest : List Oper}
theorem t_invoke {d : Option Tmp} {x : Operand} {name : String} {args : Array Operand} {ats : Array TypeId} {ty : TypeId} {p : String} {af : Array Edge} {R : Ending → World → Prop} {al : List Value} {t : TypeId} {v v' : Value} {f : FuncId} (hx : ev ρ x = .iface t v)
    (hm : (Go.method (P.types.size + Made.depth) t v name).run P w = .ok (f, v') w) (hf : ∀ (as : Array Value) w, (callFunc f as).run P w = .ok (.enter f as) w) (hc : Calls P f (v' :: al).toArray w R) (has : args.toList.map (ev ρ) = al)
    (h : ∀ e w', R e w' → ∃ v, e = .returned v ∧ textE P all rest (putE ρ d v) w' N) : textE P all (⟨d, .call ⟨.invoke x name, args, ats⟩, ty, p, af, none⟩ :: rest) ρ w N := by
  refine t_op ?_
  unfold opE
  have e : (execOp (ev ρ) ⟨d, .call ⟨.invoke x name, args, ats⟩, ty, p, af, none⟩).run P w = .ok (.enter f (v' :: al).toArray) w := by
    have e1 : args.map (ev ρ) = al.toArray := by rw [← has, ← Array.toList_map, Array.toArray_toList]
    have e2 : (#[Value.iface t v] ++ al.toArray).extract 1 = al.toArray := by simp
    have e3 : (#[v'] ++ al.toArray) = (v' :: al).toArray := by simp
    simp [execOp, resolve, invoke, callMethod, hx, e1, run_program, hm, hf]
  rw [e]
  exact hc.mono fun e w' hr => h e w' hr
theorem t_extern {d : Option Tmp} {f : FuncId} {args : Array Operand} {ats : Array TypeId} {ty : TypeId} {p : String} {af : Array Edge} {al : List Value} {v : Value} (has : args.toList.map (ev ρ) = al) (hf : (callFunc f al.toArray).run P w = .ok (.value v) w)
    (h : textE P all rest (putE ρ d v) w N) : textE P all (⟨d, .call ⟨.value (.func f), args, ats⟩, ty, p, af, none⟩ :: rest) ρ w N := by
  refine t_op ?_
  unfold opE
  have e : (execOp (ev ρ) ⟨d, .call ⟨.value (.func f), args, ats⟩, ty, p, af, none⟩).run P w = .ok (.value v) w := by
    have e1 : args.map (ev ρ) = al.toArray := by rw [← has, ← Array.toList_map, Array.toArray_toList]
    simp [execOp, resolve, Deferred.ofValue, ev, invoke, hf, e1]
  rw [e]
  exact h
theorem t_invoke_extern {d : Option Tmp} {x : Operand} {name : String} {ats : Array TypeId} {ty : TypeId} {p : String} {af : Array Edge} {t : TypeId} {v v' u : Value} {f : FuncId} (hx : ev ρ x = .iface t v)
    (hm : (Go.method (P.types.size + Made.depth) t v name).run P w = .ok (f, v') w) (hf : (callFunc f #[v']).run P w = .ok (.value u) w)
    (h : textE P all rest (putE ρ d u) w N) : textE P all (⟨d, .call ⟨.invoke x name, #[], ats⟩, ty, p, af, none⟩ :: rest) ρ w N := by
  refine t_op ?_
  unfold opE
  have e : (execOp (ev ρ) ⟨d, .call ⟨.invoke x name, #[], ats⟩, ty, p, af, none⟩).run P w = .ok (.value u) w := by
    simp [execOp, resolve, invoke, callMethod, hx, run_program, hm, hf]
  rw [e]
  exact h
end
end Go.Proofs.YtcgagmojgjbfpaaDoor
