/- Texts: put together, cut out of an array; calls through an interface; pointers of an interface held against each other. -/
import Derived.Test.YtcgagmojgjbfpaaDoorIf
import Derived.LaidEql
import Derived.Stop.Asserts
namespace Go.Proofs.YtcgagmojgjbfpaaDoor
open Go Go.RowKit Go.Lib
section
variable {P : Program} {ρ : Env} {w : World} {ty : TypeId}
theorem q_add_string {t yt : TypeId} {x y : Operand} {a b : ByteArray} (hx : ev ρ x = .string a) (hy : ev ρ y = .string b) (h : a.size + b.size ≤ 9223372036854775807) : qv P (.binOp .add t x y yt) ty ρ w (.string (a ++ b)) := by
  refine q_of (s := do eqGuard .add t x y (ev ρ x) (ev ρ y); binOp .add t (ev ρ x) (ev ρ y)) (fun _ _ _ _ => rfl) ?_
  have h2 : ¬ ((a.size + b.size : Nat) : Int) > IntKind.i64.max := by
    have : IntKind.i64.max = 9223372036854775807 := by decide
    rw [this]; omega
  simp only [hx, hy, eqGuard, binOp, Op.stringOp, if_neg h2]
  rfl
theorem bs_app (a b : List UInt8) : (⟨a.toArray⟩ : ByteArray) ++ ⟨b.toArray⟩ = ⟨(a ++ b).toArray⟩ := by
  apply ByteArray.ext
  simp
theorem q_add_lst {t yt : TypeId} {x y : Operand} {a b : List UInt8} (hx : ev ρ x = .string ⟨a.toArray⟩) (hy : ev ρ y = .string ⟨b.toArray⟩) (h : a.length + b.length ≤ 9223372036854775807) : qv P (.binOp .add t x y yt) ty ρ w (.string ⟨(a ++ b).toArray⟩) :=
  q_cast (q_add_string hx hy h) (by rw [bs_app])
theorem q_eql_lst {t yt : TypeId} {x y : Operand} {a b : List UInt8} (hx : ev ρ x = .string ⟨a.toArray⟩) (hy : ev ρ y = .string ⟨b.toArray⟩) : qv P (.binOp .eql t x y yt) ty ρ w (.bool (decide (a = b))) := q_eql_string hx hy
theorem q_neq_lst {t yt : TypeId} {x y : Operand} {a b : List UInt8} (hx : ev ρ x = .string ⟨a.toArray⟩) (hy : ev ρ y = .string ⟨b.toArray⟩) : qv P (.binOp .neq t x y yt) ty ρ w (.bool (decide (a ≠ b))) := q_neq_string hx hy
theorem q_arr_from {t e : TypeId} {x o : Operand} {g off len size : Nat} {k : IntKind} {n : Int} (ht : ∀ w, (underlying t).run P w = .ok (.array len e) w) (hz : ∀ w, (sizeOf e).run P w = .ok size w)
    (hx : ev ρ x = .pointer (some ⟨g, off, none⟩)) (hlo : ev ρ o = .int k n) (h0 : 0 ≤ n) (h1 : n < len) :
    qv P (.slice t x (some o) none none) ty ρ w (.slice (some ⟨g, off + n.toNat * size, none⟩) (len - n.toNat) (len - n.toNat)) := by
  refine q_of _ (fun _ _ _ _ => rfl) ?_
  have e1 : (Instr.sliceBounds false len len (some (ev ρ o)) none none).run P w = .ok (n.toNat, len, len) w := by
    unfold Instr.sliceBounds
    have h2 : n ≤ len := by omega
    simp [Instr.sliceBound, hlo, asIntOf, h0, h2]
  simp only [Instr.sliceAt, Sem.run_bind, ht, Result.andThen_ok, hx, Instr.sureAddr, Sem.run_pure]
  simp only [Option.map_none, Option.map_some, e1, Result.andThen_ok, hz]
  have e2 : (if len = n.toNat then (⟨g, off, none⟩ : Addr) else (⟨g, off, none⟩ : Addr).add (n.toNat * size)) = ⟨g, off + n.toNat * size, none⟩ := by
    rw [addr_add, if_neg (by omega)]
  rw [e2]
end
section
variable {P : Program} {all : Array Oper} {ρ : Env} {w : World} {N : Env → World → Prop} {rest : List Oper}
end
end Go.Proofs.YtcgagmojgjbfpaaDoor
