/- Interface values: made, and held against nil. -/
import Derived.Test.YtcgagmojgjbfpaaDoorQ
namespace Go.Proofs.YtcgagmojgjbfpaaDoor
open Go Go.RowKit Go.Lib
/-- an interface value's being nil -/
def isNilI : Value → Bool
  | .nilIface => true
  | _ => false
def IsIf (v : Value) : Prop := v = .nilIface ∨ ∃ t u, v = .iface t u
section
variable {P : Program} {ρ : Env} {w : World} {ty : TypeId}
theorem q_iface {t : TypeId} {u : TypeDesc} {x : Operand} {v : Value} (ht : ∀ w, (underlying t).run P w = .ok u w) (hu : ∀ ms, u ≠ .interface ms) (hx : ev ρ x = v) : qv P (.makeInterface t x) ty ρ w (.iface t v) := by
  refine q_of _ (fun _ _ _ _ => rfl) ?_
  cases u <;> simp [Instr.makeInterface, ht, hx] <;> exact absurd rfl (hu _)
theorem q_eql_iface_nil {t yt : TypeId} {ms : Array (String × TypeId)} {x : Operand} {v : Value} (ht : ∀ w, (underlying t).run P w = .ok (.interface ms) w) (hx : ev ρ x = v) (hv : IsIf v) : qv P (.binOp .eql t x (.const .nilIface) yt) ty ρ w (.bool (isNilI v)) := by
  rcases hv with rfl | ⟨a, b, rfl⟩
  · refine q_eql_of (b := .nilIface) hx rfl (by simp [eqGuard]) rfl (run_equal fun d => ?_)
    simp only [Op.equalIn, Sem.run_bind, ht, Result.andThen_ok]
    rfl
  · refine q_eql_of (b := .nilIface) hx rfl (by simp [eqGuard]) rfl (run_equal fun d => ?_)
    simp only [Op.equalIn, Sem.run_bind, ht, Result.andThen_ok]
    rfl
theorem q_neq_iface_nil {t yt : TypeId} {ms : Array (String × TypeId)} {x : Operand} {v : Value} (ht : ∀ w, (underlying t).run P w = .ok (.interface ms) w) (hx : ev ρ x = v) (hv : IsIf v) : qv P (.binOp .neq t x (.const .nilIface) yt) ty ρ w (.bool (!isNilI v)) := by
  rcases hv with rfl | ⟨a, b, rfl⟩
  · refine q_neq_of (b := .nilIface) hx rfl (by simp [eqGuard]) rfl (run_equal fun d => ?_)
    simp only [Op.equalIn, Sem.run_bind, ht, Result.andThen_ok]
    rfl
  · refine q_neq_of (b := .nilIface) hx rfl (by simp [eqGuard]) rfl (run_equal fun d => ?_)
    simp only [Op.equalIn, Sem.run_bind, ht, Result.andThen_ok]
    rfl
end
end Go.Proofs.YtcgagmojgjbfpaaDoor
