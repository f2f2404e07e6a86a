/- Equality of structs and arrays; cuts of arrays; blocks that are read as rows. -/
import Derived.Test.YtcgagmojgjbfpaaDoorR
import Derived.Lib.ConvBytes
namespace Go.Proofs.YtcgagmojgjbfpaaDoor
open Go Go.RowKit Go.Lib
section
variable {P : Program} {ρ : Env} {W w : World} {L R : List Asn} {ty : TypeId}
theorem q_negm_u64 {t : TypeId} {x : Operand} {a : Int} (hx : ev ρ x = .int .u64 a) : qv P (.unOp .neg t x) ty ρ w (.int .u64 ((0 - a) % 18446744073709551616)) := q_cast (q_neg hx) (by rw [wrapm_u64])
theorem Blk.rd {g : Nat} {t : TypeId} {cs : List Value} {off n size : Nat} {f : Nat → List Value} (hb : Blk w g t cs) (hf : ∀ i, i < n → (f i).length = size ∧ ∀ j v, (f i)[j]? = some v → cs[off + (i * size + j)]? = some v) : Rd w size (some ⟨g, off, none⟩) n f := fun _ =>
  ⟨_, rfl, hb.lt, fun i hi => ⟨(hf i hi).1, fun j v hv => by
    rw [add_add, addr_add, hb.cell]
    exact (hf i hi).2 j v hv⟩⟩
end
section
variable {P : Program} {all : Array Oper} {ρ : Env} {W w : World} {L : List Asn} {N : Env → World → Prop} {rest : List Oper}
end
section
variable {W w : World} {R : List Asn} {A B C D E G : Asn}
end
end Go.Proofs.YtcgagmojgjbfpaaDoor
