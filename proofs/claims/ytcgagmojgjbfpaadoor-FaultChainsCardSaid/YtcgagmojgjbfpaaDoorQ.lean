/- Equality of structs and arrays; cuts of arrays; blocks that are read as rows. -/
import Derived.Test.YtcgagmojgjbfpaaDoorR
import Derived.Lib.ConvBytes
namespace Go.Proofs.YtcgagmojgjbfpaaDoor
open Go Go.RowKit Go.Lib
section
variable {P : Program} {ρ : Env} {W w : World} {L R : List Asn} {ty : TypeId}
theorem q_negm_u64 {t : TypeId} {x : Operand} {a : Int} (hx : ev ρ x = .int .u64 a) : qv P (.unOp .neg t x) ty ρ w (.int .u64 ((0 - a) % 18446744073709551616)) := q_cast (q_neg hx) (by rw [wrapm_u64])
theorem Blk.rd {g : Nat} {t : TypeId} {cs : List Value} {off n size : Nat} {f : Nat → List Value} (hb : Blk w g t cs) (hf : ∀ i, i < n → (f i).length = size ∧ ∀ j v, (f i)[j]? = some v → cs[off + (i * size + j)]? = some v) : Rd w size (some ⟨g, off, none⟩) n f := fun _ =>
  ⟨_, rfl, hb.lt, fun i hi => ⟨(hf i hi).1, fun j v hv => by
    rw [add_add, addr_add, hb.cell]
    exact (hf i hi).2 j v hv⟩⟩
end
section
variable {P : Program} {all : Array Oper} {ρ : Env} {W w : World} {L : List Asn} {N : Env → World → Prop} {rest : List Oper}
end
/-- just the first pieces -/
theorem Sep.front {w : World} : ∀ (L M : List Asn) (F : List Nat), Sep w (L ++ M) F → ∃ F', Sep w L F' ∧ ∀ k ∈ F', k ∈ F
  | [], _, _, _ => ⟨[], rfl, fun _ h => by cases h⟩
  | A :: L, M, _, ⟨F1, F2, e, h1, h2, hd⟩ => by
    obtain ⟨F', hs, hm⟩ := Sep.front L M F2 h2
    subst e
    exact ⟨F1 ++ F', ⟨F1, F', rfl, h1, hs, fun k hk hk2 => hd k hk (hm k hk2)⟩, fun k hk => by
      rcases List.mem_append.1 hk with h | h
      · exact List.mem_append_left _ h
      · exact List.mem_append_right _ (hm k h)⟩
theorem St.front {W w : World} (L : List Asn) {M : List Asn} (h : St W w (L ++ M)) : St W w L := by
  obtain ⟨hb, F, hs, hF⟩ := h
  obtain ⟨F', hs', hm⟩ := Sep.front L M F hs
  exact ⟨hb, F', hs', fun k hk => hF k (hm k hk)⟩
section
variable {W w : World} {R : List Asn} {A B C D E G : Asn}
theorem St.front2 (h : St W w (A :: B :: R)) : St W w [A, B] := St.front [A, B] h
end
end Go.Proofs.YtcgagmojgjbfpaaDoor
