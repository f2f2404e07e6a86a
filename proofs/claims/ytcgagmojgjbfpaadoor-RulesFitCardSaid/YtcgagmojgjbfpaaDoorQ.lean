/- Equality of structs and arrays; cuts of arrays; blocks that are read as rows. -/
import Derived.Test.YtcgagmojgjbfpaaDoorR
import Derived.Lib.ConvBytes
namespace Go.Proofs.YtcgagmojgjbfpaaDoor
open Go Go.RowKit Go.Lib
section
variable {P : Program} {ρ : Env} {W w : World} {L R : List Asn} {ty : TypeId}
theorem eq_lits {t : TypeId} {m D D' : Nat} {cx cy : List Value} {lx ly : List Lit} (hm : m ≤ 10000) (hk : P.keyTypeAt m t = true) (fx : Value.formed P t (.agg cx.toArray) = true) (fy : Value.formed P t (.agg cy.toArray) = true)
    (ex : P.keyLits D t cx = some lx) (ey : P.keyLits D' t cy = some ly) {b : Bool} (hb : b = true ↔ lx = ly) : (Op.equal t (.agg cx.toArray) (.agg cy.toArray)).run P w = .ok b w := by
  obtain ⟨r, hr, hiff⟩ := run_equalIn_deep (10000 - m) m t hk w D D' (.agg cx.toArray) (.agg cy.toArray) lx ly fx fy (by simpa [Value.cells] using ex) (by simpa [Value.cells] using ey)
  have hrr : r = b := by rw [Bool.eq_iff_iff, hiff, hb]
  subst hrr
  rw [Nat.sub_add_cancel hm] at hr
  exact hr
theorem q_neq_lits {t yt : TypeId} {x y : Operand} {m D D' : Nat} {cx cy : List Value} {lx ly : List Lit} (hx : ev ρ x = .agg cx.toArray) (hy : ev ρ y = .agg cy.toArray) (hg : P.eqGuardType P.depth t = false) (hm : m ≤ 10000) (hk : P.keyTypeAt m t = true)
    (fx : Value.formed P t (.agg cx.toArray) = true) (fy : Value.formed P t (.agg cy.toArray) = true) (ex : P.keyLits D t cx = some lx) (ey : P.keyLits D' t cy = some ly) {b : Bool} (hb : b = true ↔ lx = ly) : qv P (.binOp .neq t x y yt) ty ρ w (.bool (!b)) :=
  q_neq_of hx hy (by simp [eqGuard, run_program, hg]) rfl (eq_lits hm hk fx fy ex ey hb)
theorem Blk.rd {g : Nat} {t : TypeId} {cs : List Value} {off n size : Nat} {f : Nat → List Value} (hb : Blk w g t cs) (hf : ∀ i, i < n → (f i).length = size ∧ ∀ j v, (f i)[j]? = some v → cs[off + (i * size + j)]? = some v) : Rd w size (some ⟨g, off, none⟩) n f := fun _ =>
  ⟨_, rfl, hb.lt, fun i hi => ⟨(hf i hi).1, fun j v hv => by
    rw [add_add, addr_add, hb.cell]
    exact (hf i hi).2 j v hv⟩⟩
end
section
variable {P : Program} {all : Array Oper} {ρ : Env} {W w : World} {L : List Asn} {N : Env → World → Prop} {rest : List Oper}
end
/-- just the first pieces -/
theorem Sep.front {w : World} : ∀ (L M : List Asn) (F : List Nat), Sep w (L ++ M) F → ∃ F', Sep w L F' ∧ ∀ k ∈ F', k ∈ F
  | [], _, _, _ => ⟨[], rfl, fun _ h => by cases h⟩
  | A :: L, M, _, ⟨F1, F2, e, h1, h2, hd⟩ => by
    obtain ⟨F', hs, hm⟩ := Sep.front L M F2 h2
    subst e
    exact ⟨F1 ++ F', ⟨F1, F', rfl, h1, hs, fun k hk hk2 => hd k hk (hm k hk2)⟩, fun k hk => by
      rcases List.mem_append.1 hk with h | h
      · exact List.mem_append_left _ h
      · exact List.mem_append_right _ (hm k h)⟩
theorem St.front {W w : World} (L : List Asn) {M : List Asn} (h : St W w (L ++ M)) : St W w L := by
  obtain ⟨hb, F, hs, hF⟩ := h
  obtain ⟨F', hs', hm⟩ := Sep.front L M F hs
  exact ⟨hb, F', hs', fun k hk => hF k (hm k hk)⟩
section
variable {W w : World} {R : List Asn} {A B C D E G : Asn}
theorem St.front1 (h : St W w (A :: R)) : St W w [A] := St.front [A] h
theorem St.front2 (h : St W w (A :: B :: R)) : St W w [A, B] := St.front [A, B] h
theorem St.front3 (h : St W w (A :: B :: C :: R)) : St W w [A, B, C] := St.front [A, B, C] h
theorem St.front4 (h : St W w (A :: B :: C :: D :: R)) : St W w [A, B, C, D] := St.front [A, B, C, D] h
theorem St.front5 (h : St W w (A :: B :: C :: D :: E :: R)) : St W w [A, B, C, D, E] := St.front [A, B, C, D, E] h
end
theorem keyLits_int1 {P : Program} {t : TypeId} {k : IntKind} {n : Int} {d : Nat} (ht : P.underlying t = some (.int k)) (hw : (Lit.int k n).wf = true) : P.keyLits (d + 1) t [.int k n] = some [.int k n] := by
  unfold Program.keyLits
  simp only [ht]
  rw [if_pos ⟨trivial, hw⟩]
end Go.Proofs.YtcgagmojgjbfpaaDoor
