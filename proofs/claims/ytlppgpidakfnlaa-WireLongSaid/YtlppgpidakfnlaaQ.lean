/- Equality of structs and arrays; cuts of arrays; blocks that are read as rows. -/
import Derived.Test.YtlppgpidakfnlaaR
import Derived.Lib.ConvBytes
namespace Go.Proofs.Ytlppgpidakfnlaa
open Go Go.RowKit Go.Lib
section
variable {P : Program} {ρ : Env} {W w : World} {L R : List Asn} {ty : TypeId}
theorem eq_lits {t : TypeId} {m D D' : Nat} {cx cy : List Value} {lx ly : List Lit} (hm : m ≤ 10000) (hk : P.keyTypeAt m t = true) (fx : Value.formed P t (.agg cx.toArray) = true) (fy : Value.formed P t (.agg cy.toArray) = true)
    (ex : P.keyLits D t cx = some lx) (ey : P.keyLits D' t cy = some ly) {b : Bool} (hb : b = true ↔ lx = ly) : (Op.equal t (.agg cx.toArray) (.agg cy.toArray)).run P w = .ok b w := by
  obtain ⟨r, hr, hiff⟩ := run_equalIn_deep (10000 - m) m t hk w D D' (.agg cx.toArray) (.agg cy.toArray) lx ly fx fy (by simpa [Value.cells] using ex) (by simpa [Value.cells] using ey)
  have hrr : r = b := by rw [Bool.eq_iff_iff, hiff, hb]
  subst hrr
  rw [Nat.sub_add_cancel hm] at hr
  exact hr
theorem q_neq_lits {t yt : TypeId} {x y : Operand} {m D D' : Nat} {cx cy : List Value} {lx ly : List Lit} (hx : ev ρ x = .agg cx.toArray) (hy : ev ρ y = .agg cy.toArray) (hg : P.eqGuardType P.depth t = false) (hm : m ≤ 10000) (hk : P.keyTypeAt m t = true)
    (fx : Value.formed P t (.agg cx.toArray) = true) (fy : Value.formed P t (.agg cy.toArray) = true) (ex : P.keyLits D t cx = some lx) (ey : P.keyLits D' t cy = some ly) {b : Bool} (hb : b = true ↔ lx = ly) : qv P (.binOp .neq t x y yt) ty ρ w (.bool (!b)) :=
  q_neq_of hx hy (by simp [eqGuard, run_program, hg]) rfl (eq_lits hm hk fx fy ex ey hb)
theorem q_negm_u32 {t : TypeId} {x : Operand} {a : Int} (hx : ev ρ x = .int .u32 a) : qv P (.unOp .neg t x) ty ρ w (.int .u32 ((0 - a) % 4294967296)) := q_cast (q_neg hx) (by rw [wrapm_u32])
theorem q_eql_slice_nil {t yt e : TypeId} {x y : Operand} {A : Option Addr} {n c : Nat} (ht : ∀ w, (underlying t).run P w = .ok (.slice e) w) (hx : ev ρ x = .slice A n c) (hy : ev ρ y = .slice none 0 0) : qv P (.binOp .eql t x y yt) ty ρ w (.bool A.isNone) := by
  refine q_eql_of hx hy (by cases A <;> simp [eqGuard]) (by cases A <;> rfl) (run_equal fun d => ?_)
  simp only [Op.equalIn, Sem.run_bind, ht, Result.andThen_ok]
  cases A <;> rfl
theorem Blk.rd {g : Nat} {t : TypeId} {cs : List Value} {off n size : Nat} {f : Nat → List Value} (hb : Blk w g t cs) (hf : ∀ i, i < n → (f i).length = size ∧ ∀ j v, (f i)[j]? = some v → cs[off + (i * size + j)]? = some v) : Rd w size (some ⟨g, off, none⟩) n f := fun _ =>
  ⟨_, rfl, hb.lt, fun i hi => ⟨(hf i hi).1, fun j v hv => by
    rw [add_add, addr_add, hb.cell]
    exact (hf i hi).2 j v hv⟩⟩
end
section
variable {P : Program} {all : Array Oper} {ρ : Env} {W w : World} {L : List Asn} {N : Env → World → Prop} {rest : List Oper}
theorem t_bytes {src dst e : TypeId} {u : TypeDesc} {x : Operand} {s : ByteArray} {ty : TypeId} {d : Tmp} {p : String} {af : Array Edge} (hs : P.underlying src = some u) (hd : P.underlying dst = some (.slice e)) (he : P.underlying e = some (.int .u8)) (hS : St W w L) (hx : ev ρ x = .string s)
    (h : ∀ g k m w', St W w' (blkA g e (s.data.toList.map bv ++ List.replicate k (.int .u8 0)) (m, m + 1) :: L) → textE P all rest (up ρ d (.slice (some ⟨g, 0, none⟩) s.size (s.size + k))) w' N) :
    textE P all (⟨some d, .convert src dst x, ty, p, af, none⟩ :: rest) ρ w N := by
  have hr := Go.Lib.run_convert_string_bytes (P := P) w src dst e s hs hd he
  have hge := grownCap_ge w s.size 0 e
  have hS' := h w.heap.size (grownCap w s.size 0 e - s.size) (bytesCells w e s).size (bytesWorld w e s) (hS.add ⟨rfl, rfl, rfl, by rw [bytesWorld_size]; omega, fun k hk _ => bytesWorld_at_old w e s k hk⟩ (F := [w.heap.size])
    ⟨rfl, by
      show (bytesWorld w e s).heap[w.heap.size]? = some (.cells (List.toArray _) e _)
      rw [bytesWorld_at_new]
      have hc : bytesCells w e s = (s.data.toList.map bv ++ List.replicate (grownCap w s.size 0 e - s.size) (Value.int .u8 0)).toArray := by
        apply Array.ext'
        simp [bytesCells, bv]
      rw [← hc]⟩ (fun k hk => by have := List.mem_singleton.1 hk; omega))
  rw [Nat.add_sub_cancel' hge] at hS'
  exact t_val (w' := bytesWorld w e s) (fun dst pos af gd => by simp [execOp, hx, hr]) hS'
theorem frz_rdB {g m k : Nat} {e : TypeId} {R : List Asn} {bs : List UInt8} (hS : St W w L) (pk : Pick L (blkA g e (bs.map bv ++ List.replicate k (Value.int .u8 0)) (m, m + 1)) R) : RdB w (some ⟨g, 0, none⟩) bs := fun _ =>
  have hb := hS.blk pk
  ⟨_, rfl, hb.lt, fun i hi => ⟨rfl, fun j v hv => by
    rw [add_add, addr_add, hb.cell]
    have hj : j = 0 := by
      rcases Nat.eq_zero_or_pos j with h | h
      · exact h
      · rw [bsf, List.getElem?_eq_none (by simp only [List.length_cons, List.length_nil]; omega)] at hv; cases hv
    subst hj
    have hv' : bv (bs.getD i 0) = v := by simpa [bsf] using hv
    rw [Nat.zero_add, Nat.mul_one, Nat.add_zero, List.getElem?_append_left (by simpa using hi), List.getElem?_map, List.getElem?_eq_getElem hi, ← hv', List.getD_eq_getElem?_getD, List.getElem?_eq_getElem hi]
    rfl⟩⟩
end
/-- just the first pieces -/
theorem Sep.front {w : World} : ∀ (L M : List Asn) (F : List Nat), Sep w (L ++ M) F → ∃ F', Sep w L F' ∧ ∀ k ∈ F', k ∈ F
  | [], _, _, _ => ⟨[], rfl, fun _ h => by cases h⟩
  | A :: L, M, _, ⟨F1, F2, e, h1, h2, hd⟩ => by
    obtain ⟨F', hs, hm⟩ := Sep.front L M F2 h2
    subst e
    exact ⟨F1 ++ F', ⟨F1, F', rfl, h1, hs, fun k hk hk2 => hd k hk (hm k hk2)⟩, fun k hk => by
      rcases List.mem_append.1 hk with h | h
      · exact List.mem_append_left _ h
      · exact List.mem_append_right _ (hm k h)⟩
theorem St.front {W w : World} (L : List Asn) {M : List Asn} (h : St W w (L ++ M)) : St W w L := by
  obtain ⟨hb, F, hs, hF⟩ := h
  obtain ⟨F', hs', hm⟩ := Sep.front L M F hs
  exact ⟨hb, F', hs', fun k hk => hF k (hm k hk)⟩
section
variable {W w : World} {R : List Asn} {A B C D E G : Asn}
theorem St.front1 (h : St W w (A :: R)) : St W w [A] := St.front [A] h
theorem St.front3 (h : St W w (A :: B :: C :: R)) : St W w [A, B, C] := St.front [A, B, C] h
theorem St.front6 (h : St W w (A :: B :: C :: D :: E :: G :: R)) : St W w [A, B, C, D, E, G] := St.front [A, B, C, D, E, G] h
end
theorem keyLits_int1 {P : Program} {t : TypeId} {k : IntKind} {n : Int} {d : Nat} (ht : P.underlying t = some (.int k)) (hw : (Lit.int k n).wf = true) : P.keyLits (d + 1) t [.int k n] = some [.int k n] := by
  unfold Program.keyLits
  simp only [ht]
  rw [if_pos ⟨trivial, hw⟩]
end Go.Proofs.Ytlppgpidakfnlaa
