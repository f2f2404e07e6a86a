/- Bytes: marked rows, cuts, complements. -/
import Derived.Test.YtlppgpidakfnlaaQ
import Derived.Test.YtlppgpidakfnlaaCt
namespace Go.Proofs.Ytlppgpidakfnlaa
open Go Go.RowKit Go.Lib
section
variable {P : Program} {all : Array Oper} {ρ : Env} {W w : World} {L R : List Asn} {N : Env → World → Prop} {rest : List Oper} {ty : TypeId}
theorem t_mark {t e : TypeId} {x : Operand} {g m : Nat} {bs : List UInt8} {d : Tmp} {p : String} {af : Array Edge} (ht : P.underlying t = some (.slice e)) (he : P.underlying e = some (.int .u8)) (hS : St W w L) (pk : Pick L (rowA e 1 (some ⟨g, 0, none⟩) m m (bs.map bv)) R) (hx : ev ρ x = .slice (some ⟨g, 0, none⟩) m m)
    (h : ∀ w', St W w' (blkA g e (bs.map bv ++ List.replicate 0 (Value.int .u8 0)) (m, m + 1) :: R) → textE P all rest (up ρ d (.slice (some ⟨g, 0, none⟩) m m)) w' N) :
    textE P all (⟨some d, .convert t t x, ty, p, af, none⟩ :: rest) ρ w N := by
  have hown := hS.row pk
  rcases hown.2 with ⟨he0, _⟩ | ⟨g', cap, cur, hv, _, hg, hnc, hcm, hcs, htk⟩
  · injection he0 with h1 _ _
    cases h1
  · injection hv with h1 _ h3
    injection h1 with h4
    injection h4 with h5 _ _
    subst h5 h3
    have hcs' : cur.size = m := by omega
    have hcl : cur.toList = bs.map bv := by
      rw [← htk, List.take_of_length_le]
      rw [Array.length_toList]; omega
    have hsh : w.shape? g = some (e, m) := by simp [World.shape?, hg, hcs']
    have hr : (convert t t (.slice (some ⟨g, 0, none⟩) m m)).run P w = .ok (.slice (some ⟨g, 0, none⟩) m m) (w.freeze ⟨g, m, none⟩ 1) := by
      simp [convert, run_underlying ht, run_underlying he, markStringish, hsh]
    have hlt : g < w.heap.size := by
      rcases Nat.lt_or_ge g w.heap.size with h | h
      · exact h
      · rw [Array.getElem?_eq_none h] at hg; cases hg
    have hnew : (w.freeze ⟨g, m, none⟩ 1).heap[g]? = some (.cells cur e (m, m + 1)) := by
      simp only [World.freeze, Nat.one_ne_zero, if_false]
      rw [Array.getElem?_modify, if_pos rfl, hg]
      rfl
    refine t_val (w' := w.freeze ⟨g, m, none⟩ 1) (fun dst pos af gd => by simp [execOp, hx, hr]) (h _ ?_)
    refine (hS.pick pk).upd fun F hF => ?_
    obtain ⟨rfl, _⟩ := hF
    refine ⟨⟨rfl, rfl, rfl, by simp [World.freeze], fun k hk hn => ?_⟩, [g], ⟨rfl, ?_⟩, fun k hk => .inl hk⟩
    · simp only [World.freeze, Nat.one_ne_zero, if_false]
      rw [Array.getElem?_modify, if_neg (by intro e; exact hn (by simp [e]))]
    · show (w.freeze ⟨g, m, none⟩ 1).heap[g]? = some (.cells (List.toArray _) e _)
      rw [hnew]
      congr 2
      apply Array.ext'
      rw [hcl]
      simp
theorem q_com_u32 {t : TypeId} {x : Operand} {a : Int} (hx : ev ρ x = .int .u32 a) (h : 0 ≤ a ∧ a ≤ 4294967295) : qv P (.unOp .xor t x) ty ρ w (.int .u32 (4294967295 - a)) := by
  refine q_of _ (fun _ _ _ _ => rfl) ?_
  have e1 : (BitVec.ofInt 32 4294967295 ^^^ BitVec.ofInt 32 a : BitVec 32).toNat = (4294967295 - a).toNat := by
    rw [BitVec.toNat_xor, show (BitVec.ofInt 32 4294967295).toNat = 2 ^ 32 - 1 from rfl, show (BitVec.ofInt 32 a).toNat = a.toNat from ofInt_u32 a h, Nat.xor_comm, xor_ones (n := 32) (by omega)]
    omega
  have e2 : IntKind.u32.wrap (((BitVec.ofInt 32 4294967295 ^^^ BitVec.ofInt 32 a : BitVec 32).toNat : Nat) : Int) = 4294967295 - a := by rw [e1, wrap_u32 (by omega)]; omega
  have e3 : IntKind.u32.max = 4294967295 := rfl
  simp only [hx, Op.unary, Op.intBits, e3]
  simp [IntKind.signed, IntKind.bits]
  exact e2
theorem cut_rd {A : Option Addr} {bs : List UInt8} {l m c : Nat} (hR : RdB w A bs) (hl : l ≤ m) (hm : m ≤ bs.length) (hc : bs.length ≤ c) : RdB w (if c = l then A else A.map (·.add (l * 1))) ((bs.drop l).take (m - l)) := by
  have hcut := Rd.cut hR (l := l) (m := m) (cap := c) hm hl hc
  unfold RdB
  rw [List.length_take, List.length_drop, Nat.min_eq_left (by omega)]
  refine hcut.congr fun i hi => ?_
  simp only [bsf, List.getD_eq_getElem?_getD, List.getElem?_take, List.getElem?_drop]
  rw [if_pos (by omega)]
end
theorem u8_zero {k : UInt8} : ((k.toNat : Nat) : Int) = 0 ↔ k = 0 := by
  constructor
  · intro h
    have : k.toNat = 0 := by omega
    exact UInt8.toNat_inj.1 this
  · intro h; subst h; rfl
theorem bvi_nat (k : UInt8) : bvi (k.toNat : Int) = k := by unfold bvi; simp
end Go.Proofs.Ytlppgpidakfnlaa
