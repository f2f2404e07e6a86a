/- Bytes: marked rows, cuts, complements. -/
import Derived.Test.YtlppgpidakfnlaaQ
import Derived.Test.YtlppgpidakfnlaaCt
namespace Go.Proofs.Ytlppgpidakfnlaa
open Go Go.RowKit Go.Lib
section
variable {P : Program} {all : Array Oper} {ρ : Env} {W w : World} {L R : List Asn} {N : Env → World → Prop} {rest : List Oper} {ty : TypeId}
theorem q_com_u32 {t : TypeId} {x : Operand} {a : Int} (hx : ev ρ x = .int .u32 a) (h : 0 ≤ a ∧ a ≤ 4294967295) : qv P (.unOp .xor t x) ty ρ w (.int .u32 (4294967295 - a)) := by
  refine q_of _ (fun _ _ _ _ => rfl) ?_
  have e1 : (BitVec.ofInt 32 4294967295 ^^^ BitVec.ofInt 32 a : BitVec 32).toNat = (4294967295 - a).toNat := by
    rw [BitVec.toNat_xor, show (BitVec.ofInt 32 4294967295).toNat = 2 ^ 32 - 1 from rfl, show (BitVec.ofInt 32 a).toNat = a.toNat from ofInt_u32 a h, Nat.xor_comm, xor_ones (n := 32) (by omega)]
    omega
  have e2 : IntKind.u32.wrap (((BitVec.ofInt 32 4294967295 ^^^ BitVec.ofInt 32 a : BitVec 32).toNat : Nat) : Int) = 4294967295 - a := by rw [e1, wrap_u32 (by omega)]; omega
  have e3 : IntKind.u32.max = 4294967295 := rfl
  simp only [hx, Op.unary, Op.intBits, e3]
  simp [IntKind.signed, IntKind.bits]
  exact e2
theorem cut_rd {A : Option Addr} {bs : List UInt8} {l m c : Nat} (hR : RdB w A bs) (hl : l ≤ m) (hm : m ≤ bs.length) (hc : bs.length ≤ c) : RdB w (if c = l then A else A.map (·.add (l * 1))) ((bs.drop l).take (m - l)) := by
  have hcut := Rd.cut hR (l := l) (m := m) (cap := c) hm hl hc
  unfold RdB
  rw [List.length_take, List.length_drop, Nat.min_eq_left (by omega)]
  refine hcut.congr fun i hi => ?_
  simp only [bsf, List.getD_eq_getElem?_getD, List.getElem?_take, List.getElem?_drop]
  rw [if_pos (by omega)]
end
theorem u8_zero {k : UInt8} : ((k.toNat : Nat) : Int) = 0 ↔ k = 0 := by
  constructor
  · intro h
    have : k.toNat = 0 := by omega
    exact UInt8.toNat_inj.1 this
  · intro h; subst h; rfl
theorem bvi_nat (k : UInt8) : bvi (k.toNat : Int) = k := by unfold bvi; simp
end Go.Proofs.Ytlppgpidakfnlaa
