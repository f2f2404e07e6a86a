/- Where some bits within 32 that follow one another are turned, a parcel is refused: the walk. -/
import Derived.Test.YtlppgpidakfnlaaPe
import Derived.Test.YtlppgpidakfnlaaOp
namespace Go.Proofs.Ytlppgpidakfnlaa
open Go Go.RowKit Go.Lib
variable {W : World}
structure Piece where
  kind : Int
  body : Sl UInt8
instance : Inhabited Piece := ⟨⟨0, default⟩⟩
def Piece.cells (x : Piece) : List Value := [.int .u8 x.kind, .slice x.body.A x.body.l.length x.body.c]
structure Piece.Ok (w : World) (x : Piece) : Prop where
  kind : 0 ≤ x.kind ∧ x.kind < 256
  body : (Sl.Ok 1 (fun b : UInt8 => [bv b]) (fun _ => True) w) x.body
set_option maxRecDepth 100000 in
theorem opn_Piece {H : Type} {enc : TypeId × Value → H} {w : World} : Opn enc Try.prog w 28 Piece.cells (Piece.Ok w) := fun _ _ _ h => by
  obtain ⟨parts, rfl, hl, hf⟩ := opn_parts Try.underlying28 (by kernel_rfl) (by kernel_rfl) h
  match parts, hl with
  | [p0, p1], _ =>
    obtain ⟨f0, x0, h0⟩ := hf 0 _ rfl
    obtain ⟨a0, e0, k0⟩ := (opn_u8 Try.underlying5) _ _ _ h0
    replace e0 : p0 = _ := e0
    obtain ⟨f1, x1, h1⟩ := hf 1 _ rfl
    obtain ⟨a1, e1, k1⟩ := (opn_slice (β := UInt8) (size := 1) Try.underlying25 (by kernel_rfl) (by decide) (opn_byte Try.underlying5)) _ _ _ h1
    replace e1 : p1 = _ := e1
    subst e0 e1
    exact ⟨⟨a0, a1⟩, by simp [Piece.cells, Sl.cells], ⟨k0, k1⟩⟩
theorem mul_xor (k a b : Nat) : 2 ^ k * (a ^^^ b) = 2 ^ k * a ^^^ 2 ^ k * b := by
  apply Nat.eq_of_testBit_eq
  intro i
  rw [Nat.testBit_xor, Nat.testBit_two_pow_mul, Nat.testBit_two_pow_mul, Nat.testBit_two_pow_mul, Nat.testBit_xor]
  cases decide (k ≤ i) <;> simp
theorem numL_set {r : Nat} (hr : r < 8) : ∀ (cs : List UInt8) (q : Nat), q < cs.length → numL (cs.set q (UInt8.ofNat ((cs.getD q 0).toNat ^^^ 2 ^ r))) = numL cs ^^^ 2 ^ (8 * q + r)
  | [], q, h => by simp at h
  | c :: cs, 0, _ => by
    have hc := c.toNat_lt
    have h2 : 2 ^ r < 2 ^ 8 := (Nat.pow_lt_pow_iff_right (a := 2) (by decide)).2 hr
    have hx : c.toNat ^^^ 2 ^ r < 2 ^ 8 := Nat.xor_lt_two_pow (by omega) h2
    show (UInt8.ofNat (c.toNat ^^^ 2 ^ r)).toNat + 256 * numL cs = (c.toNat + 256 * numL cs) ^^^ 2 ^ (8 * 0 + r)
    rw [u8_ofNat (by omega), show (256 : Nat) = 2 ^ 8 from rfl, low_xor hx, low_xor (show c.toNat < 2 ^ 8 by omega), show 8 * 0 + r = r by omega, Nat.xor_assoc, Nat.xor_assoc, Nat.xor_comm (2 ^ r)]
  | c :: cs, q + 1, h => by
    have hc := c.toNat_lt
    have ih := numL_set hr cs q (by simpa using h)
    show c.toNat + 256 * numL (cs.set q (UInt8.ofNat ((cs.getD q 0).toNat ^^^ 2 ^ r))) = (c.toNat + 256 * numL cs) ^^^ 2 ^ (8 * (q + 1) + r)
    rw [ih, show (256 : Nat) = 2 ^ 8 from rfl, low_xor (show c.toNat < 2 ^ 8 by omega), low_xor (show c.toNat < 2 ^ 8 by omega), mul_xor, Nat.xor_assoc, ← Nat.pow_add, show 8 + (8 * q + r) = 8 * (q + 1) + r by omega]
theorem turn_step {x P T f i : Nat} (h : x = P ^^^ (T % 2 ^ i * 2 ^ f)) (hb : T / 2 ^ i % 2 = 1) : x ^^^ 2 ^ (f + i) = P ^^^ (T % 2 ^ (i + 1) * 2 ^ f) := by
  have h1 : T % 2 ^ (i + 1) = T % 2 ^ i + 2 ^ i := by rw [Nat.pow_succ, Nat.mod_mul, hb, Nat.mul_one]
  have hlt : T % 2 ^ i < 2 ^ i := Nat.mod_lt _ (Nat.pow_pos (by decide))
  have hx := low_xor (k := i) (M := 1) hlt
  rw [Nat.mul_one] at hx
  rw [h, h1, hx, Nat.xor_assoc, Nat.mul_comm (_ ^^^ _), mul_xor, Nat.mul_comm (T % 2 ^ i), ← Nat.pow_add]
theorem turn_same {T i : Nat} (hb : ¬ T / 2 ^ i % 2 = 1) : T % 2 ^ (i + 1) = T % 2 ^ i := by
  rw [Nat.pow_succ, Nat.mod_mul, show T / 2 ^ i % 2 = 0 by omega, Nat.mul_zero, Nat.add_zero]
theorem turn_any {T i : Nat} (hb : T / 2 ^ i % 2 = 1) : T % 2 ^ (i + 1) ≠ 0 := by
  have hp : 0 < 2 ^ i := Nat.pow_pos (by decide)
  rw [Nat.pow_succ, Nat.mod_mul, hb, Nat.mul_one]
  omega
theorem take_burst' {kk : UInt8} {body cs : List UInt8} {T f : Nat} (hb : body.length ≤ 65536) (hl : cs.length = (parB kk body).length) (h0 : ¬ cs.getD 0 0 = 0)
    (hE : numL cs = numL (parB kk body) ^^^ (T * 2 ^ f)) (hT : T < 4294967296) (hT0 : T ≠ 0) (hn : (cs.drop 1).take (enc body.length).length = ((parB kk body).drop 1).take (enc body.length).length) : tkE cs = 30 := by
  have hp : parB kk body = kk :: (enc body.length ++ (body ++ four (crc (preB kk body)))) := by simp [parB, preB]
  have hpl : (parB kk body).length = 1 + (enc body.length).length + body.length + 4 := by rw [hp]; simp [four]; omega
  have e1 : ((parB kk body).drop 1).take (enc body.length).length = enc body.length := by rw [hp, List.drop_one, List.tail_cons, List.take_left]
  rw [e1] at hn
  match cs, hl, h0, hE, hn with
  | [], hl, _, _, _ => rw [hpl] at hl; simp at hl
  | k' :: l, hl, h0, hE, hn =>
    rw [List.drop_one, List.tail_cons] at hn
    have hl' : l = enc body.length ++ l.drop (enc body.length).length := by
      have := List.take_append_drop (enc body.length).length l
      rw [hn] at this
      exact this.symm
    have hr : (l.drop (enc body.length).length).length = body.length + 4 := by
      rw [hpl, List.length_cons] at hl
      rw [List.length_drop]
      omega
    rw [hl'] at hE ⊢
    refine take_burst (k := kk) hb hr h0 ?_ hT hT0 (f := f)
    rw [hE, ← Nat.xor_assoc, Nat.xor_self, Nat.zero_xor]
theorem row_blk {w : World} {L R : List Asn} {e : TypeId} {A : Option Addr} {n c : Nat} {xs : List Value} (hS : St W w L) (pk : Pick L (rowA e 1 A n c xs) R) (hn : 0 < n) : ∃ g ys, A = some ⟨g, 0, none⟩ ∧ n ≤ c ∧ St W w (blkA g e (xs ++ ys) :: R) := by
  have hown := hS.row pk
  rcases hown.2 with ⟨_, h0⟩ | ⟨g, cap, cur, hv, _, hg, hnc, hcm, hcs, htk⟩
  · omega
  · injection hv with hA _ hc
    subst hA hc
    refine ⟨g, cur.toList.drop (n * 1), rfl, hnc, (hS.pick pk).upd fun F hF => ?_⟩
    obtain ⟨rfl, _⟩ := hF
    refine ⟨Fr.refl _ _, [g], ⟨rfl, ?_⟩, fun k hk => .inl hk⟩
    show w.heap[g]? = some (.cells (List.toArray _) e _)
    rw [hg]
    congr 2
    apply Array.ext'
    rw [← htk, List.take_append_drop]
theorem blk_rdB {w : World} {L R : List Asn} {g : Nat} {e : TypeId} {bs : List UInt8} {ys : List Value} (hS : St W w L) (pk : Pick L (blkA g e (bs.map bv ++ ys)) R) : RdB w (some ⟨g, 0, none⟩) bs := Blk.rd (hS.blk pk) fun i hi => by
  refine ⟨rfl, fun j v hv => ?_⟩
  have hj : j = 0 := by
    rcases Nat.eq_zero_or_pos j with h | h
    · exact h
    · rw [bsf, List.getElem?_eq_none (by simp only [List.length_cons, List.length_nil]; omega)] at hv; cases hv
  subst hj
  have hv' : bv (bs.getD i 0) = v := by simpa [bsf] using hv
  rw [Nat.mul_one, Nat.add_zero, Nat.zero_add, List.getElem?_append_left (by simpa using hi), List.getElem?_map, List.getElem?_eq_getElem hi, ← hv', List.getD_eq_getElem?_getD, List.getElem?_eq_getElem hi]
  rfl
theorem blk_get {cs : List UInt8} {ys : List Value} {q : Nat} (h : q < cs.length) : (cs.map bv ++ ys)[0 + q * 1]? = some (.int .u8 ((cs.getD q 0).toNat : Int)) := by
  rw [Nat.mul_one, Nat.zero_add, List.getElem?_append_left (by simpa using h), List.getElem?_map, List.getElem?_eq_getElem h, List.getD_eq_getElem?_getD, List.getElem?_eq_getElem h]
  rfl
theorem blk_set {cs : List UInt8} {ys : List Value} {q v : Nat} (h : q < cs.length) (hv : v < 256) : setN (cs.map bv ++ ys) (0 + q * 1) [.int .u8 (v : Int)] = (cs.set q (UInt8.ofNat v)).map bv ++ ys := by
  show (cs.map bv ++ ys).set (0 + q * 1) _ = _
  have e : Value.int .u8 (v : Int) = bv (UInt8.ofNat v) := by unfold bv; rw [u8_ofNat hv]
  rw [Nat.mul_one, Nat.zero_add, List.set_append_left _ _ (by simpa using h), e, List.map_set]
theorem shr_val {T i : Nat} (hi : i ≤ 32) : ((T : Int)).fdiv (2 ^ min ((i : Int)).toNat IntKind.u32.bits) = ((T / 2 ^ i : Nat) : Int) := by
  have e : min ((i : Int)).toNat IntKind.u32.bits = i := by show min _ 32 = _; omega
  rw [e, show ((2 : Int) ^ i) = ((2 ^ i : Nat) : Int) from by rw [Int.natCast_pow]; rfl, Int.fdiv_eq_ediv_of_nonneg _ (Int.natCast_nonneg _)]
  rfl
theorem shl_val8 {r : Nat} (hr : r < 8) : IntKind.u8.wrap ((1 : Int) * 2 ^ min ((r : Int)).toNat IntKind.u8.bits) = ((2 ^ r : Nat) : Int) := by
  have e : min ((r : Int)).toNat IntKind.u8.bits = r := by show min _ 8 = _; omega
  have hp : 2 ^ r ≤ 2 ^ 7 := Nat.pow_le_pow_right (by decide) (by omega)
  rw [e, Int.one_mul, show ((2 : Int) ^ r) = ((2 ^ r : Nat) : Int) from by rw [Int.natCast_pow]; rfl]
  generalize 2 ^ r = x at *
  rw [wrap_u8 (by omega)]

-- ParcelBursts_calls: no such function here
end Go.Proofs.Ytlppgpidakfnlaa
