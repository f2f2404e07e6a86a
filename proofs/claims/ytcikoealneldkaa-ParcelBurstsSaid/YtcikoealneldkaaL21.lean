/- Where some bits within 32 that follow one another are turned, a parcel is refused: the walk. -/
import Derived.Test.YtcikoealneldkaaPe
import Derived.Test.YtcikoealneldkaaOp
namespace Go.Proofs.Ytcikoealneldkaa
open Go Go.RowKit Go.Lib
variable {W : World}
structure Piece where
  kind : Int
  body : Sl UInt8
instance : Inhabited Piece := ⟨⟨0, default⟩⟩
def Piece.cells (x : Piece) : List Value := [.int .u8 x.kind, .slice x.body.A x.body.l.length x.body.c]
structure Piece.Ok (w : World) (x : Piece) : Prop where
  kind : 0 ≤ x.kind ∧ x.kind < 256
  body : (Sl.Ok 1 (fun b : UInt8 => [bv b]) (fun _ => True) w) x.body
set_option maxRecDepth 100000 in
theorem opn_Piece {H : Type} {enc : TypeId × Value → H} {w : World} : Opn enc Try.prog w 144 Piece.cells (Piece.Ok w) := fun _ _ _ h => by
  obtain ⟨parts, rfl, hl, hf⟩ := opn_parts Try.underlying144 (by kernel_rfl) (by kernel_rfl) h
  match parts, hl with
  | [p0, p1], _ =>
    obtain ⟨f0, x0, h0⟩ := hf 0 _ rfl
    obtain ⟨a0, e0, k0⟩ := (opn_u8 Try.underlying5) _ _ _ h0
    replace e0 : p0 = _ := e0
    obtain ⟨f1, x1, h1⟩ := hf 1 _ rfl
    obtain ⟨a1, e1, k1⟩ := (opn_slice (β := UInt8) (size := 1) Try.underlying48 (by kernel_rfl) (by decide) (opn_byte Try.underlying5)) _ _ _ h1
    replace e1 : p1 = _ := e1
    subst e0 e1
    exact ⟨⟨a0, a1⟩, by simp [Piece.cells, Sl.cells], ⟨k0, k1⟩⟩
theorem mul_xor (k a b : Nat) : 2 ^ k * (a ^^^ b) = 2 ^ k * a ^^^ 2 ^ k * b := by
  apply Nat.eq_of_testBit_eq
  intro i
  rw [Nat.testBit_xor, Nat.testBit_two_pow_mul, Nat.testBit_two_pow_mul, Nat.testBit_two_pow_mul, Nat.testBit_xor]
  cases decide (k ≤ i) <;> simp
theorem numL_set {r : Nat} (hr : r < 8) : ∀ (cs : List UInt8) (q : Nat), q < cs.length → numL (cs.set q (UInt8.ofNat ((cs.getD q 0).toNat ^^^ 2 ^ r))) = numL cs ^^^ 2 ^ (8 * q + r)
  | [], q, h => by simp at h
  | c :: cs, 0, _ => by
    have hc := c.toNat_lt
    have h2 : 2 ^ r < 2 ^ 8 := (Nat.pow_lt_pow_iff_right (a := 2) (by decide)).2 hr
    have hx : c.toNat ^^^ 2 ^ r < 2 ^ 8 := Nat.xor_lt_two_pow (by omega) h2
    show (UInt8.ofNat (c.toNat ^^^ 2 ^ r)).toNat + 256 * numL cs = (c.toNat + 256 * numL cs) ^^^ 2 ^ (8 * 0 + r)
    rw [u8_ofNat (by omega), show (256 : Nat) = 2 ^ 8 from rfl, low_xor hx, low_xor (show c.toNat < 2 ^ 8 by omega), show 8 * 0 + r = r by omega, Nat.xor_assoc, Nat.xor_assoc, Nat.xor_comm (2 ^ r)]
  | c :: cs, q + 1, h => by
    have hc := c.toNat_lt
    have ih := numL_set hr cs q (by simpa using h)
    show c.toNat + 256 * numL (cs.set q (UInt8.ofNat ((cs.getD q 0).toNat ^^^ 2 ^ r))) = (c.toNat + 256 * numL cs) ^^^ 2 ^ (8 * (q + 1) + r)
    rw [ih, show (256 : Nat) = 2 ^ 8 from rfl, low_xor (show c.toNat < 2 ^ 8 by omega), low_xor (show c.toNat < 2 ^ 8 by omega), mul_xor, Nat.xor_assoc, ← Nat.pow_add, show 8 + (8 * q + r) = 8 * (q + 1) + r by omega]
theorem turn_step {x P T f i : Nat} (h : x = P ^^^ (T % 2 ^ i * 2 ^ f)) (hb : T / 2 ^ i % 2 = 1) : x ^^^ 2 ^ (f + i) = P ^^^ (T % 2 ^ (i + 1) * 2 ^ f) := by
  have h1 : T % 2 ^ (i + 1) = T % 2 ^ i + 2 ^ i := by rw [Nat.pow_succ, Nat.mod_mul, hb, Nat.mul_one]
  have hlt : T % 2 ^ i < 2 ^ i := Nat.mod_lt _ (Nat.pow_pos (by decide))
  have hx := low_xor (k := i) (M := 1) hlt
  rw [Nat.mul_one] at hx
  rw [h, h1, hx, Nat.xor_assoc, Nat.mul_comm (_ ^^^ _), mul_xor, Nat.mul_comm (T % 2 ^ i), ← Nat.pow_add]
theorem turn_same {T i : Nat} (hb : ¬ T / 2 ^ i % 2 = 1) : T % 2 ^ (i + 1) = T % 2 ^ i := by
  rw [Nat.pow_succ, Nat.mod_mul, show T / 2 ^ i % 2 = 0 by omega, Nat.mul_zero, Nat.add_zero]
theorem turn_any {T i : Nat} (hb : T / 2 ^ i % 2 = 1) : T % 2 ^ (i + 1) ≠ 0 := by
  have hp : 0 < 2 ^ i := Nat.pow_pos (by decide)
  rw [Nat.pow_succ, Nat.mod_mul, hb, Nat.mul_one]
  omega
theorem take_burst' {kk : UInt8} {body cs : List UInt8} {T f : Nat} (hb : body.length ≤ 65536) (hl : cs.length = (parB kk body).length) (h0 : ¬ cs.getD 0 0 = 0)
    (hE : numL cs = numL (parB kk body) ^^^ (T * 2 ^ f)) (hT : T < 4294967296) (hT0 : T ≠ 0) (hn : (cs.drop 1).take (enc body.length).length = ((parB kk body).drop 1).take (enc body.length).length) : tkE cs = 30 := by
  have hp : parB kk body = kk :: (enc body.length ++ (body ++ four (crc (preB kk body)))) := by simp [parB, preB]
  have hpl : (parB kk body).length = 1 + (enc body.length).length + body.length + 4 := by rw [hp]; simp [four]; omega
  have e1 : ((parB kk body).drop 1).take (enc body.length).length = enc body.length := by rw [hp, List.drop_one, List.tail_cons, List.take_left]
  rw [e1] at hn
  match cs, hl, h0, hE, hn with
  | [], hl, _, _, _ => rw [hpl] at hl; simp at hl
  | k' :: l, hl, h0, hE, hn =>
    rw [List.drop_one, List.tail_cons] at hn
    have hl' : l = enc body.length ++ l.drop (enc body.length).length := by
      have := List.take_append_drop (enc body.length).length l
      rw [hn] at this
      exact this.symm
    have hr : (l.drop (enc body.length).length).length = body.length + 4 := by
      rw [hpl, List.length_cons] at hl
      rw [List.length_drop]
      omega
    rw [hl'] at hE ⊢
    refine take_burst (k := kk) hb hr h0 ?_ hT hT0 (f := f)
    rw [hE, ← Nat.xor_assoc, Nat.xor_self, Nat.zero_xor]
theorem row_blk {w : World} {L R : List Asn} {e : TypeId} {A : Option Addr} {n c : Nat} {xs : List Value} (hS : St W w L) (pk : Pick L (rowA e 1 A n c xs) R) (hn : 0 < n) : ∃ g ys, A = some ⟨g, 0, none⟩ ∧ n ≤ c ∧ St W w (blkA g e (xs ++ ys) :: R) := by
  have hown := hS.row pk
  rcases hown.2 with ⟨_, h0⟩ | ⟨g, cap, cur, hv, _, hg, hnc, hcm, hcs, htk⟩
  · omega
  · injection hv with hA _ hc
    subst hA hc
    refine ⟨g, cur.toList.drop (n * 1), rfl, hnc, (hS.pick pk).upd fun F hF => ?_⟩
    obtain ⟨rfl, _⟩ := hF
    refine ⟨Fr.refl _ _, [g], ⟨rfl, ?_⟩, fun k hk => .inl hk⟩
    show w.heap[g]? = some (.cells (List.toArray _) e _)
    rw [hg]
    congr 2
    apply Array.ext'
    rw [← htk, List.take_append_drop]
theorem blk_rdB {w : World} {L R : List Asn} {g : Nat} {e : TypeId} {bs : List UInt8} {ys : List Value} (hS : St W w L) (pk : Pick L (blkA g e (bs.map bv ++ ys)) R) : RdB w (some ⟨g, 0, none⟩) bs := Blk.rd (hS.blk pk) fun i hi => by
  refine ⟨rfl, fun j v hv => ?_⟩
  have hj : j = 0 := by
    rcases Nat.eq_zero_or_pos j with h | h
    · exact h
    · rw [bsf, List.getElem?_eq_none (by simp only [List.length_cons, List.length_nil]; omega)] at hv; cases hv
  subst hj
  have hv' : bv (bs.getD i 0) = v := by simpa [bsf] using hv
  rw [Nat.mul_one, Nat.add_zero, Nat.zero_add, List.getElem?_append_left (by simpa using hi), List.getElem?_map, List.getElem?_eq_getElem hi, ← hv', List.getD_eq_getElem?_getD, List.getElem?_eq_getElem hi]
  rfl
theorem blk_get {cs : List UInt8} {ys : List Value} {q : Nat} (h : q < cs.length) : (cs.map bv ++ ys)[0 + q * 1]? = some (.int .u8 ((cs.getD q 0).toNat : Int)) := by
  rw [Nat.mul_one, Nat.zero_add, List.getElem?_append_left (by simpa using h), List.getElem?_map, List.getElem?_eq_getElem h, List.getD_eq_getElem?_getD, List.getElem?_eq_getElem h]
  rfl
theorem blk_set {cs : List UInt8} {ys : List Value} {q v : Nat} (h : q < cs.length) (hv : v < 256) : setN (cs.map bv ++ ys) (0 + q * 1) [.int .u8 (v : Int)] = (cs.set q (UInt8.ofNat v)).map bv ++ ys := by
  show (cs.map bv ++ ys).set (0 + q * 1) _ = _
  have e : Value.int .u8 (v : Int) = bv (UInt8.ofNat v) := by unfold bv; rw [u8_ofNat hv]
  rw [Nat.mul_one, Nat.zero_add, List.set_append_left _ _ (by simpa using h), e, List.map_set]
theorem shr_val {T i : Nat} (hi : i ≤ 32) : ((T : Int)).fdiv (2 ^ min ((i : Int)).toNat IntKind.u32.bits) = ((T / 2 ^ i : Nat) : Int) := by
  have e : min ((i : Int)).toNat IntKind.u32.bits = i := by show min _ 32 = _; omega
  rw [e, show ((2 : Int) ^ i) = ((2 ^ i : Nat) : Int) from by rw [Int.natCast_pow]; rfl, Int.fdiv_eq_ediv_of_nonneg _ (Int.natCast_nonneg _)]
  rfl
theorem shl_val8 {r : Nat} (hr : r < 8) : IntKind.u8.wrap ((1 : Int) * 2 ^ min ((r : Int)).toNat IntKind.u8.bits) = ((2 ^ r : Nat) : Int) := by
  have e : min ((r : Int)).toNat IntKind.u8.bits = r := by show min _ 8 = _; omega
  have hp : 2 ^ r ≤ 2 ^ 7 := Nat.pow_le_pow_right (by decide) (by omega)
  rw [e, Int.one_mul, show ((2 : Int) ^ r) = ((2 ^ r : Nat) : Int) from by rw [Int.natCast_pow]; rfl]
  generalize 2 ^ r = x at *
  rw [wrap_u8 (by omega)]

set_option maxRecDepth 100000 in
theorem ParcelBursts_calls {x : Piece} {a t : Int} (hx : x.Ok W) (ha : 0 ≤ a ∧ a < 65536) (ht : 0 ≤ t ∧ t < 4294967296) :
  Calls Try.prog 21 #[.agg x.cells.toArray, .int .u16 a, .int .u32 t] W fun e w' => e = .returned (.bool true) ∧ St W w' [] := by
  obtain ⟨kd, bd⟩ := x
  have hk := hx.kind
  have hR : RdB W bd.A bd.l := hx.body.rd
  simp only at hk
  obtain ⟨kk, hkk⟩ : ∃ kk : UInt8, kd = (kk.toNat : Int) := ⟨bvi kd, by unfold bvi; rw [u8_ofNat (by omega)]; omega⟩
  subst hkk
  obtain ⟨T, hT0⟩ : ∃ T : Nat, t = (T : Int) := ⟨t.toNat, by omega⟩
  subst hT0
  have hep := enc_pos bd.l.length
  have hS := St.init W
  refine calls_of_wpE (args := [_, _, _]) Try.func21 rfl rfl rfl ?_
  refine c_seq ?_
  refine c_region ?_
  refine t_box (v := (.agg _)) rfl rfl hS (fun g3 w hS => ?_)
  replace hS := hS.recast (show blkA g3 144 _ = blkA g3 144 [.int .u8 (kk.toNat : Int), .slice bd.A bd.l.length bd.c] from rfl)
  refine t_q (q_assign) ?_
  refine t_nil ?_
  refine c_seq ?_
  refine c_seq ?_
  refine c_region ?_
  refine t_q (q_fieldAddr 1 Try.runUnderlying144 rfl Try.sizeOf48 (by decide) rfl rfl) ?_
  refine t_q (q_load1 Try.isAgg48 rfl (hS.cell (by repeat first | exact .here _ _ | assumption | apply Pick.there) rfl)) ?_
  refine t_q (q_len_slice Try.runUnderlying48 rfl) ?_
  refine t_q (q_gtr rfl rfl) ?_
  refine t_q (q_mv (.bool _) rfl) ?_
  refine t_case 22 rfl ?_ ?_
  · intro hg2
    have hg2d := of_decide_eq_true hg2
    refine t_no rfl rfl (by rw [hg2]; decide) ?_
    refine t_no rfl rfl (by rw [hg2]; decide) ?_
    refine t_q (q_pick_t rfl hg2) ?_
    refine t_nil ?_
    refine c_cond_t rfl rfl ?_
    refine c_seq ?_
    refine c_region ?_
    refine t_call Try.call106 (plives_calls) rfl ?_
    rintro e w ⟨rfl, hT⟩
    refine ⟨_, rfl, ?_⟩
    replace hS := hS.after hT
    refine t_q (q_as (.bool _) rfl) ?_
    refine t_nil ?_
    refine c_ret ?_
    refine r_one rfl rfl ?_
    exact ⟨rfl, hS.nil⟩
  · intro hg2
    have hg2d := of_decide_eq_false hg2
    refine t_yes rfl rfl hg2 ?_
    refine t_q (q_mv (.int _ _) rfl) ?_
    refine t_yes rfl rfl hg2 ?_
    refine t_q (q_eql rfl rfl) ?_
    refine t_q (q_pick_f rfl hg2) ?_
    refine t_nil ?_
    refine c_cond rfl ?_ ?_
    · intro hc5
      have hc5d := of_decide_eq_true hc5
      refine c_seq ?_
      refine c_region ?_
      refine t_call Try.call106 (plives_calls) rfl ?_
      rintro e w ⟨rfl, hT⟩
      refine ⟨_, rfl, ?_⟩
      replace hS := hS.after hT
      refine t_q (q_as (.bool _) rfl) ?_
      refine t_nil ?_
      refine c_ret ?_
      refine r_one rfl rfl ?_
      exact ⟨rfl, hS.nil⟩
    · intro hc5
      have hc5d := of_decide_eq_false hc5
      have h500 : bd.l.length ≤ 500 := by omega
      have hTz : T ≠ 0 := by omega
      have hen := enc_ten (n := bd.l.length) (by omega)
      refine c_skip ?_
      refine c_seq ?_
      refine c_region ?_
      refine t_q (q_fieldAddr 0 Try.runUnderlying144 rfl Try.sizeOf5 (by decide) rfl rfl) ?_
      refine t_q (q_load1 Try.isAgg5 rfl (hS.cell (by repeat first | exact .here _ _ | assumption | apply Pick.there) rfl)) ?_
      refine t_q (q_fieldAddr 1 Try.runUnderlying144 rfl Try.sizeOf48 (by decide) rfl rfl) ?_
      refine t_q (q_load1 Try.isAgg48 rfl (hS.cell (by repeat first | exact .here _ _ | assumption | apply Pick.there) rfl)) ?_
      refine t_call Try.call107 (wrap_calls (kk := kk) (hR.st hS) (by omega)) rfl ?_
      rintro e w ⟨A32, m32, c32, rfl, hm32, hT⟩
      refine ⟨_, rfl, ?_⟩
      have hS : St W w (_ :: _) := hS.lift hT
      subst hm32
      have hcap32 := hS.row_le (.here _ _)
      refine t_q (q_mv (.tuple _) rfl) ?_
      refine t_q (q_extract rfl rfl) ?_
      refine t_q (q_extract rfl rfl) ?_
      refine t_q (q_as (.slice _ _ _) rfl) ?_
      refine t_q (q_as (.int _ _) rfl) ?_
      refine t_nil ?_
      refine c_seq ?_
      refine c_seq ?_
      refine c_region ?_
      refine t_q (q_mv (.int _ _) rfl) ?_
      refine t_q (q_neq rfl rfl) ?_
      refine t_nil ?_
      refine c_cond rfl ?_ ?_
      · intro hc11
        have hc11d := of_decide_eq_true hc11
        have hk0 : kk = 0 := by
          rcases Classical.em (kk = 0) with h | h
          · exact h
          · have := (wrapE_ok (body := bd.l) h (by omega)).1; omega
        refine c_seq ?_
        refine c_region ?_
        refine t_q (q_fieldAddr 0 Try.runUnderlying144 rfl Try.sizeOf5 (by decide) rfl rfl) ?_
        refine t_q (q_load1 Try.isAgg5 rfl (hS.cell (by repeat first | exact .here _ _ | assumption | apply Pick.there) rfl)) ?_
        refine t_q (q_cast (v' := .bool true) (q_eql rfl rfl) (by rw [hk0]; rfl)) ?_
        refine t_q (q_mv (.bool _) rfl) ?_
        refine t_yes rfl rfl rfl ?_
        refine t_call Try.call106 (plives_calls) rfl ?_
        rintro e w ⟨rfl, hT⟩
        refine ⟨_, rfl, ?_⟩
        replace hS := hS.after hT
        refine t_q (q_pick_t rfl rfl) ?_
        refine t_q (q_as (.bool _) rfl) ?_
        refine t_nil ?_
        refine c_ret ?_
        refine r_one rfl rfl ?_
        exact ⟨rfl, hS.nil⟩
      · intro hc11
        have hc11d := of_decide_eq_false hc11
        have hk0 : kk ≠ 0 := fun h => by have := (wrapE_zero (body := bd.l) h).1; omega
        have hw := (wrapE_ok (body := bd.l) hk0 (by omega)).2
        have hwl : (wrapL kk bd.l).length = 1 + ((enc bd.l.length).length + bd.l.length) + 4 := by rw [hw]; unfold parB; rw [List.length_append, preB_len, four_length]
        refine c_skip ?_
        refine c_seq ?_
        refine c_region ?_
        refine t_build_bytes [] Try.runUnderlying48 Try.sizeOf5 Try.zeroValue5 rfl rfl (by simp; try omega) (by decide) hS (fun g43 w hS => ?_)
        refine t_q (q_mv (.slice _ _ _) rfl) ?_
        refine t_append (size := 1) (bytes := 1) Try.underlying48 (info_of Try.type5) rfl rfl rfl rfl (by decide) hS (by repeat first | exact .here _ _ | assumption | apply Pick.there) (hS.rowRd (A := A32) (c := c32) (bs := (wrapL kk bd.l)) (by repeat first | exact .here _ _ | assumption | apply Pick.there) rfl) rfl rfl (fun _ _ => rfl) (by unfold maxLen; omega) (by omega) (fun A45 c45 w hS => ?_)
        simp only [List.nil_append, List.map_nil] at hS
        rw [flat_bsf] at hS
        obtain ⟨g45, ys, hA45, hcap, hS9⟩ := row_blk hS (.here _ _) (by omega)
        clear hS
        subst hA45
        have hS := hS9
        refine t_q (q_as (.slice _ _ _) rfl) ?_
        refine t_nil ?_
        refine c_seq ?_
        refine c_seq ?_
        refine c_region ?_
        refine t_q (q_mv (.slice _ _ _) rfl) ?_
        refine t_q (q_len_slice Try.runUnderlying48 rfl) ?_
        refine t_q (q_eql rfl rfl) ?_
        refine t_nil ?_
        refine c_cond rfl ?_ ?_
        · intro hc15
          have hc15d := of_decide_eq_true hc15
          exfalso; omega
        · intro hc15
          have hc15d := of_decide_eq_false hc15
          refine c_skip ?_
          refine c_seq ?_
          obtain ⟨ff, hff, hfl⟩ : ∃ ff : Nat, a % (8 * ((0 + (wrapL kk bd.l).length : Nat) : Int)) = (ff : Int) ∧ ff < 8 * (wrapL kk bd.l).length := by
            have h1 := Int.emod_nonneg a (show (8 * ((0 + (wrapL kk bd.l).length : Nat) : Int)) ≠ 0 by omega)
            have h2 := Int.emod_lt_of_pos a (show 0 < (8 * ((0 + (wrapL kk bd.l).length : Nat) : Int)) by omega)
            exact ⟨(a % (8 * ((0 + (wrapL kk bd.l).length : Nat) : Int))).toNat, by omega, by omega⟩
          refine c_region ?_
          refine t_q (q_mv (.int _ _) rfl) ?_
          refine t_q (q_conv_i64 Try.runUnderlying145 Try.runUnderlying3 rfl (by omega)) ?_
          refine t_q (q_mv (.slice _ _ _) rfl) ?_
          refine t_q (q_len_slice Try.runUnderlying48 rfl) ?_
          refine t_q (q_mul_i64 rfl rfl (by omega)) ?_
          refine t_q (q_cast (v' := .int .i64 (ff : Int)) (q_rem_n rfl rfl (by omega) (by omega)) (by rw [hff])) ?_
          refine t_q (q_as (.int _ _) rfl) ?_
          refine t_nil ?_
          refine c_seq ?_
          refine c_region ?_
          refine t_q (q_assign) ?_
          refine t_nil ?_
          refine c_seq ?_
          refine c_seq ?_
          refine c_region ?_
          refine t_q (q_assign) ?_
          refine t_nil ?_
          refine c_block ?_
          refine c_loop [11, 12, 55, 56, 57, 58, 59, 60, 61, 62, 63, 64, 65, 66, 67, 68, 69, 70, 71, 72, 73, 74, 75, 76, 77, 78, 79, 80, 81, 82, 83, 84, 85, 86] (fun k σ w => ∃ (i : Nat) (cs : List UInt8), σ 12 = .int .i64 (i : Int) ∧ σ 11 = .bool (decide (T % 2 ^ i ≠ 0)) ∧ i ≤ 32 ∧ 32 - i ≤ k ∧ ff + i ≤ 8 * (wrapL kk bd.l).length ∧ cs.length = (wrapL kk bd.l).length ∧ numL cs = numL (wrapL kk bd.l) ^^^ (T % 2 ^ i * 2 ^ ff) ∧ St W w [blkA g45 5 (cs.map bv ++ ys), rowA 5 1 A32 (wrapL kk bd.l).length c32 ((wrapL kk bd.l).map bv), blkA g3 144 [.int .u8 (kk.toNat : Int), .slice bd.A bd.l.length bd.c]]) (32) rfl (⟨0, (wrapL kk bd.l), rfl, (congrArg Value.bool (decide_eq_false (by rw [Nat.pow_zero, Nat.mod_one]; decide)).symm), by omega, by omega, by omega, rfl, (by rw [Nat.pow_zero, Nat.mod_one, Nat.zero_mul, Nat.xor_zero]), hS⟩) ?_
          skip
          rintro k σ w ⟨i, cs, h12, h11, hi, hk, hfi, hcl, hnum, hS⟩
          refine c_know 12 h12 ?_
          refine c_know 11 h11 ?_
          clear h12 h11
          have hTd : T / 2 ^ i ≤ T := Nat.div_le_self _ _
          have hTd0 : (0 : Int) ≤ ((T / 2 ^ i : Nat) : Int) := Int.natCast_nonneg _
          have hr0 : (0 : Int) ≤ ((2 ^ ((ff + i) % 8) : Nat) : Int) := Int.natCast_nonneg _
          have hcq := (cs.getD ((ff + i) / 8) 0).toNat_lt
          have hr8 : 2 ^ ((ff + i) % 8) ≤ 2 ^ 7 := Nat.pow_le_pow_right (by decide) (by omega)
          refine c_seq ?_
          refine c_seq ?_
          refine c_region ?_
          refine t_q (q_mv (.int _ _) rfl) ?_
          refine t_q (q_lss rfl rfl) ?_
          refine t_q (q_mv (.bool _) rfl) ?_
          refine t_case 57 rfl ?_ ?_
          · intro hg17
            have hg17d := of_decide_eq_true hg17
            refine t_yes rfl rfl hg17 ?_
            refine t_q (q_mv (.int _ _) rfl) ?_
            refine t_yes rfl rfl hg17 ?_
            refine t_q (q_mv (.int _ _) rfl) ?_
            refine t_yes rfl rfl hg17 ?_
            refine t_q (q_add_i64 rfl rfl (by omega)) ?_
            refine t_yes rfl rfl hg17 ?_
            refine t_q (q_mv (.slice _ _ _) rfl) ?_
            refine t_yes rfl rfl hg17 ?_
            refine t_q (q_len_slice Try.runUnderlying48 rfl) ?_
            refine t_yes rfl rfl hg17 ?_
            refine t_q (q_mul_i64 rfl rfl (by omega)) ?_
            refine t_yes rfl rfl hg17 ?_
            refine t_q (q_lss rfl rfl) ?_
            refine t_q (q_pick_t rfl hg17) ?_
            refine t_nil ?_
            refine c_cond rfl ?_ ?_
            · intro hc19
              have hc19d := of_decide_eq_true hc19
              refine c_skip ?_
              refine c_seq ?_
              refine c_block ?_
              refine c_seq ?_
              refine c_region ?_
              refine t_q (q_mv (.int _ _) rfl) ?_
              refine t_q (q_mv (.int _ _) rfl) ?_
              refine t_q (q_cast (v' := .int .u32 ((T / 2 ^ i : Nat) : Int)) (q_shr rfl rfl (by omega)) (by rw [shr_val (by omega)])) ?_
              refine t_q (q_cast (v' := .int .u32 ((T / 2 ^ i % 2 : Nat) : Int)) (q_and_u32 rfl rfl (by omega) (by omega)) (by rw [Int.toNat_natCast]; exact congrArg (fun n : Nat => Value.int .u32 (n : Int)) (Nat.and_one_is_mod _))) ?_
              refine t_q (q_eql rfl rfl) ?_
              refine t_nil ?_
              refine c_cond rfl ?_ ?_
              · intro hc21
                have hc21d := of_decide_eq_true hc21
                have hbit : T / 2 ^ i % 2 = 1 := by omega
                refine c_seq ?_
                refine c_draw ?_
                refine d_quiet 15 [0, 1, 2, 3, 4, 5, 6, 7, 8, 9, 10, 11, 12, 13, 14] [0, 1, 2, 3, 4, 5, 6, 7, 8, 9, 10, 11, 12, 13, 14] hS rfl (by kernel_rfl) (by kernel_rfl) (by kernel_rfl) (by kernel_rfl) (fun hap hsel w hS => ?_)
                refine p_q hap hsel 0 rfl rfl hS (fun w hS => q_mv (.slice _ _ _) rfl) ?_
                refine p_q hap hsel 1 rfl rfl hS (fun w hS => q_mv (.int _ _) rfl) ?_
                refine p_q hap hsel 2 rfl rfl hS (fun w hS => q_mv (.int _ _) rfl) ?_
                refine p_q hap hsel 3 rfl rfl hS (fun w hS => q_add_i64 rfl rfl (by omega)) ?_
                refine p_q hap hsel 4 rfl rfl hS (fun w hS => (q_cast (v' := .int .i64 ((((ff + i) / 8) : Nat) : Int)) (q_quo_n rfl rfl (by omega) (by omega) (wrap_i64 (by omega))) (by congr 1))) ?_
                refine p_q hap hsel 5 rfl rfl hS (fun w hS => q_cast (v' := .pointer (some ⟨g45, 0 + ((ff + i) / 8) * 1, none⟩)) (q_indexAddr Try.runUnderlying48 Try.sizeOf5 rfl rfl (by omega)) (by rw [addr_add, Int.toNat_natCast])) ?_
                refine p_q hap hsel 6 rfl rfl hS (fun w hS => q_load1 Try.isAgg5 rfl (hS.cell (by repeat first | exact .here _ _ | assumption | apply Pick.there) (blk_get (by omega)))) ?_
                refine p_q hap hsel 7 rfl rfl hS (fun w hS => q_mv (.int _ _) rfl) ?_
                refine p_q hap hsel 8 rfl rfl hS (fun w hS => q_mv (.int _ _) rfl) ?_
                refine p_q hap hsel 9 rfl rfl hS (fun w hS => q_add_i64 rfl rfl (by omega)) ?_
                refine p_q hap hsel 10 rfl rfl hS (fun w hS => (q_cast (v' := .int .i64 ((((ff + i) % 8) : Nat) : Int)) (q_rem_n rfl rfl (by omega) (by omega)) (by congr 1))) ?_
                refine p_q hap hsel 11 rfl rfl hS (fun w hS => (q_cast (v' := .int .u8 ((2 ^ ((ff + i) % 8) : Nat) : Int)) (q_shl rfl rfl (by omega)) (by rw [shl_val8 (by omega)]))) ?_
                refine p_q hap hsel 12 rfl rfl hS (fun w hS => (q_cast (v' := .int .u8 (((cs.getD ((ff + i) / 8) 0).toNat ^^^ 2 ^ ((ff + i) % 8) : Nat) : Int)) (q_xor_u8 rfl rfl (by omega) (by omega)) (by rw [Int.toNat_natCast, Int.toNat_natCast]))) ?_
                refine p_q hap hsel 13 rfl rfl hS (fun w hS => q_cast (v' := .pointer (some ⟨g45, 0 + ((ff + i) / 8) * 1, none⟩)) (q_indexAddr Try.runUnderlying48 Try.sizeOf5 rfl rfl (by omega)) (by rw [addr_add, Int.toNat_natCast])) ?_
                refine p_one 14 rfl (by kernel_rfl) ?_
                refine t_store (v := (.int _ _)) Try.sizeOf5 hS (by repeat first | exact .here _ _ | assumption | apply Pick.there) rfl rfl rfl rfl rfl (Nat.ble_eq_true_of_le (by show 0 + ((ff + i) / 8) * 1 + 1 ≤ (cs.map bv ++ ys).length; rw [List.length_append, List.length_map]; omega)) (fun w hS => ?_)
                refine t_nil ?_
                refine ⟨.inl (by kernel_rfl), ?_⟩
                refine p_end (by kernel_rfl) ?_
                refine c_region ?_
                refine t_q (q_assign) ?_
                refine t_nil ?_
                refine c_region ?_
                refine t_q (q_mv (.int _ _) rfl) ?_
                refine t_q (q_add_i64 rfl rfl (by omega)) ?_
                refine t_q (q_as (.int _ _) rfl) ?_
                refine t_nil ?_
                first
                  | (have hq : ((ff + i) / 8) < cs.length := by omega
                     have hv : (cs.getD ((ff + i) / 8) 0).toNat ^^^ 2 ^ ((ff + i) % 8) < 256 := Nat.xor_lt_two_pow (n := 8) (by omega) (by omega)
                     refine ⟨k - 1, by omega, i + 1, cs.set ((ff + i) / 8) (UInt8.ofNat ((cs.getD ((ff + i) / 8) 0).toNat ^^^ 2 ^ ((ff + i) % 8))), rfl, (congrArg Value.bool (decide_eq_true (turn_any hbit)).symm), by omega, by omega, by omega, by rw [List.length_set]; exact hcl, ?_, hS.recast (congrArg (blkA g45 5 ·) (blk_set hq hv))⟩
                     rw [numL_set (by omega) cs _ hq, show 8 * ((ff + i) / 8) + ((ff + i) % 8) = ff + i from by omega]
                     exact turn_step hnum hbit)
                  | exact ⟨k - 1, by omega, i + 1, cs, rfl, by rw [turn_same hbit]; rfl, by omega, by omega, by omega, hcl, by rw [turn_same hbit]; exact hnum, hS⟩
              · intro hc21
                have hc21d := of_decide_eq_false hc21
                have hbit : ¬ T / 2 ^ i % 2 = 1 := by omega
                refine c_skip ?_
                refine c_region ?_
                refine t_q (q_mv (.int _ _) rfl) ?_
                refine t_q (q_add_i64 rfl rfl (by omega)) ?_
                refine t_q (q_as (.int _ _) rfl) ?_
                refine t_nil ?_
                first
                  | (have hq : ((ff + i) / 8) < cs.length := by omega
                     have hv : (cs.getD ((ff + i) / 8) 0).toNat ^^^ 2 ^ ((ff + i) % 8) < 256 := Nat.xor_lt_two_pow (n := 8) (by omega) (by omega)
                     refine ⟨k - 1, by omega, i + 1, cs.set ((ff + i) / 8) (UInt8.ofNat ((cs.getD ((ff + i) / 8) 0).toNat ^^^ 2 ^ ((ff + i) % 8))), rfl, (congrArg Value.bool (decide_eq_true (turn_any hbit)).symm), by omega, by omega, by omega, by rw [List.length_set]; exact hcl, ?_, hS.recast (congrArg (blkA g45 5 ·) (blk_set hq hv))⟩
                     rw [numL_set (by omega) cs _ hq, show 8 * ((ff + i) / 8) + ((ff + i) % 8) = ff + i from by omega]
                     exact turn_step hnum hbit)
                  | exact ⟨k - 1, by omega, i + 1, cs, rfl, by rw [turn_same hbit]; rfl, by omega, by omega, by omega, hcl, by rw [turn_same hbit]; exact hnum, hS⟩
            · intro hc19
              have hc19d := of_decide_eq_false hc19
              refine c_exit ?_
              refine ite_t rfl ?_
              refine c_seq ?_
              refine c_region ?_
              refine t_q (q_mv (.slice _ _ _) rfl) ?_
              refine t_q (q_len_slice Try.runUnderlying48 rfl) ?_
              refine t_q (q_fieldAddr 1 Try.runUnderlying144 rfl Try.sizeOf48 (by decide) rfl rfl) ?_
              refine t_q (q_load1 Try.isAgg48 rfl (hS.cell (by repeat first | exact .here _ _ | assumption | apply Pick.there) rfl)) ?_
              refine t_q (q_len_slice Try.runUnderlying48 rfl) ?_
              refine t_q (q_sub_i64 rfl rfl (by omega)) ?_
              refine t_q (q_cast (v' := .int .i64 ((enc bd.l.length).length : Int)) (q_sub_i64 rfl rfl (by omega)) (by congr 1; omega)) ?_
              refine t_q (q_as (.int _ _) rfl) ?_
              refine t_nil ?_
              refine c_seq ?_
              refine c_seq ?_
              refine c_draw ?_
              refine d_keep2 (rowA 5 1 A32 (wrapL kk bd.l).length c32 ((wrapL kk bd.l).map bv)) (blkA g45 5 (cs.map bv ++ ys)) 19 [0, 1, 2, 3, 4, 5, 6, 7, 8, 9, 10, 11, 12, 13, 14, 15, 16, 17, 18] [0, 1, 2, 3, 4, 5, 6, 7, 8, 9, 10, 11, 12, 13, 14, 15, 16, 17, 18] hS rfl (by kernel_rfl) (by kernel_rfl) (by kernel_rfl) (by kernel_rfl) (fun hap hsel w hS => ?_)
              refine p_q hap hsel 0 rfl rfl ⟨_, ((hS.pick (A := blkA g45 5 (cs.map bv ++ ys)) (by repeat first | exact .here _ _ | assumption | apply Pick.there)).pick (A := rowA 5 1 A32 (wrapL kk bd.l).length c32 ((wrapL kk bd.l).map bv)) (by repeat first | exact .here _ _ | assumption | apply Pick.there))⟩ (fun w hI => q_mv (.bool _) rfl) ?_
              refine p_q hap hsel 1 rfl rfl ⟨_, ((hS.pick (A := blkA g45 5 (cs.map bv ++ ys)) (by repeat first | exact .here _ _ | assumption | apply Pick.there)).pick (A := rowA 5 1 A32 (wrapL kk bd.l).length c32 ((wrapL kk bd.l).map bv)) (by repeat first | exact .here _ _ | assumption | apply Pick.there))⟩ (fun w hI => q_not rfl) ?_
              refine p_q hap hsel 2 rfl rfl ⟨_, ((hS.pick (A := blkA g45 5 (cs.map bv ++ ys)) (by repeat first | exact .here _ _ | assumption | apply Pick.there)).pick (A := rowA 5 1 A32 (wrapL kk bd.l).length c32 ((wrapL kk bd.l).map bv)) (by repeat first | exact .here _ _ | assumption | apply Pick.there))⟩ (fun w hI => q_mv (.bool _) rfl) ?_
              refine p_case 96 rfl ?_ ?_
              · intro hg23
                refine p_no hap hsel 3 rfl rfl ⟨_, ((hS.pick (A := blkA g45 5 (cs.map bv ++ ys)) (by repeat first | exact .here _ _ | assumption | apply Pick.there)).pick (A := rowA 5 1 A32 (wrapL kk bd.l).length c32 ((wrapL kk bd.l).map bv)) (by repeat first | exact .here _ _ | assumption | apply Pick.there))⟩ rfl rfl (by rw [(congrArg not (not_back hg23))]; decide) ?_
                refine p_no hap hsel 4 rfl rfl ⟨_, ((hS.pick (A := blkA g45 5 (cs.map bv ++ ys)) (by repeat first | exact .here _ _ | assumption | apply Pick.there)).pick (A := rowA 5 1 A32 (wrapL kk bd.l).length c32 ((wrapL kk bd.l).map bv)) (by repeat first | exact .here _ _ | assumption | apply Pick.there))⟩ rfl rfl (by rw [(congrArg not (not_back hg23))]; decide) ?_
                refine p_q hap hsel 5 rfl rfl ⟨_, ((hS.pick (A := blkA g45 5 (cs.map bv ++ ys)) (by repeat first | exact .here _ _ | assumption | apply Pick.there)).pick (A := rowA 5 1 A32 (wrapL kk bd.l).length c32 ((wrapL kk bd.l).map bv)) (by repeat first | exact .here _ _ | assumption | apply Pick.there))⟩ (fun w hI => q_pick_t rfl (congrArg not (not_back hg23))) ?_
                refine p_q hap hsel 6 rfl rfl ⟨_, ((hS.pick (A := blkA g45 5 (cs.map bv ++ ys)) (by repeat first | exact .here _ _ | assumption | apply Pick.there)).pick (A := rowA 5 1 A32 (wrapL kk bd.l).length c32 ((wrapL kk bd.l).map bv)) (by repeat first | exact .here _ _ | assumption | apply Pick.there))⟩ (fun w hI => q_mv (.bool _) rfl) ?_
                refine p_no hap hsel 7 rfl rfl ⟨_, ((hS.pick (A := blkA g45 5 (cs.map bv ++ ys)) (by repeat first | exact .here _ _ | assumption | apply Pick.there)).pick (A := rowA 5 1 A32 (wrapL kk bd.l).length c32 ((wrapL kk bd.l).map bv)) (by repeat first | exact .here _ _ | assumption | apply Pick.there))⟩ rfl rfl (by decide) ?_
                refine p_no hap hsel 8 rfl rfl ⟨_, ((hS.pick (A := blkA g45 5 (cs.map bv ++ ys)) (by repeat first | exact .here _ _ | assumption | apply Pick.there)).pick (A := rowA 5 1 A32 (wrapL kk bd.l).length c32 ((wrapL kk bd.l).map bv)) (by repeat first | exact .here _ _ | assumption | apply Pick.there))⟩ rfl rfl (by decide) ?_
                refine p_no hap hsel 9 rfl rfl ⟨_, ((hS.pick (A := blkA g45 5 (cs.map bv ++ ys)) (by repeat first | exact .here _ _ | assumption | apply Pick.there)).pick (A := rowA 5 1 A32 (wrapL kk bd.l).length c32 ((wrapL kk bd.l).map bv)) (by repeat first | exact .here _ _ | assumption | apply Pick.there))⟩ rfl rfl (by decide) ?_
                refine p_no hap hsel 10 rfl rfl ⟨_, ((hS.pick (A := blkA g45 5 (cs.map bv ++ ys)) (by repeat first | exact .here _ _ | assumption | apply Pick.there)).pick (A := rowA 5 1 A32 (wrapL kk bd.l).length c32 ((wrapL kk bd.l).map bv)) (by repeat first | exact .here _ _ | assumption | apply Pick.there))⟩ rfl rfl (by decide) ?_
                refine p_no hap hsel 11 rfl rfl ⟨_, ((hS.pick (A := blkA g45 5 (cs.map bv ++ ys)) (by repeat first | exact .here _ _ | assumption | apply Pick.there)).pick (A := rowA 5 1 A32 (wrapL kk bd.l).length c32 ((wrapL kk bd.l).map bv)) (by repeat first | exact .here _ _ | assumption | apply Pick.there))⟩ rfl rfl (by decide) ?_
                refine p_no hap hsel 12 rfl rfl ⟨_, ((hS.pick (A := blkA g45 5 (cs.map bv ++ ys)) (by repeat first | exact .here _ _ | assumption | apply Pick.there)).pick (A := rowA 5 1 A32 (wrapL kk bd.l).length c32 ((wrapL kk bd.l).map bv)) (by repeat first | exact .here _ _ | assumption | apply Pick.there))⟩ rfl rfl (by decide) ?_
                refine p_no hap hsel 13 rfl rfl ⟨_, ((hS.pick (A := blkA g45 5 (cs.map bv ++ ys)) (by repeat first | exact .here _ _ | assumption | apply Pick.there)).pick (A := rowA 5 1 A32 (wrapL kk bd.l).length c32 ((wrapL kk bd.l).map bv)) (by repeat first | exact .here _ _ | assumption | apply Pick.there))⟩ rfl rfl (by decide) ?_
                refine p_no hap hsel 14 rfl rfl ⟨_, ((hS.pick (A := blkA g45 5 (cs.map bv ++ ys)) (by repeat first | exact .here _ _ | assumption | apply Pick.there)).pick (A := rowA 5 1 A32 (wrapL kk bd.l).length c32 ((wrapL kk bd.l).map bv)) (by repeat first | exact .here _ _ | assumption | apply Pick.there))⟩ rfl rfl (by decide) ?_
                refine p_no hap hsel 15 rfl rfl ⟨_, ((hS.pick (A := blkA g45 5 (cs.map bv ++ ys)) (by repeat first | exact .here _ _ | assumption | apply Pick.there)).pick (A := rowA 5 1 A32 (wrapL kk bd.l).length c32 ((wrapL kk bd.l).map bv)) (by repeat first | exact .here _ _ | assumption | apply Pick.there))⟩ rfl rfl (by decide) ?_
                refine p_no hap hsel 16 rfl rfl ⟨_, ((hS.pick (A := blkA g45 5 (cs.map bv ++ ys)) (by repeat first | exact .here _ _ | assumption | apply Pick.there)).pick (A := rowA 5 1 A32 (wrapL kk bd.l).length c32 ((wrapL kk bd.l).map bv)) (by repeat first | exact .here _ _ | assumption | apply Pick.there))⟩ rfl rfl (by decide) ?_
                refine p_no hap hsel 17 rfl rfl ⟨_, ((hS.pick (A := blkA g45 5 (cs.map bv ++ ys)) (by repeat first | exact .here _ _ | assumption | apply Pick.there)).pick (A := rowA 5 1 A32 (wrapL kk bd.l).length c32 ((wrapL kk bd.l).map bv)) (by repeat first | exact .here _ _ | assumption | apply Pick.there))⟩ rfl rfl (by decide) ?_
                refine p_q hap hsel 18 rfl rfl ⟨_, ((hS.pick (A := blkA g45 5 (cs.map bv ++ ys)) (by repeat first | exact .here _ _ | assumption | apply Pick.there)).pick (A := rowA 5 1 A32 (wrapL kk bd.l).length c32 ((wrapL kk bd.l).map bv)) (by repeat first | exact .here _ _ | assumption | apply Pick.there))⟩ (fun w hI => q_pick_t rfl rfl) ?_
                refine p_end (by kernel_rfl) ?_
                refine c_cond_t rfl rfl ?_
                refine c_seq ?_
                refine c_region ?_
                refine t_call Try.call106 (plives_calls) rfl ?_
                rintro e w ⟨rfl, hT⟩
                refine ⟨_, rfl, ?_⟩
                replace hS := hS.after hT
                refine t_q (q_as (.bool _) rfl) ?_
                refine t_nil ?_
                refine c_ret ?_
                refine r_one rfl rfl ?_
                exact ⟨rfl, hS.nil⟩
              · intro hg23
                refine p_yes hap hsel 3 rfl rfl ⟨_, ((hS.pick (A := blkA g45 5 (cs.map bv ++ ys)) (by repeat first | exact .here _ _ | assumption | apply Pick.there)).pick (A := rowA 5 1 A32 (wrapL kk bd.l).length c32 ((wrapL kk bd.l).map bv)) (by repeat first | exact .here _ _ | assumption | apply Pick.there))⟩ rfl rfl (congrArg not (not_back hg23)) (fun w hI => q_mv (.int _ _) rfl) ?_
                refine p_yes hap hsel 4 rfl rfl ⟨_, ((hS.pick (A := blkA g45 5 (cs.map bv ++ ys)) (by repeat first | exact .here _ _ | assumption | apply Pick.there)).pick (A := rowA 5 1 A32 (wrapL kk bd.l).length c32 ((wrapL kk bd.l).map bv)) (by repeat first | exact .here _ _ | assumption | apply Pick.there))⟩ rfl rfl (congrArg not (not_back hg23)) (fun w hI => (q_cast (v' := .bool false) (q_lss rfl rfl) (by rw [decide_eq_false (by omega)]))) ?_
                refine p_q hap hsel 5 rfl rfl ⟨_, ((hS.pick (A := blkA g45 5 (cs.map bv ++ ys)) (by repeat first | exact .here _ _ | assumption | apply Pick.there)).pick (A := rowA 5 1 A32 (wrapL kk bd.l).length c32 ((wrapL kk bd.l).map bv)) (by repeat first | exact .here _ _ | assumption | apply Pick.there))⟩ (fun w hI => q_pick_f rfl (congrArg not (not_back hg23))) ?_
                refine p_q hap hsel 6 rfl rfl ⟨_, ((hS.pick (A := blkA g45 5 (cs.map bv ++ ys)) (by repeat first | exact .here _ _ | assumption | apply Pick.there)).pick (A := rowA 5 1 A32 (wrapL kk bd.l).length c32 ((wrapL kk bd.l).map bv)) (by repeat first | exact .here _ _ | assumption | apply Pick.there))⟩ (fun w hI => q_mv (.bool _) rfl) ?_
                refine p_yes hap hsel 7 rfl rfl ⟨_, ((hS.pick (A := blkA g45 5 (cs.map bv ++ ys)) (by repeat first | exact .here _ _ | assumption | apply Pick.there)).pick (A := rowA 5 1 A32 (wrapL kk bd.l).length c32 ((wrapL kk bd.l).map bv)) (by repeat first | exact .here _ _ | assumption | apply Pick.there))⟩ rfl rfl rfl (fun w hI => q_mv (.slice _ _ _) rfl) ?_
                refine p_yes hap hsel 8 rfl rfl ⟨_, ((hS.pick (A := blkA g45 5 (cs.map bv ++ ys)) (by repeat first | exact .here _ _ | assumption | apply Pick.there)).pick (A := rowA 5 1 A32 (wrapL kk bd.l).length c32 ((wrapL kk bd.l).map bv)) (by repeat first | exact .here _ _ | assumption | apply Pick.there))⟩ rfl rfl rfl (fun w hI => q_mv (.int _ _) rfl) ?_
                refine p_yes hap hsel 9 rfl rfl ⟨_, ((hS.pick (A := blkA g45 5 (cs.map bv ++ ys)) (by repeat first | exact .here _ _ | assumption | apply Pick.there)).pick (A := rowA 5 1 A32 (wrapL kk bd.l).length c32 ((wrapL kk bd.l).map bv)) (by repeat first | exact .here _ _ | assumption | apply Pick.there))⟩ rfl rfl rfl (fun w hI => q_add_i64 rfl rfl (by omega)) ?_
                refine p_yes hap hsel 10 rfl rfl ⟨_, ((hS.pick (A := blkA g45 5 (cs.map bv ++ ys)) (by repeat first | exact .here _ _ | assumption | apply Pick.there)).pick (A := rowA 5 1 A32 (wrapL kk bd.l).length c32 ((wrapL kk bd.l).map bv)) (by repeat first | exact .here _ _ | assumption | apply Pick.there))⟩ rfl rfl rfl (fun w hI => (q_cast (v' := .slice (if c45 = 1 then (some ⟨g45, 0, none⟩ : Option Addr) else ((some ⟨g45, 0, none⟩ : Option Addr)).map (·.add (1 * 1))) ((cs.drop 1).take (enc bd.l.length).length).length (c45 - 1)) (q_slice Try.runUnderlying48 Try.sizeOf5 rfl ⟨_, _, rfl, by omega, by omega, rfl⟩ ⟨_, _, rfl, by omega, by omega, rfl⟩) (by rw [List.length_take, List.length_drop, show min (enc bd.l.length).length (cs.length - 1) = ((1 : Int) + ((enc bd.l.length).length : Int)).toNat - 1 from by omega]; rfl))) ?_
                refine p_yes hap hsel 11 rfl rfl ⟨_, ((hS.pick (A := blkA g45 5 (cs.map bv ++ ys)) (by repeat first | exact .here _ _ | assumption | apply Pick.there)).pick (A := rowA 5 1 A32 (wrapL kk bd.l).length c32 ((wrapL kk bd.l).map bv)) (by repeat first | exact .here _ _ | assumption | apply Pick.there))⟩ rfl rfl rfl (fun w hI => q_string Try.runUnderlying48 Try.runUnderlying5 Try.runUnderlying9 rfl rfl ((show RdB _ _ ((cs.drop 1).take (enc bd.l.length).length) from by have h := cut_rd (l := 1) (m := 1 + (enc bd.l.length).length) (c := c45) (blk_rdB hI.choose_spec (by repeat first | exact .here _ _ | assumption | apply Pick.there)) (by omega) (by omega) (by omega); rwa [show 1 + (enc bd.l.length).length - 1 = (enc bd.l.length).length from by omega] at h))) ?_
                refine p_yes hap hsel 12 rfl rfl ⟨_, ((hS.pick (A := blkA g45 5 (cs.map bv ++ ys)) (by repeat first | exact .here _ _ | assumption | apply Pick.there)).pick (A := rowA 5 1 A32 (wrapL kk bd.l).length c32 ((wrapL kk bd.l).map bv)) (by repeat first | exact .here _ _ | assumption | apply Pick.there))⟩ rfl rfl rfl (fun w hI => q_mv (.slice _ _ _) rfl) ?_
                refine p_yes hap hsel 13 rfl rfl ⟨_, ((hS.pick (A := blkA g45 5 (cs.map bv ++ ys)) (by repeat first | exact .here _ _ | assumption | apply Pick.there)).pick (A := rowA 5 1 A32 (wrapL kk bd.l).length c32 ((wrapL kk bd.l).map bv)) (by repeat first | exact .here _ _ | assumption | apply Pick.there))⟩ rfl rfl rfl (fun w hI => q_mv (.int _ _) rfl) ?_
                refine p_yes hap hsel 14 rfl rfl ⟨_, ((hS.pick (A := blkA g45 5 (cs.map bv ++ ys)) (by repeat first | exact .here _ _ | assumption | apply Pick.there)).pick (A := rowA 5 1 A32 (wrapL kk bd.l).length c32 ((wrapL kk bd.l).map bv)) (by repeat first | exact .here _ _ | assumption | apply Pick.there))⟩ rfl rfl rfl (fun w hI => q_add_i64 rfl rfl (by omega)) ?_
                refine p_yes hap hsel 15 rfl rfl ⟨_, ((hS.pick (A := blkA g45 5 (cs.map bv ++ ys)) (by repeat first | exact .here _ _ | assumption | apply Pick.there)).pick (A := rowA 5 1 A32 (wrapL kk bd.l).length c32 ((wrapL kk bd.l).map bv)) (by repeat first | exact .here _ _ | assumption | apply Pick.there))⟩ rfl rfl rfl (fun w hI => (q_cast (v' := .slice (if c32 = 1 then A32 else (A32).map (·.add (1 * 1))) (((wrapL kk bd.l).drop 1).take (enc bd.l.length).length).length (c32 - 1)) (q_slice Try.runUnderlying48 Try.sizeOf5 rfl ⟨_, _, rfl, by omega, by omega, rfl⟩ ⟨_, _, rfl, by omega, by omega, rfl⟩) (by rw [List.length_take, List.length_drop, show min (enc bd.l.length).length ((wrapL kk bd.l).length - 1) = ((1 : Int) + ((enc bd.l.length).length : Int)).toNat - 1 from by omega]; rfl))) ?_
                refine p_yes hap hsel 16 rfl rfl ⟨_, ((hS.pick (A := blkA g45 5 (cs.map bv ++ ys)) (by repeat first | exact .here _ _ | assumption | apply Pick.there)).pick (A := rowA 5 1 A32 (wrapL kk bd.l).length c32 ((wrapL kk bd.l).map bv)) (by repeat first | exact .here _ _ | assumption | apply Pick.there))⟩ rfl rfl rfl (fun w hI => q_string Try.runUnderlying48 Try.runUnderlying5 Try.runUnderlying9 rfl rfl ((show RdB _ _ (((wrapL kk bd.l).drop 1).take (enc bd.l.length).length) from by have h := cut_rd (l := 1) (m := 1 + (enc bd.l.length).length) (c := c32) (hI.choose_spec.rowRd (A := A32) (c := c32) (bs := (wrapL kk bd.l)) (by repeat first | exact .here _ _ | assumption | apply Pick.there) rfl) (by omega) (by omega) (by omega); rwa [show 1 + (enc bd.l.length).length - 1 = (enc bd.l.length).length from by omega] at h))) ?_
                refine p_yes hap hsel 17 rfl rfl ⟨_, ((hS.pick (A := blkA g45 5 (cs.map bv ++ ys)) (by repeat first | exact .here _ _ | assumption | apply Pick.there)).pick (A := rowA 5 1 A32 (wrapL kk bd.l).length c32 ((wrapL kk bd.l).map bv)) (by repeat first | exact .here _ _ | assumption | apply Pick.there))⟩ rfl rfl rfl (fun w hI => q_neq_string rfl rfl) ?_
                refine p_q hap hsel 18 rfl rfl ⟨_, ((hS.pick (A := blkA g45 5 (cs.map bv ++ ys)) (by repeat first | exact .here _ _ | assumption | apply Pick.there)).pick (A := rowA 5 1 A32 (wrapL kk bd.l).length c32 ((wrapL kk bd.l).map bv)) (by repeat first | exact .here _ _ | assumption | apply Pick.there))⟩ (fun w hI => q_pick_f rfl rfl) ?_
                refine p_end (by kernel_rfl) ?_
                refine c_cond rfl ?_ ?_
                · intro hc27
                  have hc27d := of_decide_eq_true hc27
                  refine c_seq ?_
                  refine c_region ?_
                  refine t_call Try.call106 (plives_calls) rfl ?_
                  rintro e w ⟨rfl, hT⟩
                  refine ⟨_, rfl, ?_⟩
                  replace hS := hS.after hT
                  refine t_q (q_as (.bool _) rfl) ?_
                  refine t_nil ?_
                  refine c_ret ?_
                  refine r_one rfl rfl ?_
                  exact ⟨rfl, hS.nil⟩
                · intro hc27
                  have hc27d := of_decide_eq_false hc27
                  have hne : T % 2 ^ i ≠ 0 := by have h := ‹(!decide (T % 2 ^ i ≠ 0)) = false›; simpa using h
                  have hse : (cs.drop 1).take (enc bd.l.length).length = ((parB kk bd.l).drop 1).take (enc bd.l.length).length := by rw [← hw]; simpa using hc27
                  have hTl : T % 2 ^ i < 4294967296 := Nat.lt_of_le_of_lt (Nat.mod_le _ _) (by omega)
                  refine c_skip ?_
                  refine c_seq ?_
                  refine c_region ?_
                  refine t_q (q_mv (.slice _ _ _) rfl) ?_
                  have hn0 : 0 + (wrapL kk bd.l).length = cs.length := by omega
                  refine t_call Try.call111 (take_calls (A := some ⟨g45, 0, none⟩) (c := c45) (bs := cs) (blk_rdB hS (by repeat first | exact .here _ _ | assumption | apply Pick.there)) ⟨by omega, by omega⟩) (congrArg (fun n => [Value.slice (some ⟨g45, 0, none⟩) n c45]) hn0) ?_
                  rintro e w ⟨A116, m116, c116, rfl, hm116, hT⟩
                  refine ⟨_, rfl, ?_⟩
                  have hS : St W w (_ :: _) := hS.lift hT
                  subst hm116
                  refine t_q (q_mv (.tuple _) rfl) ?_
                  refine t_q (q_extract rfl rfl) ?_
                  refine t_q (q_extract rfl rfl) ?_
                  refine t_q (q_extract rfl rfl) ?_
                  refine t_q (q_extract rfl rfl) ?_
                  refine t_q (q_as (.int _ _) rfl) ?_
                  refine t_q (q_as (.slice _ _ _) rfl) ?_
                  refine t_q (q_as (.int _ _) rfl) ?_
                  refine t_q (q_as (.int _ _) rfl) ?_
                  refine t_nil ?_
                  refine c_seq ?_
                  refine c_seq ?_
                  refine c_region ?_
                  refine t_q (q_mv (.slice _ _ _) rfl) ?_
                  refine t_q (q_cast (v' := .pointer (some ⟨g45, 0 + 0 * 1, none⟩)) (q_indexAddr Try.runUnderlying48 Try.sizeOf5 rfl rfl (by omega)) (by rw [addr_add]; rfl)) ?_
                  refine t_q (q_load1 Try.isAgg5 rfl (hS.cell (by repeat first | exact .here _ _ | assumption | apply Pick.there) (blk_get (by omega)))) ?_
                  refine t_q (q_eql rfl rfl) ?_
                  refine t_nil ?_
                  refine c_cond rfl ?_ ?_
                  · intro hc35
                    have hc35d := of_decide_eq_true hc35
                    refine c_seq ?_
                    refine c_region ?_
                    refine t_q (q_mv (.int _ _) rfl) ?_
                    refine t_q (q_cast (v' := .bool true) (q_eql rfl rfl) (by rw [tkE_2 (by omega) (u8_zero.1 (by omega))]; rfl)) ?_
                    refine t_q (q_mv (.bool _) rfl) ?_
                    refine t_yes rfl rfl rfl ?_
                    refine t_call Try.call106 (plives_calls) rfl ?_
                    rintro e w ⟨rfl, hT⟩
                    refine ⟨_, rfl, ?_⟩
                    replace hS := hS.after hT
                    refine t_q (q_pick_t rfl rfl) ?_
                    refine t_q (q_as (.bool _) rfl) ?_
                    refine t_nil ?_
                    refine c_ret ?_
                    refine r_one rfl rfl ?_
                    exact ⟨rfl, hS.nil⟩
                  · intro hc35
                    have hc35d := of_decide_eq_false hc35
                    have h30 := take_burst' (kk := kk) (body := bd.l) (cs := cs) (f := ff) (T := T % 2 ^ i) (by omega) (by rw [hcl, hw]) (fun h => by have := u8_zero.2 h; omega) (by rw [hnum, hw]) hTl hne hse
                    refine c_skip ?_
                    refine c_seq ?_
                    refine c_region ?_
                    refine t_q (q_mv (.int _ _) rfl) ?_
                    refine t_q (q_cast (v' := .bool true) (q_eql rfl rfl) (by rw [h30]; rfl)) ?_
                    refine t_q (q_mv (.bool _) rfl) ?_
                    refine t_yes rfl rfl rfl ?_
                    refine t_call Try.call106 (plives_calls) rfl ?_
                    rintro e w ⟨rfl, hT⟩
                    refine ⟨_, rfl, ?_⟩
                    replace hS := hS.after hT
                    refine t_q (q_pick_t rfl rfl) ?_
                    refine t_q (q_as (.bool _) rfl) ?_
                    refine t_nil ?_
                    refine c_ret ?_
                    refine r_one rfl rfl ?_
                    exact ⟨rfl, hS.nil⟩
          · intro hg17
            have hg17d := of_decide_eq_false hg17
            refine t_no rfl rfl (by rw [hg17]; decide) ?_
            refine t_no rfl rfl (by rw [hg17]; decide) ?_
            refine t_no rfl rfl (by rw [hg17]; decide) ?_
            refine t_no rfl rfl (by rw [hg17]; decide) ?_
            refine t_no rfl rfl (by rw [hg17]; decide) ?_
            refine t_no rfl rfl (by rw [hg17]; decide) ?_
            refine t_no rfl rfl (by rw [hg17]; decide) ?_
            refine t_q (q_pick_f rfl hg17) ?_
            refine t_nil ?_
            refine c_cond_f rfl rfl ?_
            refine c_exit ?_
            refine ite_t rfl ?_
            refine c_seq ?_
            refine c_region ?_
            refine t_q (q_mv (.slice _ _ _) rfl) ?_
            refine t_q (q_len_slice Try.runUnderlying48 rfl) ?_
            refine t_q (q_fieldAddr 1 Try.runUnderlying144 rfl Try.sizeOf48 (by decide) rfl rfl) ?_
            refine t_q (q_load1 Try.isAgg48 rfl (hS.cell (by repeat first | exact .here _ _ | assumption | apply Pick.there) rfl)) ?_
            refine t_q (q_len_slice Try.runUnderlying48 rfl) ?_
            refine t_q (q_sub_i64 rfl rfl (by omega)) ?_
            refine t_q (q_cast (v' := .int .i64 ((enc bd.l.length).length : Int)) (q_sub_i64 rfl rfl (by omega)) (by congr 1; omega)) ?_
            refine t_q (q_as (.int _ _) rfl) ?_
            refine t_nil ?_
            refine c_seq ?_
            refine c_seq ?_
            refine c_draw ?_
            refine d_keep2 (rowA 5 1 A32 (wrapL kk bd.l).length c32 ((wrapL kk bd.l).map bv)) (blkA g45 5 (cs.map bv ++ ys)) 19 [0, 1, 2, 3, 4, 5, 6, 7, 8, 9, 10, 11, 12, 13, 14, 15, 16, 17, 18] [0, 1, 2, 3, 4, 5, 6, 7, 8, 9, 10, 11, 12, 13, 14, 15, 16, 17, 18] hS rfl (by kernel_rfl) (by kernel_rfl) (by kernel_rfl) (by kernel_rfl) (fun hap hsel w hS => ?_)
            refine p_q hap hsel 0 rfl rfl ⟨_, ((hS.pick (A := blkA g45 5 (cs.map bv ++ ys)) (by repeat first | exact .here _ _ | assumption | apply Pick.there)).pick (A := rowA 5 1 A32 (wrapL kk bd.l).length c32 ((wrapL kk bd.l).map bv)) (by repeat first | exact .here _ _ | assumption | apply Pick.there))⟩ (fun w hI => q_mv (.bool _) rfl) ?_
            refine p_q hap hsel 1 rfl rfl ⟨_, ((hS.pick (A := blkA g45 5 (cs.map bv ++ ys)) (by repeat first | exact .here _ _ | assumption | apply Pick.there)).pick (A := rowA 5 1 A32 (wrapL kk bd.l).length c32 ((wrapL kk bd.l).map bv)) (by repeat first | exact .here _ _ | assumption | apply Pick.there))⟩ (fun w hI => q_not rfl) ?_
            refine p_q hap hsel 2 rfl rfl ⟨_, ((hS.pick (A := blkA g45 5 (cs.map bv ++ ys)) (by repeat first | exact .here _ _ | assumption | apply Pick.there)).pick (A := rowA 5 1 A32 (wrapL kk bd.l).length c32 ((wrapL kk bd.l).map bv)) (by repeat first | exact .here _ _ | assumption | apply Pick.there))⟩ (fun w hI => q_mv (.bool _) rfl) ?_
            refine p_case 96 rfl ?_ ?_
            · intro hg41
              refine p_no hap hsel 3 rfl rfl ⟨_, ((hS.pick (A := blkA g45 5 (cs.map bv ++ ys)) (by repeat first | exact .here _ _ | assumption | apply Pick.there)).pick (A := rowA 5 1 A32 (wrapL kk bd.l).length c32 ((wrapL kk bd.l).map bv)) (by repeat first | exact .here _ _ | assumption | apply Pick.there))⟩ rfl rfl (by rw [(congrArg not (not_back hg41))]; decide) ?_
              refine p_no hap hsel 4 rfl rfl ⟨_, ((hS.pick (A := blkA g45 5 (cs.map bv ++ ys)) (by repeat first | exact .here _ _ | assumption | apply Pick.there)).pick (A := rowA 5 1 A32 (wrapL kk bd.l).length c32 ((wrapL kk bd.l).map bv)) (by repeat first | exact .here _ _ | assumption | apply Pick.there))⟩ rfl rfl (by rw [(congrArg not (not_back hg41))]; decide) ?_
              refine p_q hap hsel 5 rfl rfl ⟨_, ((hS.pick (A := blkA g45 5 (cs.map bv ++ ys)) (by repeat first | exact .here _ _ | assumption | apply Pick.there)).pick (A := rowA 5 1 A32 (wrapL kk bd.l).length c32 ((wrapL kk bd.l).map bv)) (by repeat first | exact .here _ _ | assumption | apply Pick.there))⟩ (fun w hI => q_pick_t rfl (congrArg not (not_back hg41))) ?_
              refine p_q hap hsel 6 rfl rfl ⟨_, ((hS.pick (A := blkA g45 5 (cs.map bv ++ ys)) (by repeat first | exact .here _ _ | assumption | apply Pick.there)).pick (A := rowA 5 1 A32 (wrapL kk bd.l).length c32 ((wrapL kk bd.l).map bv)) (by repeat first | exact .here _ _ | assumption | apply Pick.there))⟩ (fun w hI => q_mv (.bool _) rfl) ?_
              refine p_no hap hsel 7 rfl rfl ⟨_, ((hS.pick (A := blkA g45 5 (cs.map bv ++ ys)) (by repeat first | exact .here _ _ | assumption | apply Pick.there)).pick (A := rowA 5 1 A32 (wrapL kk bd.l).length c32 ((wrapL kk bd.l).map bv)) (by repeat first | exact .here _ _ | assumption | apply Pick.there))⟩ rfl rfl (by decide) ?_
              refine p_no hap hsel 8 rfl rfl ⟨_, ((hS.pick (A := blkA g45 5 (cs.map bv ++ ys)) (by repeat first | exact .here _ _ | assumption | apply Pick.there)).pick (A := rowA 5 1 A32 (wrapL kk bd.l).length c32 ((wrapL kk bd.l).map bv)) (by repeat first | exact .here _ _ | assumption | apply Pick.there))⟩ rfl rfl (by decide) ?_
              refine p_no hap hsel 9 rfl rfl ⟨_, ((hS.pick (A := blkA g45 5 (cs.map bv ++ ys)) (by repeat first | exact .here _ _ | assumption | apply Pick.there)).pick (A := rowA 5 1 A32 (wrapL kk bd.l).length c32 ((wrapL kk bd.l).map bv)) (by repeat first | exact .here _ _ | assumption | apply Pick.there))⟩ rfl rfl (by decide) ?_
              refine p_no hap hsel 10 rfl rfl ⟨_, ((hS.pick (A := blkA g45 5 (cs.map bv ++ ys)) (by repeat first | exact .here _ _ | assumption | apply Pick.there)).pick (A := rowA 5 1 A32 (wrapL kk bd.l).length c32 ((wrapL kk bd.l).map bv)) (by repeat first | exact .here _ _ | assumption | apply Pick.there))⟩ rfl rfl (by decide) ?_
              refine p_no hap hsel 11 rfl rfl ⟨_, ((hS.pick (A := blkA g45 5 (cs.map bv ++ ys)) (by repeat first | exact .here _ _ | assumption | apply Pick.there)).pick (A := rowA 5 1 A32 (wrapL kk bd.l).length c32 ((wrapL kk bd.l).map bv)) (by repeat first | exact .here _ _ | assumption | apply Pick.there))⟩ rfl rfl (by decide) ?_
              refine p_no hap hsel 12 rfl rfl ⟨_, ((hS.pick (A := blkA g45 5 (cs.map bv ++ ys)) (by repeat first | exact .here _ _ | assumption | apply Pick.there)).pick (A := rowA 5 1 A32 (wrapL kk bd.l).length c32 ((wrapL kk bd.l).map bv)) (by repeat first | exact .here _ _ | assumption | apply Pick.there))⟩ rfl rfl (by decide) ?_
              refine p_no hap hsel 13 rfl rfl ⟨_, ((hS.pick (A := blkA g45 5 (cs.map bv ++ ys)) (by repeat first | exact .here _ _ | assumption | apply Pick.there)).pick (A := rowA 5 1 A32 (wrapL kk bd.l).length c32 ((wrapL kk bd.l).map bv)) (by repeat first | exact .here _ _ | assumption | apply Pick.there))⟩ rfl rfl (by decide) ?_
              refine p_no hap hsel 14 rfl rfl ⟨_, ((hS.pick (A := blkA g45 5 (cs.map bv ++ ys)) (by repeat first | exact .here _ _ | assumption | apply Pick.there)).pick (A := rowA 5 1 A32 (wrapL kk bd.l).length c32 ((wrapL kk bd.l).map bv)) (by repeat first | exact .here _ _ | assumption | apply Pick.there))⟩ rfl rfl (by decide) ?_
              refine p_no hap hsel 15 rfl rfl ⟨_, ((hS.pick (A := blkA g45 5 (cs.map bv ++ ys)) (by repeat first | exact .here _ _ | assumption | apply Pick.there)).pick (A := rowA 5 1 A32 (wrapL kk bd.l).length c32 ((wrapL kk bd.l).map bv)) (by repeat first | exact .here _ _ | assumption | apply Pick.there))⟩ rfl rfl (by decide) ?_
              refine p_no hap hsel 16 rfl rfl ⟨_, ((hS.pick (A := blkA g45 5 (cs.map bv ++ ys)) (by repeat first | exact .here _ _ | assumption | apply Pick.there)).pick (A := rowA 5 1 A32 (wrapL kk bd.l).length c32 ((wrapL kk bd.l).map bv)) (by repeat first | exact .here _ _ | assumption | apply Pick.there))⟩ rfl rfl (by decide) ?_
              refine p_no hap hsel 17 rfl rfl ⟨_, ((hS.pick (A := blkA g45 5 (cs.map bv ++ ys)) (by repeat first | exact .here _ _ | assumption | apply Pick.there)).pick (A := rowA 5 1 A32 (wrapL kk bd.l).length c32 ((wrapL kk bd.l).map bv)) (by repeat first | exact .here _ _ | assumption | apply Pick.there))⟩ rfl rfl (by decide) ?_
              refine p_q hap hsel 18 rfl rfl ⟨_, ((hS.pick (A := blkA g45 5 (cs.map bv ++ ys)) (by repeat first | exact .here _ _ | assumption | apply Pick.there)).pick (A := rowA 5 1 A32 (wrapL kk bd.l).length c32 ((wrapL kk bd.l).map bv)) (by repeat first | exact .here _ _ | assumption | apply Pick.there))⟩ (fun w hI => q_pick_t rfl rfl) ?_
              refine p_end (by kernel_rfl) ?_
              refine c_cond_t rfl rfl ?_
              refine c_seq ?_
              refine c_region ?_
              refine t_call Try.call106 (plives_calls) rfl ?_
              rintro e w ⟨rfl, hT⟩
              refine ⟨_, rfl, ?_⟩
              replace hS := hS.after hT
              refine t_q (q_as (.bool _) rfl) ?_
              refine t_nil ?_
              refine c_ret ?_
              refine r_one rfl rfl ?_
              exact ⟨rfl, hS.nil⟩
            · intro hg41
              refine p_yes hap hsel 3 rfl rfl ⟨_, ((hS.pick (A := blkA g45 5 (cs.map bv ++ ys)) (by repeat first | exact .here _ _ | assumption | apply Pick.there)).pick (A := rowA 5 1 A32 (wrapL kk bd.l).length c32 ((wrapL kk bd.l).map bv)) (by repeat first | exact .here _ _ | assumption | apply Pick.there))⟩ rfl rfl (congrArg not (not_back hg41)) (fun w hI => q_mv (.int _ _) rfl) ?_
              refine p_yes hap hsel 4 rfl rfl ⟨_, ((hS.pick (A := blkA g45 5 (cs.map bv ++ ys)) (by repeat first | exact .here _ _ | assumption | apply Pick.there)).pick (A := rowA 5 1 A32 (wrapL kk bd.l).length c32 ((wrapL kk bd.l).map bv)) (by repeat first | exact .here _ _ | assumption | apply Pick.there))⟩ rfl rfl (congrArg not (not_back hg41)) (fun w hI => (q_cast (v' := .bool false) (q_lss rfl rfl) (by rw [decide_eq_false (by omega)]))) ?_
              refine p_q hap hsel 5 rfl rfl ⟨_, ((hS.pick (A := blkA g45 5 (cs.map bv ++ ys)) (by repeat first | exact .here _ _ | assumption | apply Pick.there)).pick (A := rowA 5 1 A32 (wrapL kk bd.l).length c32 ((wrapL kk bd.l).map bv)) (by repeat first | exact .here _ _ | assumption | apply Pick.there))⟩ (fun w hI => q_pick_f rfl (congrArg not (not_back hg41))) ?_
              refine p_q hap hsel 6 rfl rfl ⟨_, ((hS.pick (A := blkA g45 5 (cs.map bv ++ ys)) (by repeat first | exact .here _ _ | assumption | apply Pick.there)).pick (A := rowA 5 1 A32 (wrapL kk bd.l).length c32 ((wrapL kk bd.l).map bv)) (by repeat first | exact .here _ _ | assumption | apply Pick.there))⟩ (fun w hI => q_mv (.bool _) rfl) ?_
              refine p_yes hap hsel 7 rfl rfl ⟨_, ((hS.pick (A := blkA g45 5 (cs.map bv ++ ys)) (by repeat first | exact .here _ _ | assumption | apply Pick.there)).pick (A := rowA 5 1 A32 (wrapL kk bd.l).length c32 ((wrapL kk bd.l).map bv)) (by repeat first | exact .here _ _ | assumption | apply Pick.there))⟩ rfl rfl rfl (fun w hI => q_mv (.slice _ _ _) rfl) ?_
              refine p_yes hap hsel 8 rfl rfl ⟨_, ((hS.pick (A := blkA g45 5 (cs.map bv ++ ys)) (by repeat first | exact .here _ _ | assumption | apply Pick.there)).pick (A := rowA 5 1 A32 (wrapL kk bd.l).length c32 ((wrapL kk bd.l).map bv)) (by repeat first | exact .here _ _ | assumption | apply Pick.there))⟩ rfl rfl rfl (fun w hI => q_mv (.int _ _) rfl) ?_
              refine p_yes hap hsel 9 rfl rfl ⟨_, ((hS.pick (A := blkA g45 5 (cs.map bv ++ ys)) (by repeat first | exact .here _ _ | assumption | apply Pick.there)).pick (A := rowA 5 1 A32 (wrapL kk bd.l).length c32 ((wrapL kk bd.l).map bv)) (by repeat first | exact .here _ _ | assumption | apply Pick.there))⟩ rfl rfl rfl (fun w hI => q_add_i64 rfl rfl (by omega)) ?_
              refine p_yes hap hsel 10 rfl rfl ⟨_, ((hS.pick (A := blkA g45 5 (cs.map bv ++ ys)) (by repeat first | exact .here _ _ | assumption | apply Pick.there)).pick (A := rowA 5 1 A32 (wrapL kk bd.l).length c32 ((wrapL kk bd.l).map bv)) (by repeat first | exact .here _ _ | assumption | apply Pick.there))⟩ rfl rfl rfl (fun w hI => (q_cast (v' := .slice (if c45 = 1 then (some ⟨g45, 0, none⟩ : Option Addr) else ((some ⟨g45, 0, none⟩ : Option Addr)).map (·.add (1 * 1))) ((cs.drop 1).take (enc bd.l.length).length).length (c45 - 1)) (q_slice Try.runUnderlying48 Try.sizeOf5 rfl ⟨_, _, rfl, by omega, by omega, rfl⟩ ⟨_, _, rfl, by omega, by omega, rfl⟩) (by rw [List.length_take, List.length_drop, show min (enc bd.l.length).length (cs.length - 1) = ((1 : Int) + ((enc bd.l.length).length : Int)).toNat - 1 from by omega]; rfl))) ?_
              refine p_yes hap hsel 11 rfl rfl ⟨_, ((hS.pick (A := blkA g45 5 (cs.map bv ++ ys)) (by repeat first | exact .here _ _ | assumption | apply Pick.there)).pick (A := rowA 5 1 A32 (wrapL kk bd.l).length c32 ((wrapL kk bd.l).map bv)) (by repeat first | exact .here _ _ | assumption | apply Pick.there))⟩ rfl rfl rfl (fun w hI => q_string Try.runUnderlying48 Try.runUnderlying5 Try.runUnderlying9 rfl rfl ((show RdB _ _ ((cs.drop 1).take (enc bd.l.length).length) from by have h := cut_rd (l := 1) (m := 1 + (enc bd.l.length).length) (c := c45) (blk_rdB hI.choose_spec (by repeat first | exact .here _ _ | assumption | apply Pick.there)) (by omega) (by omega) (by omega); rwa [show 1 + (enc bd.l.length).length - 1 = (enc bd.l.length).length from by omega] at h))) ?_
              refine p_yes hap hsel 12 rfl rfl ⟨_, ((hS.pick (A := blkA g45 5 (cs.map bv ++ ys)) (by repeat first | exact .here _ _ | assumption | apply Pick.there)).pick (A := rowA 5 1 A32 (wrapL kk bd.l).length c32 ((wrapL kk bd.l).map bv)) (by repeat first | exact .here _ _ | assumption | apply Pick.there))⟩ rfl rfl rfl (fun w hI => q_mv (.slice _ _ _) rfl) ?_
              refine p_yes hap hsel 13 rfl rfl ⟨_, ((hS.pick (A := blkA g45 5 (cs.map bv ++ ys)) (by repeat first | exact .here _ _ | assumption | apply Pick.there)).pick (A := rowA 5 1 A32 (wrapL kk bd.l).length c32 ((wrapL kk bd.l).map bv)) (by repeat first | exact .here _ _ | assumption | apply Pick.there))⟩ rfl rfl rfl (fun w hI => q_mv (.int _ _) rfl) ?_
              refine p_yes hap hsel 14 rfl rfl ⟨_, ((hS.pick (A := blkA g45 5 (cs.map bv ++ ys)) (by repeat first | exact .here _ _ | assumption | apply Pick.there)).pick (A := rowA 5 1 A32 (wrapL kk bd.l).length c32 ((wrapL kk bd.l).map bv)) (by repeat first | exact .here _ _ | assumption | apply Pick.there))⟩ rfl rfl rfl (fun w hI => q_add_i64 rfl rfl (by omega)) ?_
              refine p_yes hap hsel 15 rfl rfl ⟨_, ((hS.pick (A := blkA g45 5 (cs.map bv ++ ys)) (by repeat first | exact .here _ _ | assumption | apply Pick.there)).pick (A := rowA 5 1 A32 (wrapL kk bd.l).length c32 ((wrapL kk bd.l).map bv)) (by repeat first | exact .here _ _ | assumption | apply Pick.there))⟩ rfl rfl rfl (fun w hI => (q_cast (v' := .slice (if c32 = 1 then A32 else (A32).map (·.add (1 * 1))) (((wrapL kk bd.l).drop 1).take (enc bd.l.length).length).length (c32 - 1)) (q_slice Try.runUnderlying48 Try.sizeOf5 rfl ⟨_, _, rfl, by omega, by omega, rfl⟩ ⟨_, _, rfl, by omega, by omega, rfl⟩) (by rw [List.length_take, List.length_drop, show min (enc bd.l.length).length ((wrapL kk bd.l).length - 1) = ((1 : Int) + ((enc bd.l.length).length : Int)).toNat - 1 from by omega]; rfl))) ?_
              refine p_yes hap hsel 16 rfl rfl ⟨_, ((hS.pick (A := blkA g45 5 (cs.map bv ++ ys)) (by repeat first | exact .here _ _ | assumption | apply Pick.there)).pick (A := rowA 5 1 A32 (wrapL kk bd.l).length c32 ((wrapL kk bd.l).map bv)) (by repeat first | exact .here _ _ | assumption | apply Pick.there))⟩ rfl rfl rfl (fun w hI => q_string Try.runUnderlying48 Try.runUnderlying5 Try.runUnderlying9 rfl rfl ((show RdB _ _ (((wrapL kk bd.l).drop 1).take (enc bd.l.length).length) from by have h := cut_rd (l := 1) (m := 1 + (enc bd.l.length).length) (c := c32) (hI.choose_spec.rowRd (A := A32) (c := c32) (bs := (wrapL kk bd.l)) (by repeat first | exact .here _ _ | assumption | apply Pick.there) rfl) (by omega) (by omega) (by omega); rwa [show 1 + (enc bd.l.length).length - 1 = (enc bd.l.length).length from by omega] at h))) ?_
              refine p_yes hap hsel 17 rfl rfl ⟨_, ((hS.pick (A := blkA g45 5 (cs.map bv ++ ys)) (by repeat first | exact .here _ _ | assumption | apply Pick.there)).pick (A := rowA 5 1 A32 (wrapL kk bd.l).length c32 ((wrapL kk bd.l).map bv)) (by repeat first | exact .here _ _ | assumption | apply Pick.there))⟩ rfl rfl rfl (fun w hI => q_neq_string rfl rfl) ?_
              refine p_q hap hsel 18 rfl rfl ⟨_, ((hS.pick (A := blkA g45 5 (cs.map bv ++ ys)) (by repeat first | exact .here _ _ | assumption | apply Pick.there)).pick (A := rowA 5 1 A32 (wrapL kk bd.l).length c32 ((wrapL kk bd.l).map bv)) (by repeat first | exact .here _ _ | assumption | apply Pick.there))⟩ (fun w hI => q_pick_f rfl rfl) ?_
              refine p_end (by kernel_rfl) ?_
              refine c_cond rfl ?_ ?_
              · intro hc45
                have hc45d := of_decide_eq_true hc45
                refine c_seq ?_
                refine c_region ?_
                refine t_call Try.call106 (plives_calls) rfl ?_
                rintro e w ⟨rfl, hT⟩
                refine ⟨_, rfl, ?_⟩
                replace hS := hS.after hT
                refine t_q (q_as (.bool _) rfl) ?_
                refine t_nil ?_
                refine c_ret ?_
                refine r_one rfl rfl ?_
                exact ⟨rfl, hS.nil⟩
              · intro hc45
                have hc45d := of_decide_eq_false hc45
                have hne : T % 2 ^ i ≠ 0 := by have h := ‹(!decide (T % 2 ^ i ≠ 0)) = false›; simpa using h
                have hse : (cs.drop 1).take (enc bd.l.length).length = ((parB kk bd.l).drop 1).take (enc bd.l.length).length := by rw [← hw]; simpa using hc45
                have hTl : T % 2 ^ i < 4294967296 := Nat.lt_of_le_of_lt (Nat.mod_le _ _) (by omega)
                refine c_skip ?_
                refine c_seq ?_
                refine c_region ?_
                refine t_q (q_mv (.slice _ _ _) rfl) ?_
                have hn0 : 0 + (wrapL kk bd.l).length = cs.length := by omega
                refine t_call Try.call111 (take_calls (A := some ⟨g45, 0, none⟩) (c := c45) (bs := cs) (blk_rdB hS (by repeat first | exact .here _ _ | assumption | apply Pick.there)) ⟨by omega, by omega⟩) (congrArg (fun n => [Value.slice (some ⟨g45, 0, none⟩) n c45]) hn0) ?_
                rintro e w ⟨A116, m116, c116, rfl, hm116, hT⟩
                refine ⟨_, rfl, ?_⟩
                have hS : St W w (_ :: _) := hS.lift hT
                subst hm116
                refine t_q (q_mv (.tuple _) rfl) ?_
                refine t_q (q_extract rfl rfl) ?_
                refine t_q (q_extract rfl rfl) ?_
                refine t_q (q_extract rfl rfl) ?_
                refine t_q (q_extract rfl rfl) ?_
                refine t_q (q_as (.int _ _) rfl) ?_
                refine t_q (q_as (.slice _ _ _) rfl) ?_
                refine t_q (q_as (.int _ _) rfl) ?_
                refine t_q (q_as (.int _ _) rfl) ?_
                refine t_nil ?_
                refine c_seq ?_
                refine c_seq ?_
                refine c_region ?_
                refine t_q (q_mv (.slice _ _ _) rfl) ?_
                refine t_q (q_cast (v' := .pointer (some ⟨g45, 0 + 0 * 1, none⟩)) (q_indexAddr Try.runUnderlying48 Try.sizeOf5 rfl rfl (by omega)) (by rw [addr_add]; rfl)) ?_
                refine t_q (q_load1 Try.isAgg5 rfl (hS.cell (by repeat first | exact .here _ _ | assumption | apply Pick.there) (blk_get (by omega)))) ?_
                refine t_q (q_eql rfl rfl) ?_
                refine t_nil ?_
                refine c_cond rfl ?_ ?_
                · intro hc53
                  have hc53d := of_decide_eq_true hc53
                  refine c_seq ?_
                  refine c_region ?_
                  refine t_q (q_mv (.int _ _) rfl) ?_
                  refine t_q (q_cast (v' := .bool true) (q_eql rfl rfl) (by rw [tkE_2 (by omega) (u8_zero.1 (by omega))]; rfl)) ?_
                  refine t_q (q_mv (.bool _) rfl) ?_
                  refine t_yes rfl rfl rfl ?_
                  refine t_call Try.call106 (plives_calls) rfl ?_
                  rintro e w ⟨rfl, hT⟩
                  refine ⟨_, rfl, ?_⟩
                  replace hS := hS.after hT
                  refine t_q (q_pick_t rfl rfl) ?_
                  refine t_q (q_as (.bool _) rfl) ?_
                  refine t_nil ?_
                  refine c_ret ?_
                  refine r_one rfl rfl ?_
                  exact ⟨rfl, hS.nil⟩
                · intro hc53
                  have hc53d := of_decide_eq_false hc53
                  have h30 := take_burst' (kk := kk) (body := bd.l) (cs := cs) (f := ff) (T := T % 2 ^ i) (by omega) (by rw [hcl, hw]) (fun h => by have := u8_zero.2 h; omega) (by rw [hnum, hw]) hTl hne hse
                  refine c_skip ?_
                  refine c_seq ?_
                  refine c_region ?_
                  refine t_q (q_mv (.int _ _) rfl) ?_
                  refine t_q (q_cast (v' := .bool true) (q_eql rfl rfl) (by rw [h30]; rfl)) ?_
                  refine t_q (q_mv (.bool _) rfl) ?_
                  refine t_yes rfl rfl rfl ?_
                  refine t_call Try.call106 (plives_calls) rfl ?_
                  rintro e w ⟨rfl, hT⟩
                  refine ⟨_, rfl, ?_⟩
                  replace hS := hS.after hT
                  refine t_q (q_pick_t rfl rfl) ?_
                  refine t_q (q_as (.bool _) rfl) ?_
                  refine t_nil ?_
                  refine c_ret ?_
                  refine r_one rfl rfl ?_
                  exact ⟨rfl, hS.nil⟩
end Go.Proofs.Ytcikoealneldkaa
