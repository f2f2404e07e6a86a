/- Whole numbers, flags and texts read, both ways. -/
import Derived.Test.YtmgobaojioaioaaDoorCr
namespace Go.Proofs.YtmgobaojioaioaaDoor
open Go Go.RowKit Go.Lib
variable {W : World}
theorem rNat_all {w : World} {L R : List Asn} {g : Nat} {s : Rs} (hS : St W w L) (pk : Pick L (rdrA W 93 g s) R) :
  Calls Tryd.prog 57 #[.pointer (some ⟨g, 0, none⟩), .int .u64 18446744073709551615] w fun e w' => e = .returned (.int .u64 (((s.nat allNat).1 : Nat) : Int)) ∧ St W w' (rdrA W 93 g (s.nat allNat).2 :: R) := rNat (most := 18446744073709551615) hS pk (by decide) (by decide)
theorem nat_lt (s : Rs) : (s.nat allNat).1 < 18446744073709551616 := by have := s.nat_le allNat; unfold allNat at *; omega
theorem unzig_bits {n : Nat} (h : n < 18446744073709551616) : IntKind.i64.wrap (BitVec.ofInt IntKind.i64.bits (((n : Int)) / 2) ^^^ BitVec.ofInt IntKind.i64.bits (-(((n &&& 1 : Nat)) : Int))).toNat = unzig n := by
  have h1 : n &&& 1 = n % 2 := Nat.and_one_is_mod n
  have hv := unzig_range h
  show IntKind.i64.wrap ((BitVec.ofInt 64 ((n : Int) / 2) ^^^ BitVec.ofInt 64 (-((n &&& 1 : Nat) : Int)) : BitVec 64).toNat : Int) = unzig n
  rw [h1, show ((n : Int) / 2) = ((n / 2 : Nat) : Int) from by omega, BitVec.ofInt_natCast]
  unfold unzig at hv ⊢
  by_cases he : n % 2 = 0
  · rw [if_pos he] at hv ⊢
    rw [he, show BitVec.ofInt 64 (-((0 : Nat) : Int)) = 0#64 from rfl, BitVec.xor_zero, BitVec.toNat_ofNat, wrap_i64 (by omega)]
    omega
  · rw [if_neg he] at hv ⊢
    rw [show n % 2 = 1 from by omega, show BitVec.ofInt 64 (-((1 : Nat) : Int)) = BitVec.allOnes 64 from rfl, BitVec.xor_allOnes, BitVec.toNat_not, BitVec.toNat_ofNat, Nat.mod_eq_of_lt (by omega)]
    unfold IntKind.wrap IntKind.bits IntKind.signed
    rw [show ((2 ^ 64 - 1 - n / 2 : Nat) : Int) = 18446744073709551615 - (n / 2 : Nat) from by omega]
    have hd : decide ((18446744073709551615 - ((n / 2 : Nat) : Int)) % 2 ^ 64 ≥ 2 ^ (64 - 1)) = true := decide_eq_true (by omega)
    simp only [hd, Bool.true_and, if_true]
    omega
set_option maxRecDepth 100000 in
theorem rInt {w : World} {L R : List Asn} {g : Nat} {s : Rs} (hS : St W w L) (pk : Pick L (rdrA W 93 g s) R) :
  Calls Tryd.prog 56 #[.pointer (some ⟨g, 0, none⟩)] w fun e w' => e = .returned (.int .i64 s.int.1) ∧ St W w' (rdrA W 93 g s.int.2 :: R) := by
  replace hS := hS.pick pk
  clear pk
  refine calls_of_wpE (args := [_]) Tryd.func56 rfl rfl rfl ?_
  refine c_seq ?_
  refine c_region ?_
  refine t_q (q_assign) ?_
  refine t_nil ?_
  refine c_seq ?_
  refine c_region ?_
  refine t_q (q_mv (.pointer _) rfl) ?_
  refine t_call Tryd.call57 (rNat_all hS (by repeat first | exact .here _ _ | assumption | apply Pick.there)) rfl ?_
  rintro e w ⟨rfl, hS⟩
  refine ⟨_, rfl, ?_⟩
  refine t_q (q_as (.int _ _) rfl) ?_
  refine t_nil ?_
  refine c_seq ?_
  have hlt := nat_lt s
  have hand : (s.nat allNat).1 &&& 1 ≤ 1 := Nat.and_le_right
  refine c_region ?_
  refine t_q (q_mv (.int _ _) rfl) ?_
  refine t_q (q_shr_n (D := 2) rfl rfl (by decide) (by decide) (by decide)) ?_
  refine t_q (q_conv_i64 Tryd.runUnderlying89 Tryd.runUnderlying2 rfl (by omega)) ?_
  refine t_q (q_mv (.int _ _) rfl) ?_
  refine t_q (q_cast (v' := .int .u64 (((s.nat allNat).1 &&& 1 : Nat) : Int)) (q_and_u64 rfl rfl (by omega) (by omega)) (rfl)) ?_
  refine t_q (q_conv_i64 Tryd.runUnderlying89 Tryd.runUnderlying2 rfl (by omega)) ?_
  refine t_q (q_neg_i64 rfl (by omega)) ?_
  refine t_q (q_cast (v' := .int .i64 (unzig (s.nat allNat).1)) (q_xor rfl rfl) (by rw [unzig_bits hlt])) ?_
  refine t_q (q_as (.int _ _) rfl) ?_
  refine t_nil ?_
  refine c_ret ?_
  refine r_one rfl rfl ?_
  exact ⟨rfl, hS⟩
-- rFlag: no such function here
-- qFlag: no such function here
-- rTake: no such function here
-- rText: no such function here
-- qText: no such function here
end Go.Proofs.YtmgobaojioaioaaDoor
