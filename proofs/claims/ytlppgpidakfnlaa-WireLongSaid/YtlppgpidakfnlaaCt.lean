/- Whole numbers, flags and texts read, both ways. -/
import Derived.Test.YtlppgpidakfnlaaCr
namespace Go.Proofs.Ytlppgpidakfnlaa
open Go Go.RowKit Go.Lib
variable {W : World}
theorem rNat_all {w : World} {L R : List Asn} {g : Nat} {s : Rs} (hS : St W w L) (pk : Pick L (rdrA W 197 g s) R) :
  Calls Try.prog 82 #[.pointer (some ⟨g, 0, none⟩), .int .u64 18446744073709551615] w fun e w' => e = .returned (.int .u64 (((s.nat allNat).1 : Nat) : Int)) ∧ St W w' (rdrA W 197 g (s.nat allNat).2 :: R) := rNat (most := 18446744073709551615) hS pk (by decide) (by decide)
theorem nat_lt (s : Rs) : (s.nat allNat).1 < 18446744073709551616 := by have := s.nat_le allNat; unfold allNat at *; omega
theorem unzig_bits {n : Nat} (h : n < 18446744073709551616) : IntKind.i64.wrap (BitVec.ofInt IntKind.i64.bits (((n : Int)) / 2) ^^^ BitVec.ofInt IntKind.i64.bits (-(((n &&& 1 : Nat)) : Int))).toNat = unzig n := by
  have h1 : n &&& 1 = n % 2 := Nat.and_one_is_mod n
  have hv := unzig_range h
  show IntKind.i64.wrap ((BitVec.ofInt 64 ((n : Int) / 2) ^^^ BitVec.ofInt 64 (-((n &&& 1 : Nat) : Int)) : BitVec 64).toNat : Int) = unzig n
  rw [h1, show ((n : Int) / 2) = ((n / 2 : Nat) : Int) from by omega, BitVec.ofInt_natCast]
  unfold unzig at hv ⊢
  by_cases he : n % 2 = 0
  · rw [if_pos he] at hv ⊢
    rw [he, show BitVec.ofInt 64 (-((0 : Nat) : Int)) = 0#64 from rfl, BitVec.xor_zero, BitVec.toNat_ofNat, wrap_i64 (by omega)]
    omega
  · rw [if_neg he] at hv ⊢
    rw [show n % 2 = 1 from by omega, show BitVec.ofInt 64 (-((1 : Nat) : Int)) = BitVec.allOnes 64 from rfl, BitVec.xor_allOnes, BitVec.toNat_not, BitVec.toNat_ofNat, Nat.mod_eq_of_lt (by omega)]
    unfold IntKind.wrap IntKind.bits IntKind.signed
    rw [show ((2 ^ 64 - 1 - n / 2 : Nat) : Int) = 18446744073709551615 - (n / 2 : Nat) from by omega]
    have hd : decide ((18446744073709551615 - ((n / 2 : Nat) : Int)) % 2 ^ 64 ≥ 2 ^ (64 - 1)) = true := decide_eq_true (by omega)
    simp only [hd, Bool.true_and, if_true]
    omega
theorem drop_rd {w : World} {A : Option Addr} {bs : List UInt8} {k c : Nat} (hR : RdB w A bs) (hk : k ≤ bs.length) (hc : bs.length ≤ c ∧ bs.length ≤ 9223372036854775807) : RdB w (if c = k then A else A.map (·.add (k * 1))) (bs.drop k) := by
  have hcut := Rd.cut hR (l := k) (m := bs.length) (cap := c) (Nat.le_refl _) hk hc.1
  unfold RdB
  rw [List.length_drop]
  refine hcut.congr fun i hi => ?_
  simp only [bsf, List.getD_eq_getElem?_getD, List.getElem?_drop]
theorem take_rd {w : World} {A : Option Addr} {bs : List UInt8} {k c : Nat} (hR : RdB w A bs) (hk : k ≤ bs.length) (hc : bs.length ≤ c ∧ bs.length ≤ 9223372036854775807) : RdB w (if c = 0 then A else A.map (·.add (0 * 1))) (bs.take k) := by
  have hcut := Rd.cut hR (l := 0) (m := k) (cap := c) hk (Nat.zero_le _) hc.1
  unfold RdB
  rw [List.length_take, Nat.min_eq_left hk]
  refine hcut.congr fun i hi => ?_
  simp only [bsf, List.getD_eq_getElem?_getD, Nat.zero_add, List.getElem?_take]
  rw [if_pos (by omega)]
set_option maxRecDepth 100000 in
theorem rInt {w : World} {L R : List Asn} {g : Nat} {s : Rs} (hS : St W w L) (pk : Pick L (rdrA W 197 g s) R) :
  Calls Try.prog 149 #[.pointer (some ⟨g, 0, none⟩)] w fun e w' => e = .returned (.int .i64 s.int.1) ∧ St W w' (rdrA W 197 g s.int.2 :: R) := by
  replace hS := hS.pick pk
  clear pk
  refine calls_of_wpE (args := [_]) Try.func149 rfl rfl rfl ?_
  refine c_seq ?_
  refine c_region ?_
  refine t_q (q_assign) ?_
  refine t_nil ?_
  refine c_seq ?_
  refine c_region ?_
  refine t_q (q_mv (.pointer _) rfl) ?_
  refine t_call Try.call82 (rNat_all hS (by repeat first | exact .here _ _ | assumption | apply Pick.there)) rfl ?_
  rintro e w ⟨rfl, hS⟩
  refine ⟨_, rfl, ?_⟩
  refine t_q (q_as (.int _ _) rfl) ?_
  refine t_nil ?_
  refine c_seq ?_
  have hlt := nat_lt s
  have hand : (s.nat allNat).1 &&& 1 ≤ 1 := Nat.and_le_right
  refine c_region ?_
  refine t_q (q_mv (.int _ _) rfl) ?_
  refine t_q (q_shr_n (D := 2) rfl rfl (by decide) (by decide) (by decide)) ?_
  refine t_q (q_conv_i64 Try.runUnderlying43 Try.runUnderlying2 rfl (by omega)) ?_
  refine t_q (q_mv (.int _ _) rfl) ?_
  refine t_q (q_cast (v' := .int .u64 (((s.nat allNat).1 &&& 1 : Nat) : Int)) (q_and_u64 rfl rfl (by omega) (by omega)) (rfl)) ?_
  refine t_q (q_conv_i64 Try.runUnderlying43 Try.runUnderlying2 rfl (by omega)) ?_
  refine t_q (q_neg_i64 rfl (by omega)) ?_
  refine t_q (q_cast (v' := .int .i64 (unzig (s.nat allNat).1)) (q_xor rfl rfl) (by rw [unzig_bits hlt])) ?_
  refine t_q (q_as (.int _ _) rfl) ?_
  refine t_nil ?_
  refine c_ret ?_
  refine r_one rfl rfl ?_
  exact ⟨rfl, hS⟩
-- rFlag: no such function here
set_option maxRecDepth 100000 in
theorem rTake {w : World} {R : List Asn} {g : Nat} {s : Rs} {g2 g5 n : Nat} (hS : St W w (rdrA W 197 g s :: blkA g2 150 [.pointer (some ⟨g, 0, none⟩)] :: blkA g5 43 [.int .u64 (n : Int)] :: R)) (hn : n ≤ s.left.length) :
  Calls Try.prog 146 #[.pointer (some ⟨g2, 0, none⟩), .pointer (some ⟨g5, 0, none⟩)] w fun e w' => e = .returned (.string ⟨(s.left.take n).toArray⟩) ∧ ∃ L', St W w' (rdrA W 197 g ⟨s.left.drop n, s.bad⟩ :: L') ∧ L' = blkA g2 150 [.pointer (some ⟨g, 0, none⟩)] :: blkA g5 43 [.int .u64 (n : Int)] :: R := by
  obtain ⟨A, c, hR, hc, hS⟩ := hS.rdr
  refine calls_of_wpE (args := [_, _]) Try.func146 rfl rfl rfl ?_
  refine c_seq ?_
  refine c_region ?_
  refine t_q (q_assign) ?_
  refine t_nil ?_
  refine c_seq ?_
  refine c_draw ?_
  refine d_quiet 8 [0, 1, 2, 3, 4, 5, 6, 7] [0, 1, 2, 3, 4, 5, 6, 7] hS rfl (by kernel_rfl) (by kernel_rfl) (by kernel_rfl) (by kernel_rfl) (fun hap hsel w hS => ?_)
  refine p_q hap hsel 0 rfl rfl hS (fun w hS => q_load1 Try.isAgg150 rfl (hS.cell (by repeat first | exact .here _ _ | assumption | apply Pick.there) rfl)) ?_
  refine p_q hap hsel 1 rfl rfl hS (fun w hS => q_nilCheck rfl) ?_
  refine p_q hap hsel 2 rfl rfl hS (fun w hS => q_fieldAddr 0 Try.runUnderlying197 rfl Try.sizeOf25 (by decide) rfl rfl) ?_
  refine p_q hap hsel 3 rfl rfl hS (fun w hS => q_load1 Try.isAgg25 rfl (hS.cell (by repeat first | exact .here _ _ | assumption | apply Pick.there) rfl)) ?_
  refine p_q hap hsel 4 rfl rfl hS (fun w hS => q_load1 Try.isAgg43 rfl (hS.cell (by repeat first | exact .here _ _ | assumption | apply Pick.there) rfl)) ?_
  refine p_q hap hsel 5 rfl rfl hS (fun w hS => q_slice Try.runUnderlying25 Try.sizeOf5 rfl ⟨_, _, rfl, by omega, by omega, rfl⟩ rfl) ?_
  refine p_q hap hsel 6 rfl rfl hS (fun w hS => q_string Try.runUnderlying25 Try.runUnderlying5 Try.runUnderlying9 rfl (by simp; omega) (take_rd (hR.st hS) hn hc)) ?_
  refine p_q hap hsel 7 rfl rfl hS (fun w hS => q_as (.string _) rfl) ?_
  refine p_end (by kernel_rfl) ?_
  refine c_seq ?_
  refine c_draw ?_
  refine d_quiet 10 [0, 1, 2, 3, 4, 5, 6, 7, 8, 9] [0, 1, 2, 3, 4, 5, 6, 7, 8, 9] hS rfl (by kernel_rfl) (by kernel_rfl) (by kernel_rfl) (by kernel_rfl) (fun hap hsel w hS => ?_)
  refine p_q hap hsel 0 rfl rfl hS (fun w hS => q_load1 Try.isAgg150 rfl (hS.cell (by repeat first | exact .here _ _ | assumption | apply Pick.there) rfl)) ?_
  refine p_q hap hsel 1 rfl rfl hS (fun w hS => q_load1 Try.isAgg150 rfl (hS.cell (by repeat first | exact .here _ _ | assumption | apply Pick.there) rfl)) ?_
  refine p_q hap hsel 2 rfl rfl hS (fun w hS => q_nilCheck rfl) ?_
  refine p_q hap hsel 3 rfl rfl hS (fun w hS => q_fieldAddr 0 Try.runUnderlying197 rfl Try.sizeOf25 (by decide) rfl rfl) ?_
  refine p_q hap hsel 4 rfl rfl hS (fun w hS => q_load1 Try.isAgg25 rfl (hS.cell (by repeat first | exact .here _ _ | assumption | apply Pick.there) rfl)) ?_
  refine p_q hap hsel 5 rfl rfl hS (fun w hS => q_load1 Try.isAgg43 rfl (hS.cell (by repeat first | exact .here _ _ | assumption | apply Pick.there) rfl)) ?_
  refine p_q hap hsel 6 rfl rfl hS (fun w hS => q_slice Try.runUnderlying25 Try.sizeOf5 rfl rfl ⟨_, _, rfl, by omega, by omega, rfl⟩) ?_
  refine p_q hap hsel 7 rfl rfl hS (fun w hS => q_nilCheck rfl) ?_
  refine p_q hap hsel 8 rfl rfl hS (fun w hS => q_fieldAddr 0 Try.runUnderlying197 rfl Try.sizeOf25 (by decide) rfl rfl) ?_
  refine p_one 9 rfl (by kernel_rfl) ?_
  refine t_store (v := (.slice _ _ _)) Try.sizeOf25 hS (by repeat first | exact .here _ _ | assumption | apply Pick.there) rfl rfl rfl rfl rfl rfl (fun w hS => ?_)
  refine t_nil ?_
  refine ⟨.inl (by kernel_rfl), ?_⟩
  refine p_end (by kernel_rfl) ?_
  refine c_seq ?_
  refine c_region ?_
  refine t_q (q_mv (.string _) rfl) ?_
  refine t_q (q_as (.string _) rfl) ?_
  refine t_nil ?_
  refine c_ret ?_
  refine r_one rfl rfl ?_
  refine ⟨rfl, _, (hS.unrdr (s := ⟨s.left.drop n, s.bad⟩) (by simp) rfl (drop_rd hR hn hc) (by simp; omega)), rfl⟩
theorem Rs.text_neg {s : Rs} {most : Int} (h : most < 0) : s.text most = ([], s.fail) := by unfold Rs.text; rw [if_pos h]
theorem Rs.text_short {s : Rs} {most : Int} (h0 : ¬ most < 0) (h : (s.nat most.toNat).2.left.length < (s.nat most.toNat).1) : s.text most = ([], s.fail) := by unfold Rs.text; rw [if_neg h0, if_pos h]
theorem Rs.text_ok {s : Rs} {most : Int} (h0 : ¬ most < 0) (h : ¬ (s.nat most.toNat).2.left.length < (s.nat most.toNat).1) : s.text most = ((s.nat most.toNat).2.left.take (s.nat most.toNat).1, ⟨(s.nat most.toNat).2.left.drop (s.nat most.toNat).1, (s.nat most.toNat).2.bad⟩) := by unfold Rs.text; rw [if_neg h0, if_neg h]
set_option maxRecDepth 100000 in
theorem rText {w : World} {L R : List Asn} {g : Nat} {s : Rs} {most : Int} (hS : St W w L) (pk : Pick L (rdrA W 197 g s) R) (hm : most ≤ 9223372036854775807) :
  Calls Try.prog 118 #[.pointer (some ⟨g, 0, none⟩), .int .i64 most] w fun e w' => e = .returned (.string ⟨(s.text most).1.toArray⟩) ∧ St W w' (rdrA W 197 g (s.text most).2 :: R) := by
  replace hS := hS.pick pk
  clear pk
  refine calls_of_wpE (args := [_, _]) Try.func118 rfl rfl rfl ?_
  refine c_seq ?_
  refine c_region ?_
  refine t_box (v := (.pointer _)) rfl rfl hS (fun g2 w hS => ?_)
  refine t_q (q_assign) ?_
  refine t_nil ?_
  refine c_seq ?_
  refine c_seq ?_
  refine c_region ?_
  refine t_q (q_load1 Try.isAgg150 rfl (hS.cell (by repeat first | exact .here _ _ | assumption | apply Pick.there) rfl)) ?_
  refine t_q (q_eql_ptr_nil Try.runUnderlying150 rfl rfl) ?_
  refine t_nil ?_
  refine c_cond_f rfl rfl ?_
  refine c_skip ?_
  refine c_seq ?_
  refine c_seq ?_
  refine c_region ?_
  refine t_q (q_mv (.int _ _) rfl) ?_
  refine t_q (q_lss rfl rfl) ?_
  refine t_nil ?_
  refine c_cond rfl ?_ ?_
  · intro hc2
    have hc2d := of_decide_eq_true hc2
    have ht := Rs.text_neg (s := s) hc2d
    refine c_seq ?_
    refine c_region ?_
    refine t_q (q_load1 Try.isAgg150 rfl (hS.cell (by repeat first | exact .here _ _ | assumption | apply Pick.there) rfl)) ?_
    refine t_call Try.call132 (rFail hS (by repeat first | exact .here _ _ | assumption | apply Pick.there)) rfl ?_
    rintro e w ⟨rfl, hS⟩
    refine ⟨_, rfl, ?_⟩
    refine t_nil ?_
    refine c_seq ?_
    refine c_region ?_
    refine t_q (q_assign) ?_
    refine t_nil ?_
    refine c_ret ?_
    refine r_one rfl rfl ?_
    rw [ht]
    first | exact ⟨rfl, hS⟩ | exact ⟨rfl, hS.swap⟩ | exact ⟨rfl, hS.swap.swap⟩
  · intro hc2
    have hc2d := of_decide_eq_false hc2
    have h0 := hc2d
    refine c_skip ?_
    refine c_seq ?_
    refine c_region ?_
    refine t_q (q_load1 Try.isAgg150 rfl (hS.cell (by repeat first | exact .here _ _ | assumption | apply Pick.there) rfl)) ?_
    refine t_q (q_mv (.int _ _) rfl) ?_
    first | refine t_q (q_conv_u64 Try.runUnderlying3 Try.runUnderlying43 rfl (by omega)) ?_ | refine t_q (q_convm_u64 Try.runUnderlying3 Try.runUnderlying43 rfl) ?_
    refine t_call Try.call82 (rNat hS (by repeat first | exact .here _ _ | assumption | apply Pick.there) (by omega) (by omega)) rfl ?_
    rintro e w ⟨rfl, hS⟩
    refine ⟨_, rfl, ?_⟩
    refine t_alloc Try.zeroValue43 rfl hS (fun g5 w hS => ?_)
    refine t_store (v := (.int _ _)) Try.sizeOf43 hS (by repeat first | exact .here _ _ | assumption | apply Pick.there) rfl rfl rfl rfl rfl rfl (fun w hS => ?_)
    refine t_nil ?_
    refine c_seq ?_
    refine c_region ?_
    refine t_q (q_makeFunc rfl) ?_
    refine t_q (q_as (.func _ _ _) rfl) ?_
    refine t_nil ?_
    refine c_seq ?_
    refine c_seq ?_
    replace hS := hS.pick (.there (.here _ _))
    obtain ⟨A, c, hR, hc, hS⟩ := hS.rdr
    have hle := s.nat_le most.toNat
    refine c_draw ?_
    refine d_quiet 8 [0, 1, 2, 3, 4, 5, 6, 7] [0, 1, 2, 3, 4, 5, 6, 7] hS rfl (by kernel_rfl) (by kernel_rfl) (by kernel_rfl) (by kernel_rfl) (fun hap hsel w hS => ?_)
    refine p_q hap hsel 0 rfl rfl hS (fun w hS => q_load1 Try.isAgg43 rfl (hS.cell (by repeat first | exact .here _ _ | assumption | apply Pick.there) rfl)) ?_
    refine p_q hap hsel 1 rfl rfl hS (fun w hS => q_load1 Try.isAgg150 rfl (hS.cell (by repeat first | exact .here _ _ | assumption | apply Pick.there) rfl)) ?_
    refine p_q hap hsel 2 rfl rfl hS (fun w hS => q_nilCheck rfl) ?_
    refine p_q hap hsel 3 rfl rfl hS (fun w hS => q_fieldAddr 0 Try.runUnderlying197 rfl Try.sizeOf25 (by decide) rfl rfl) ?_
    refine p_q hap hsel 4 rfl rfl hS (fun w hS => q_load1 Try.isAgg25 rfl (hS.cell (by repeat first | exact .here _ _ | assumption | apply Pick.there) rfl)) ?_
    refine p_q hap hsel 5 rfl rfl hS (fun w hS => q_len_slice Try.runUnderlying25 rfl) ?_
    first | refine p_q hap hsel 6 rfl rfl hS (fun w hS => q_conv_u64 Try.runUnderlying3 Try.runUnderlying43 rfl (by omega)) ?_ | refine p_q hap hsel 6 rfl rfl hS (fun w hS => q_convm_u64 Try.runUnderlying3 Try.runUnderlying43 rfl) ?_
    refine p_q hap hsel 7 rfl rfl hS (fun w hS => q_gtr rfl rfl) ?_
    refine p_end (by kernel_rfl) ?_
    refine c_cond rfl ?_ ?_
    · intro hc6
      have hc6d := of_decide_eq_true hc6
      have ht := Rs.text_short (s := s) h0 (by omega)
      refine c_seq ?_
      refine c_region ?_
      refine t_q (q_load1 Try.isAgg150 rfl (hS.cell (by repeat first | exact .here _ _ | assumption | apply Pick.there) rfl)) ?_
      refine t_call Try.call132 (rFail (hS.unrdr rfl rfl hR hc) (.here _ _)) rfl ?_
      rintro e w ⟨rfl, hS⟩
      refine ⟨_, rfl, ?_⟩
      refine t_nil ?_
      refine c_seq ?_
      refine c_region ?_
      refine t_q (q_assign) ?_
      refine t_nil ?_
      refine c_ret ?_
      refine r_one rfl rfl ?_
      rw [ht]
      first | exact ⟨rfl, hS⟩ | exact ⟨rfl, hS.swap⟩ | exact ⟨rfl, hS.swap.swap⟩
    · intro hc6
      have hc6d := of_decide_eq_false hc6
      have ht := Rs.text_ok (s := s) h0 (by omega)
      refine c_skip ?_
      refine c_seq ?_
      refine c_region ?_
      refine t_q (q_mv (.func _ _ _) rfl) ?_
      refine t_callv Try.call146 rfl (rTake (((hS.unrdr rfl rfl hR hc).pick (.there (.there (.here _ _)))).pick (.there (.here _ _))) (by omega)) rfl ?_
      rintro e w ⟨rfl, L', hS, rfl⟩
      refine ⟨_, rfl, ?_⟩
      refine t_q (q_as (.string _) rfl) ?_
      refine t_nil ?_
      refine c_ret ?_
      refine r_one rfl rfl ?_
      rw [ht]
      first | exact ⟨rfl, hS⟩ | exact ⟨rfl, hS.swap⟩ | exact ⟨rfl, hS.swap.swap⟩
end Go.Proofs.Ytlppgpidakfnlaa
