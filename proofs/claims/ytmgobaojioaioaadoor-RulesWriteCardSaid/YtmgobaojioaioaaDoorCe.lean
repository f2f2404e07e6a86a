/- The reference's writers. -/
import Derived.Test.YtmgobaojioaioaaDoorCt
namespace Go.Proofs.YtmgobaojioaioaaDoor
open Go Go.RowKit Go.Lib
variable {W : World}
set_option maxRecDepth 100000 in
theorem qwNat {w : World} {L : List Asn} {n : Int} (hS : St W w L) (h0 : 0 ≤ n) (h1 : n < 18446744073709551616) :
  Calls Tryd.prog 54 #[.int .u64 n] w fun e w' => ∃ A m c, e = .returned (.slice A m c) ∧ m = (enc n.toNat).length ∧ St W w' (rowA 5 1 A m c ((enc n.toNat).map bv) :: L) := by
  refine calls_of_wpE (args := [_]) Tryd.func54 rfl rfl rfl ?_
  refine c_seq ?_
  refine c_region ?_
  refine t_q (q_assign) ?_
  refine t_nil ?_
  refine c_seq ?_
  refine c_seq ?_
  refine c_region ?_
  refine t_q (q_mv (.int _ _) rfl) ?_
  refine t_q (q_lss rfl rfl) ?_
  refine t_nil ?_
  refine c_cond rfl ?_ ?_
  · intro hc2
    have hc2d := of_decide_eq_true hc2
    refine c_seq ?_
    refine c_region ?_
    refine t_q (q_mv (.int _ _) rfl) ?_
    first | refine t_q (q_conv_u8 Tryd.runUnderlying89 Tryd.runUnderlying5 rfl (by omega)) ?_ | refine t_q (q_convm_u8 Tryd.runUnderlying89 Tryd.runUnderlying5 rfl) ?_
    refine t_build_bytes [_] Tryd.runUnderlying43 Tryd.sizeOf5 Tryd.zeroValue5 rfl rfl (by simp; try omega) (by decide) hS (fun g7 w hS => ?_)
    refine t_q (q_as (.slice _ _ _) rfl) ?_
    refine t_nil ?_
    refine c_ret ?_
    refine r_one rfl rfl ?_
    first
      | (refine ⟨_, _, _, rfl, ?_, hS.recast (congrArg (rowA 5 1 _ _ _) ?_)⟩
         · rw [enc_small (n := n.toNat) (by omega)]; rfl
         · rw [enc_small (n := n.toNat) (by omega)]; rfl)
      | (refine ⟨_, _, _, rfl, ?_, hS.recast (congrArg (rowA 5 1 _ _ _) ?_)⟩
         · rw [enc_big (n := n.toNat) (by omega), List.length_cons, hn15, show (n / 128).toNat = n.toNat / 128 from by omega]; omega
         · rw [enc_big (n := n.toNat) (by omega), show (n / 128).toNat = n.toNat / 128 from by omega]
           show bv (bvi (n % 128 + 128)) :: _ = _
           rw [show bvi (n % 128 + 128) = UInt8.ofNat (n.toNat % 128 + 128) from congrArg UInt8.ofNat (by omega)]
           rfl)
  · intro hc2
    have hc2d := of_decide_eq_false hc2
    refine c_skip ?_
    refine c_seq ?_
    refine c_region ?_
    refine t_q (q_mv (.int _ _) rfl) ?_
    refine t_q (q_rem_n rfl rfl (by omega) (by omega)) ?_
    refine t_q (q_add_u64 rfl rfl (by omega)) ?_
    first | refine t_q (q_conv_u8 Tryd.runUnderlying89 Tryd.runUnderlying5 rfl (by omega)) ?_ | refine t_q (q_convm_u8 Tryd.runUnderlying89 Tryd.runUnderlying5 rfl) ?_
    refine t_build_bytes [_] Tryd.runUnderlying43 Tryd.sizeOf5 Tryd.zeroValue5 rfl rfl (by simp; try omega) (by decide) hS (fun g12 w hS => ?_)
    refine t_q (q_mv (.int _ _) rfl) ?_
    refine t_q (q_quo_n rfl rfl (by omega) (by omega) (wrap_u64 (by omega))) ?_
    refine t_call Tryd.call54 (qwNat hS (by omega) (by omega)) rfl ?_
    rintro e w ⟨A15, n15, c15, rfl, hn15, hS⟩
    refine ⟨_, rfl, ?_⟩
    have hl15 := enc_ten (n := (n / 128).toNat) (by omega)
    refine t_append_own (size := 1) (bytes := 1) Tryd.underlying43 (info_of Tryd.type5) rfl rfl rfl rfl (by decide) hS (.here _ _) (by repeat first | exact .here _ _ | assumption | apply Pick.there) rfl rfl (by first | exact allOne_bv _ | exact allOne_ints _ _ | rfl) (by unfold maxLen; omega) (by omega) (fun A16 c16 w hS => ?_)
    refine t_q (q_as (.slice _ _ _) rfl) ?_
    refine t_nil ?_
    refine c_ret ?_
    refine r_one rfl rfl ?_
    first
      | (refine ⟨_, _, _, rfl, ?_, hS.recast (congrArg (rowA 5 1 _ _ _) ?_)⟩
         · rw [enc_small (n := n.toNat) (by omega)]; rfl
         · rw [enc_small (n := n.toNat) (by omega)]; rfl)
      | (refine ⟨_, _, _, rfl, ?_, hS.recast (congrArg (rowA 5 1 _ _ _) ?_)⟩
         · rw [enc_big (n := n.toNat) (by omega), List.length_cons, hn15, show (n / 128).toNat = n.toNat / 128 from by omega]; omega
         · rw [enc_big (n := n.toNat) (by omega), show (n / 128).toNat = n.toNat / 128 from by omega]
           show bv (bvi (n % 128 + 128)) :: _ = _
           rw [show bvi (n % 128 + 128) = UInt8.ofNat (n.toNat % 128 + 128) from congrArg UInt8.ofNat (by omega)]
           rfl)
termination_by n.toNat
decreasing_by omega
set_option maxRecDepth 100000 in
theorem qwInt {w : World} {L : List Asn} {n : Int} (hS : St W w L) (h0 : -9223372036854775808 ≤ n) (h1 : n ≤ 9223372036854775807) :
  Calls Tryd.prog 53 #[.int .i64 n] w fun e w' => ∃ A m c, e = .returned (.slice A m c) ∧ m = (enc (zig n)).length ∧ St W w' (rowA 5 1 A m c ((enc (zig n)).map bv) :: L) := by
  refine calls_of_wpE (args := [_]) Tryd.func53 rfl rfl rfl ?_
  refine c_seq ?_
  refine c_region ?_
  refine t_q (q_assign) ?_
  refine t_nil ?_
  refine c_seq ?_
  refine c_seq ?_
  refine c_region ?_
  refine t_q (q_mv (.int _ _) rfl) ?_
  refine t_q (q_geq rfl rfl) ?_
  refine t_nil ?_
  refine c_cond rfl ?_ ?_
  · intro hc2
    have hc2d := of_decide_eq_true hc2
    refine c_seq ?_
    refine c_region ?_
    refine t_q (q_mv (.int _ _) rfl) ?_
    first | refine t_q (q_conv_u64 Tryd.runUnderlying2 Tryd.runUnderlying89 rfl (by omega)) ?_ | refine t_q (q_convm_u64 Tryd.runUnderlying2 Tryd.runUnderlying89 rfl) ?_
    refine t_q (q_mul_u64 rfl rfl (by omega)) ?_
    refine t_call Tryd.call54 (qwNat hS (by omega) (by omega)) rfl ?_
    rintro e w ⟨A8, n8, c8, rfl, hn8, hS⟩
    refine ⟨_, rfl, ?_⟩
    refine t_q (q_as (.slice _ _ _) rfl) ?_
    refine t_nil ?_
    refine c_ret ?_
    refine r_one rfl rfl ?_
    first
      | (rw [show (n * 2).toNat = zig n by unfold zig; rw [if_pos (by omega)]; omega] at hn8 hS; exact ⟨_, _, _, rfl, hn8, hS⟩)
      | (rw [show (-(n + 1) * 2 + 1).toNat = zig n by unfold zig; rw [if_neg (by omega)]; omega] at hn15 hS; exact ⟨_, _, _, rfl, hn15, hS⟩)
  · intro hc2
    have hc2d := of_decide_eq_false hc2
    refine c_skip ?_
    refine c_seq ?_
    refine c_region ?_
    refine t_q (q_mv (.int _ _) rfl) ?_
    refine t_q (q_add_i64 rfl rfl (by omega)) ?_
    refine t_q (q_neg_i64 rfl (by omega)) ?_
    first | refine t_q (q_conv_u64 Tryd.runUnderlying2 Tryd.runUnderlying89 rfl (by omega)) ?_ | refine t_q (q_convm_u64 Tryd.runUnderlying2 Tryd.runUnderlying89 rfl) ?_
    refine t_q (q_mul_u64 rfl rfl (by omega)) ?_
    refine t_q (q_add_u64 rfl rfl (by omega)) ?_
    refine t_call Tryd.call54 (qwNat hS (by omega) (by omega)) rfl ?_
    rintro e w ⟨A15, n15, c15, rfl, hn15, hS⟩
    refine ⟨_, rfl, ?_⟩
    refine t_q (q_as (.slice _ _ _) rfl) ?_
    refine t_nil ?_
    refine c_ret ?_
    refine r_one rfl rfl ?_
    first
      | (rw [show (n * 2).toNat = zig n by unfold zig; rw [if_pos (by omega)]; omega] at hn8 hS; exact ⟨_, _, _, rfl, hn8, hS⟩)
      | (rw [show (-(n + 1) * 2 + 1).toNat = zig n by unfold zig; rw [if_neg (by omega)]; omega] at hn15 hS; exact ⟨_, _, _, rfl, hn15, hS⟩)
-- qwFlag: no such function here
-- qwText: no such function here
end Go.Proofs.YtmgobaojioaioaaDoor
