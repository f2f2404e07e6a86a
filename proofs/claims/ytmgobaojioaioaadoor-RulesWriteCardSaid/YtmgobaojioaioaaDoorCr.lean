/- The codec's reader, and the reference's: reading numbers and texts. -/
import Derived.Test.YtmgobaojioaioaaDoorCw
namespace Go.Proofs.YtmgobaojioaioaaDoor
open Go Go.RowKit Go.Lib
variable {W : World}
def len8 : List UInt8 := [0, 1, 2, 2, 3, 3, 3, 3, 4, 4, 4, 4, 4, 4, 4, 4, 5, 5, 5, 5, 5, 5, 5, 5, 5, 5, 5, 5, 5, 5, 5, 5, 6, 6, 6, 6, 6, 6, 6, 6, 6, 6, 6, 6, 6, 6, 6, 6, 6, 6, 6, 6, 6, 6, 6, 6, 6, 6, 6, 6, 6, 6, 6, 6, 7, 7, 7, 7, 7, 7, 7, 7, 7, 7, 7, 7, 7, 7, 7, 7, 7, 7, 7, 7, 7, 7, 7, 7, 7, 7, 7, 7, 7, 7, 7, 7, 7, 7, 7, 7, 7, 7, 7, 7, 7, 7, 7, 7, 7, 7, 7, 7, 7, 7, 7, 7, 7, 7, 7, 7, 7, 7, 7, 7, 7, 7, 7, 7, 8, 8, 8, 8, 8, 8, 8, 8, 8, 8, 8, 8, 8, 8, 8, 8, 8, 8, 8, 8, 8, 8, 8, 8, 8, 8, 8, 8, 8, 8, 8, 8, 8, 8, 8, 8, 8, 8, 8, 8, 8, 8, 8, 8, 8, 8, 8, 8, 8, 8, 8, 8, 8, 8, 8, 8, 8, 8, 8, 8, 8, 8, 8, 8, 8, 8, 8, 8, 8, 8, 8, 8, 8, 8, 8, 8, 8, 8, 8, 8, 8, 8, 8, 8, 8, 8, 8, 8, 8, 8, 8, 8, 8, 8, 8, 8, 8, 8, 8, 8, 8, 8, 8, 8, 8, 8, 8, 8, 8, 8, 8, 8, 8, 8, 8, 8, 8, 8, 8, 8, 8, 8, 8, 8, 8, 8, 8, 8]
set_option maxRecDepth 100000 in
theorem len8_small : ∀ m, m < 128 → ∃ b, len8[m]? = some b ∧ b.toNat ≤ 7 ∧ (2 ≤ b.toNat ↔ 2 ≤ m) := by
  intro m hm
  have h : ∀ m : Fin 128, (match len8[m.val]? with | some b => decide (b.toNat ≤ 7) && (decide (2 ≤ b.toNat) == decide (2 ≤ m.val)) | none => false) = true := by decide +kernel
  have := h ⟨m, hm⟩
  revert this
  cases len8[m]? with
  | none => intro h; cases h
  | some b =>
    intro h
    simp only [Bool.and_eq_true, decide_eq_true_eq, beq_iff_eq] at h
    refine ⟨b, rfl, h.1, ?_⟩
    rw [← decide_eq_decide]
    exact h.2
set_option maxRecDepth 100000 in
theorem Len64_calls {w : World} {m : Int} (h0 : 0 ≤ m) (h1 : m < 128) : Calls Tryd.prog 77 #[.int .u64 m] w fun e w' => ∃ l : Int, e = .returned (.int .i64 l) ∧ 0 ≤ l ∧ l ≤ 7 ∧ (2 ≤ l ↔ 2 ≤ m) ∧ w' = w := by
  obtain ⟨b, hb, hb7, hb2⟩ := len8_small m.toNat (by omega)
  refine calls_of_wpE (args := [_]) Tryd.func77 rfl rfl rfl ?_
  refine c_seq ?_
  refine c_region ?_
  refine t_q (q_assign) ?_
  refine t_nil ?_
  refine c_seq ?_
  refine c_seq ?_
  refine c_region ?_
  refine t_q (q_mv (.int _ _) rfl) ?_
  refine t_q (q_geq rfl rfl) ?_
  refine t_nil ?_
  refine c_cond_f rfl (decide_eq_false (by omega)) ?_
  refine c_skip ?_
  refine c_seq ?_
  refine c_seq ?_
  refine c_region ?_
  refine t_q (q_mv (.int _ _) rfl) ?_
  refine t_q (q_geq rfl rfl) ?_
  refine t_nil ?_
  refine c_cond_f rfl (decide_eq_false (by omega)) ?_
  refine c_skip ?_
  refine c_seq ?_
  refine c_seq ?_
  refine c_region ?_
  refine t_q (q_mv (.int _ _) rfl) ?_
  refine t_q (q_geq rfl rfl) ?_
  refine t_nil ?_
  refine c_cond_f rfl (decide_eq_false (by omega)) ?_
  refine c_skip ?_
  refine c_seq ?_
  refine c_region ?_
  refine t_q (q_mv (.int _ _) rfl) ?_
  refine t_q (q_mv (.int _ _) rfl) ?_
  first | refine t_q (q_conv_u8 Tryd.runUnderlying89 Tryd.runUnderlying5 rfl (by omega)) ?_ | refine t_q (q_convm_u8 Tryd.runUnderlying89 Tryd.runUnderlying5 rfl) ?_
  refine t_q (q_index_str Tryd.runUnderlying9 rfl rfl (by omega) hb) ?_
  refine t_q (q_conv_i64 Tryd.runUnderlying5 Tryd.runUnderlying3 rfl (by omega)) ?_
  refine t_q (q_add_i64 rfl rfl (by omega)) ?_
  refine t_q (q_as (.int _ _) rfl) ?_
  refine t_nil ?_
  refine c_ret ?_
  refine r_one rfl rfl ?_
  exact ⟨_, rfl, by omega, by omega, by omega, rfl⟩
theorem fin_none {t g : Nat} {w : World} {R : List Asn} {s : Rs} {most : Nat} (h : decFrom most 0 0 s.left = none) (hS : St W w (rdrA W t g s.fail :: R)) : (0 : Int) = (((s.nat most).1 : Nat) : Int) ∧ St W w (rdrA W t g (s.nat most).2 :: R) := by
  rw [Rs.nat_none h]; exact ⟨rfl, hS⟩
theorem fin_some {t g n k c' : Nat} {A A' : Option Addr} {w : World} {R : List Asn} {s : Rs} {most j : Nat} {b : Bool} (h : decFrom most 0 0 s.left = some (n, s.left.drop j)) (hR : RdB W A s.left) (hc : s.left.length ≤ k ∧ s.left.length ≤ 9223372036854775807) (hj : j ≤ s.left.length)
    (hA : A' = if k = j then A else A.map (·.add (j * 1))) (hc' : c' = k - j) (hb : b = s.bad) {l : Nat} (hl : l = s.left.length - j) (hS : St W w (blkA g t [.slice A' l c', .bool b] :: R)) :
    (n : Int) = (((s.nat most).1 : Nat) : Int) ∧ St W w (rdrA W t g (s.nat most).2 :: R) := by
  rw [Rs.nat_some h]
  subst hA hc' hb hl
  refine ⟨rfl, hS.unrdr (by simp) rfl ?_ (by simp; omega)⟩
  have hcut := Rd.cut hR (l := j) (m := s.left.length) (cap := k) (Nat.le_refl _) hj hc.1
  unfold RdB
  rw [List.length_drop]
  refine hcut.congr fun i hi => ?_
  simp only [bsf, List.getD_eq_getElem?_getD, List.getElem?_drop]
theorem shl_val {j g : Nat} (hj : j ≤ 9) (hg : g < 128) (h9 : j = 9 → g ≤ 1) : IntKind.u64.wrap ((g : Int) * 2 ^ min ((7 : Int) * (j : Int)).toNat IntKind.u64.bits) = ((g * 128 ^ j : Nat) : Int) := by
  have hb := grp_bound hj hg h9
  have hp : 0 < 128 ^ j := Nat.pow_pos (by decide)
  have e : min ((7 : Int) * (j : Int)).toNat IntKind.u64.bits = 7 * j := by
    show min _ 64 = _
    omega
  have e2 : (g : Int) * 2 ^ (7 * j) = ((g * 128 ^ j : Nat) : Int) := by
    rw [Int.natCast_mul, Int.natCast_pow, show ((128 : Nat) : Int) = 2 ^ 7 from rfl, ← Int.pow_mul]
  rw [e, e2]
  generalize g * 128 ^ j = x at *
  generalize 128 ^ j = y at *
  rw [wrap_u64 (by omega)]
theorem andNot_val {b : UInt8} : IntKind.u8.wrap (BitVec.ofInt IntKind.u8.bits (b.toNat : Int) &&& ~~~BitVec.ofInt IntKind.u8.bits 128).toNat = ((b.toNat % 128 : Nat) : Int) := by
  have h : ∀ n : Fin 256, IntKind.u8.wrap (BitVec.ofInt 8 ((n.val : Nat) : Int) &&& ~~~BitVec.ofInt 8 128).toNat = ((n.val % 128 : Nat) : Int) := by decide +kernel
  exact h ⟨b.toNat, b.toNat_lt⟩
set_option maxRecDepth 100000 in
theorem rNat {w : World} {L R : List Asn} {g : Nat} {s : Rs} {most : Int} (hS : St W w L) (pk : Pick L (rdrA W 93 g s) R) (h0 : 0 ≤ most) (h1 : most < 18446744073709551616) :
  Calls Tryd.prog 57 #[.pointer (some ⟨g, 0, none⟩), .int .u64 most] w fun e w' => e = .returned (.int .u64 (((s.nat most.toNat).1 : Nat) : Int)) ∧ St W w' (rdrA W 93 g (s.nat most.toNat).2 :: R) := by
  replace hS := hS.pick pk
  clear pk
  obtain ⟨A, c, hR, hc, hS⟩ := hS.rdr
  refine calls_of_wpE (args := [_, _]) Tryd.func57 rfl rfl rfl ?_
  refine c_seq ?_
  refine c_region ?_
  refine t_q (q_assign) ?_
  refine t_nil ?_
  refine c_seq ?_
  refine c_seq ?_
  refine c_region ?_
  refine t_q (q_mv (.pointer _) rfl) ?_
  refine t_q (q_eql_ptr_nil Tryd.runUnderlying50 rfl rfl) ?_
  refine t_nil ?_
  refine c_cond_f rfl rfl ?_
  refine c_skip ?_
  refine c_seq ?_
  refine c_seq ?_
  refine c_region ?_
  refine t_q (q_mv (.pointer _) rfl) ?_
  refine t_q (q_nilCheck rfl) ?_
  refine t_q (q_fieldAddr 0 Tryd.runUnderlying93 rfl Tryd.sizeOf43 (by decide) rfl rfl) ?_
  refine t_q (q_load1 Tryd.isAgg43 rfl (hS.cell (by repeat first | exact .here _ _ | assumption | apply Pick.there) rfl)) ?_
  refine t_q (q_len_slice Tryd.runUnderlying43 rfl) ?_
  refine t_q (q_move) ?_
  refine t_nil ?_
  refine c_block ?_
  refine c_loop [4, 5, 6, 7, 15, 16, 17, 18, 19, 20, 21, 22, 23, 24, 25, 26, 27, 28, 29, 30, 31, 32, 33, 34, 35, 36, 37, 38, 39, 40, 41, 42, 43, 44, 45, 46, 47, 48, 49, 50, 51, 52, 53, 54, 55, 56, 57, 58, 59, 60] (fun k σ w => ∃ (j : Nat) (acc : Nat), σ 15 = .int .i64 (j : Int) ∧ σ 4 = .int .u64 (acc : Int) ∧ j ≤ s.left.length ∧ s.left.length - j ≤ k ∧ j ≤ 10 ∧ (j ≤ 9 → acc < 128 ^ j) ∧ acc < 18446744073709551616 ∧ decFrom most.toNat j acc (s.left.drop j) = decFrom most.toNat 0 0 s.left ∧ St W w (blkA g 93 [.slice A s.left.length c, .bool s.bad] :: R)) (s.left.length) rfl (⟨0, 0, rfl, rfl, by omega, by omega, by omega, fun _ => by decide, by decide, rfl, hS⟩) ?_
  skip
  rintro k σ w ⟨j, acc, h15, h4, hj, hk, hj10, hacc, hacc2, hdec, hS⟩
  refine c_know 15 h15 ?_
  refine c_know 4 h4 ?_
  clear h15 h4
  refine c_seq ?_
  refine c_region ?_
  refine t_q (q_lss rfl rfl) ?_
  refine t_nil ?_
  refine c_seq ?_
  refine c_cond rfl ?_ ?_
  · intro hc2
    have hc2d := of_decide_eq_true hc2
    have hb256 : (s.left.getD j 0).toNat < 256 := (s.left.getD j 0).toNat_lt
    have hG : (s.left.getD j 0).toNat % 128 < 128 := Nat.mod_lt _ (by decide)
    refine c_skip ?_
    refine c_seq ?_
    refine c_block ?_
    refine c_seq ?_
    refine c_region ?_
    refine t_q (q_mv (.int _ _) rfl) ?_
    first | refine t_index_nat Tryd.runUnderlying43 Tryd.sizeOf5 (hR.st hS) rfl rfl (by omega) (fun ad3 hl3 hx3 => ?_) | refine t_index Tryd.runUnderlying43 Tryd.sizeOf5 (hR.st hS) rfl rfl (by omega) (fun ad3 hl3 hx3 => ?_)
    refine t_q (q_cast (v' := .int .u8 ((s.left.getD j 0).toNat : Int)) (q_load1 Tryd.isAgg5 rfl (hx3 0 _ rfl)) (rfl)) ?_
    refine t_q (q_as (.int _ _) rfl) ?_
    refine t_q (q_as (.int _ _) rfl) ?_
    refine t_nil ?_
    refine c_seq ?_
    refine c_region ?_
    refine t_q (q_mv (.int _ _) rfl) ?_
    refine t_q (q_cast (v' := .int .u8 (((s.left.getD j 0).toNat % 128 : Nat) : Int)) (q_andNot rfl rfl) (by rw [andNot_val])) ?_
    first | refine t_q (q_conv_u64 Tryd.runUnderlying5 Tryd.runUnderlying89 rfl (by omega)) ?_ | refine t_q (q_convm_u64 Tryd.runUnderlying5 Tryd.runUnderlying89 rfl) ?_
    refine t_q (q_as (.int _ _) rfl) ?_
    refine t_nil ?_
    refine c_seq ?_
    refine c_seq ?_
    refine c_region ?_
    refine t_q (q_mv (.int _ _) rfl) ?_
    refine t_q (q_mul_i64 rfl rfl (by omega)) ?_
    refine t_q (q_mv (.int _ _) rfl) ?_
    refine t_call Tryd.call77 (Len64_calls (by omega) (by omega)) rfl ?_
    rintro e w ⟨l, rfl, hl0, hl7, hl2, rfl⟩
    refine ⟨_, rfl, ?_⟩
    refine t_q (q_add_i64 rfl rfl (by omega)) ?_
    refine t_q (q_gtr rfl rfl) ?_
    refine t_nil ?_
    refine c_cond rfl ?_ ?_
    · intro hc6
      have hc6d := of_decide_eq_true hc6
      have hnone : decFrom most.toNat 0 0 s.left = none := by rw [← hdec]; exact dec_far (by omega) (by omega)
      refine c_exit ?_
      refine ite_f (by decide) ?_
      refine ite_t rfl ?_
      refine c_seq ?_
      refine c_region ?_
      refine t_q (q_mv (.pointer _) rfl) ?_
      refine t_call Tryd.call58 (rFail (hS.unrdr rfl rfl hR hc) (.here _ _)) rfl ?_
      rintro e w ⟨rfl, hS⟩
      refine ⟨_, rfl, ?_⟩
      refine t_nil ?_
      refine c_seq ?_
      refine c_region ?_
      refine t_q (q_assign) ?_
      refine t_nil ?_
      refine c_ret ?_
      refine r_one rfl rfl ?_
      first
        | (obtain ⟨e1, e2⟩ := fin_none hnone hS; exact ⟨congrArg (fun n => Ending.returned (.int .u64 n)) e1, e2⟩)
        | (obtain ⟨e1, e2⟩ := fin_some (k := c) hsome hR hc (by omega) rfl rfl rfl rfl hS; exact ⟨congrArg (fun n => Ending.returned (.int .u64 n)) e1, e2⟩)
    · intro hc6
      have hc6d := of_decide_eq_false hc6
      have hj9 : j ≤ 9 := by omega
      have hG9 : j = 9 → (s.left.getD j 0).toNat % 128 ≤ 1 := by omega
      refine c_skip ?_
      refine c_seq ?_
      refine c_region ?_
      refine t_q (q_mv (.int _ _) rfl) ?_
      refine t_q (q_mv (.int _ _) rfl) ?_
      refine t_q (q_mv (.int _ _) rfl) ?_
      refine t_q (q_mul_i64 rfl rfl (by omega)) ?_
      refine t_q (q_cast (v' := .int .u64 (((s.left.getD j 0).toNat % 128 * 128 ^ j : Nat) : Int)) (q_shl rfl rfl (by omega)) (by rw [shl_val hj9 hG hG9])) ?_
      have hgb := grp_bound hj9 hG hG9
      have haj := hacc hj9
      refine t_q (q_cast (v' := .int .u64 ((acc + (s.left.getD j 0).toNat % 128 * 128 ^ j : Nat) : Int)) (q_or_u64 rfl rfl (by omega) (by omega)) (by rw [Int.toNat_natCast, Int.toNat_natCast, or_acc haj])) ?_
      refine t_q (q_as (.int _ _) rfl) ?_
      refine t_nil ?_
      refine c_seq ?_
      refine c_seq ?_
      refine c_region ?_
      refine t_q (q_mv (.int _ _) rfl) ?_
      refine t_q (q_cast (v' := .int .u8 (((s.left.getD j 0).toNat &&& 128 : Nat) : Int)) (q_and_u8 rfl rfl (by omega) (by omega)) (rfl)) ?_
      refine t_q (q_neq rfl rfl) ?_
      refine t_nil ?_
      refine c_cond rfl ?_ ?_
      · intro hc9
        have hc9d := of_decide_eq_true hc9
        refine c_exit ?_
        refine ite_t rfl ?_
        refine c_region ?_
        refine t_q (q_add_i64 rfl rfl (by omega)) ?_
        refine t_q (q_mv (.int _ _) rfl) ?_
        refine t_nil ?_
        have hdm := dec_more (most := most.toNat) (acc := acc) (show j < s.left.length by omega) hj9 hG9 (by have := and128 _ hb256; omega)
        have hn := acc_next (j := j) hG (hacc hj9)
        exact ⟨k - 1, by omega, j + 1, _, rfl, rfl, by omega, by omega, by omega, fun _ => hn, by have := grp_bound hj9 hG hG9; have := hacc hj9; omega, by rw [← hdm]; exact hdec, hS⟩
      · intro hc9
        have hc9d := of_decide_eq_false hc9
        have hsm : (s.left.getD j 0).toNat < 128 := (and128 _ hb256).1 (by omega)
        refine c_skip ?_
        refine c_seq ?_
        refine c_seq ?_
        refine c_region ?_
        refine t_q (q_mv (.int _ _) rfl) ?_
        refine t_q (q_eql rfl rfl) ?_
        refine t_q (q_mv (.bool _) rfl) ?_
        refine t_case 40 rfl ?_ ?_
        · intro hg11
          have hg11d := of_decide_eq_true hg11
          refine t_yes rfl rfl hg11 ?_
          refine t_q (q_mv (.int _ _) rfl) ?_
          refine t_yes rfl rfl hg11 ?_
          refine t_q (q_gtr rfl rfl) ?_
          refine t_q (q_pick_t rfl hg11) ?_
          refine t_q (q_mv (.bool _) rfl) ?_
          refine t_case 44 rfl ?_ ?_
          · intro hg13
            have hg13d := of_decide_eq_true hg13
            refine t_no rfl rfl (by rw [hg13]; decide) ?_
            refine t_no rfl rfl (by rw [hg13]; decide) ?_
            refine t_no rfl rfl (by rw [hg13]; decide) ?_
            refine t_q (q_pick_t rfl hg13) ?_
            refine t_nil ?_
            refine c_cond_t rfl rfl ?_
            have hnone : decFrom most.toNat 0 0 s.left = none := by rw [← hdec]; exact dec_bad (by omega) hj9 hG9 hsm (by omega)
            refine c_exit ?_
            refine ite_f (by decide) ?_
            refine ite_t rfl ?_
            refine c_seq ?_
            refine c_region ?_
            refine t_q (q_mv (.pointer _) rfl) ?_
            refine t_call Tryd.call58 (rFail (hS.unrdr rfl rfl hR hc) (.here _ _)) rfl ?_
            rintro e w ⟨rfl, hS⟩
            refine ⟨_, rfl, ?_⟩
            refine t_nil ?_
            refine c_seq ?_
            refine c_region ?_
            refine t_q (q_assign) ?_
            refine t_nil ?_
            refine c_ret ?_
            refine r_one rfl rfl ?_
            first
              | (obtain ⟨e1, e2⟩ := fin_none hnone hS; exact ⟨congrArg (fun n => Ending.returned (.int .u64 n)) e1, e2⟩)
              | (obtain ⟨e1, e2⟩ := fin_some (k := c) hsome hR hc (by omega) rfl rfl rfl rfl hS; exact ⟨congrArg (fun n => Ending.returned (.int .u64 n)) e1, e2⟩)
          · intro hg13
            have hg13d := of_decide_eq_false hg13
            refine t_yes rfl rfl hg13 ?_
            refine t_q (q_mv (.int _ _) rfl) ?_
            refine t_yes rfl rfl hg13 ?_
            refine t_q (q_mv (.int _ _) rfl) ?_
            refine t_yes rfl rfl hg13 ?_
            refine t_q (q_gtr rfl rfl) ?_
            refine t_q (q_pick_f rfl hg13) ?_
            refine t_nil ?_
            refine c_cond rfl ?_ ?_
            · intro hc16
              have hc16d := of_decide_eq_true hc16
              have hnone : decFrom most.toNat 0 0 s.left = none := by rw [← hdec]; exact dec_bad (by omega) hj9 hG9 hsm (by omega)
              refine c_exit ?_
              refine ite_f (by decide) ?_
              refine ite_t rfl ?_
              refine c_seq ?_
              refine c_region ?_
              refine t_q (q_mv (.pointer _) rfl) ?_
              refine t_call Tryd.call58 (rFail (hS.unrdr rfl rfl hR hc) (.here _ _)) rfl ?_
              rintro e w ⟨rfl, hS⟩
              refine ⟨_, rfl, ?_⟩
              refine t_nil ?_
              refine c_seq ?_
              refine c_region ?_
              refine t_q (q_assign) ?_
              refine t_nil ?_
              refine c_ret ?_
              refine r_one rfl rfl ?_
              first
                | (obtain ⟨e1, e2⟩ := fin_none hnone hS; exact ⟨congrArg (fun n => Ending.returned (.int .u64 n)) e1, e2⟩)
                | (obtain ⟨e1, e2⟩ := fin_some (k := c) hsome hR hc (by omega) rfl rfl rfl rfl hS; exact ⟨congrArg (fun n => Ending.returned (.int .u64 n)) e1, e2⟩)
            · intro hc16
              have hc16d := of_decide_eq_false hc16
              have hsome : decFrom most.toNat 0 0 s.left = some (acc + (s.left.getD j 0).toNat % 128 * 128 ^ j, s.left.drop (j + 1)) := by rw [← hdec]; exact dec_done (by omega) hj9 hG9 hsm (by omega)
              refine c_skip ?_
              refine c_seq ?_
              refine c_region ?_
              refine t_q (q_mv (.pointer _) rfl) ?_
              refine t_q (q_mv (.pointer _) rfl) ?_
              refine t_q (q_nilCheck rfl) ?_
              refine t_q (q_fieldAddr 0 Tryd.runUnderlying93 rfl Tryd.sizeOf43 (by decide) rfl rfl) ?_
              refine t_q (q_load1 Tryd.isAgg43 rfl (hS.cell (by repeat first | exact .here _ _ | assumption | apply Pick.there) rfl)) ?_
              refine t_q (q_mv (.int _ _) rfl) ?_
              refine t_q (q_add_i64 rfl rfl (by omega)) ?_
              refine t_q (q_slice Tryd.runUnderlying43 Tryd.sizeOf5 rfl rfl ⟨_, _, rfl, by omega, by omega, rfl⟩) ?_
              refine t_q (q_nilCheck rfl) ?_
              refine t_q (q_fieldAddr 0 Tryd.runUnderlying93 rfl Tryd.sizeOf43 (by decide) rfl rfl) ?_
              refine t_store (v := (.slice _ _ _)) Tryd.sizeOf43 hS (by repeat first | exact .here _ _ | assumption | apply Pick.there) rfl rfl rfl rfl rfl rfl (fun w hS => ?_)
              refine t_nil ?_
              refine c_seq ?_
              refine c_region ?_
              refine t_q (q_mv (.int _ _) rfl) ?_
              refine t_q (q_as (.int _ _) rfl) ?_
              refine t_nil ?_
              refine c_ret ?_
              refine r_one rfl rfl ?_
              first
                | (obtain ⟨e1, e2⟩ := fin_none hnone hS; exact ⟨congrArg (fun n => Ending.returned (.int .u64 n)) e1, e2⟩)
                | (obtain ⟨e1, e2⟩ := fin_some (k := c) hsome hR hc (by omega) rfl rfl rfl rfl hS; exact ⟨congrArg (fun n => Ending.returned (.int .u64 n)) e1, e2⟩)
        · intro hg11
          have hg11d := of_decide_eq_false hg11
          refine t_no rfl rfl (by rw [hg11]; decide) ?_
          refine t_no rfl rfl (by rw [hg11]; decide) ?_
          refine t_q (q_pick_f rfl hg11) ?_
          refine t_q (q_mv (.bool _) rfl) ?_
          refine t_yes rfl rfl rfl ?_
          refine t_q (q_mv (.int _ _) rfl) ?_
          refine t_yes rfl rfl rfl ?_
          refine t_q (q_mv (.int _ _) rfl) ?_
          refine t_yes rfl rfl rfl ?_
          refine t_q (q_gtr rfl rfl) ?_
          refine t_q (q_pick_f rfl rfl) ?_
          refine t_nil ?_
          refine c_cond rfl ?_ ?_
          · intro hc19
            have hc19d := of_decide_eq_true hc19
            have hnone : decFrom most.toNat 0 0 s.left = none := by rw [← hdec]; exact dec_bad (by omega) hj9 hG9 hsm (by omega)
            refine c_exit ?_
            refine ite_f (by decide) ?_
            refine ite_t rfl ?_
            refine c_seq ?_
            refine c_region ?_
            refine t_q (q_mv (.pointer _) rfl) ?_
            refine t_call Tryd.call58 (rFail (hS.unrdr rfl rfl hR hc) (.here _ _)) rfl ?_
            rintro e w ⟨rfl, hS⟩
            refine ⟨_, rfl, ?_⟩
            refine t_nil ?_
            refine c_seq ?_
            refine c_region ?_
            refine t_q (q_assign) ?_
            refine t_nil ?_
            refine c_ret ?_
            refine r_one rfl rfl ?_
            first
              | (obtain ⟨e1, e2⟩ := fin_none hnone hS; exact ⟨congrArg (fun n => Ending.returned (.int .u64 n)) e1, e2⟩)
              | (obtain ⟨e1, e2⟩ := fin_some (k := c) hsome hR hc (by omega) rfl rfl rfl rfl hS; exact ⟨congrArg (fun n => Ending.returned (.int .u64 n)) e1, e2⟩)
          · intro hc19
            have hc19d := of_decide_eq_false hc19
            have hsome : decFrom most.toNat 0 0 s.left = some (acc + (s.left.getD j 0).toNat % 128 * 128 ^ j, s.left.drop (j + 1)) := by rw [← hdec]; exact dec_done (by omega) hj9 hG9 hsm (by omega)
            refine c_skip ?_
            refine c_seq ?_
            refine c_region ?_
            refine t_q (q_mv (.pointer _) rfl) ?_
            refine t_q (q_mv (.pointer _) rfl) ?_
            refine t_q (q_nilCheck rfl) ?_
            refine t_q (q_fieldAddr 0 Tryd.runUnderlying93 rfl Tryd.sizeOf43 (by decide) rfl rfl) ?_
            refine t_q (q_load1 Tryd.isAgg43 rfl (hS.cell (by repeat first | exact .here _ _ | assumption | apply Pick.there) rfl)) ?_
            refine t_q (q_mv (.int _ _) rfl) ?_
            refine t_q (q_add_i64 rfl rfl (by omega)) ?_
            refine t_q (q_slice Tryd.runUnderlying43 Tryd.sizeOf5 rfl rfl ⟨_, _, rfl, by omega, by omega, rfl⟩) ?_
            refine t_q (q_nilCheck rfl) ?_
            refine t_q (q_fieldAddr 0 Tryd.runUnderlying93 rfl Tryd.sizeOf43 (by decide) rfl rfl) ?_
            refine t_store (v := (.slice _ _ _)) Tryd.sizeOf43 hS (by repeat first | exact .here _ _ | assumption | apply Pick.there) rfl rfl rfl rfl rfl rfl (fun w hS => ?_)
            refine t_nil ?_
            refine c_seq ?_
            refine c_region ?_
            refine t_q (q_mv (.int _ _) rfl) ?_
            refine t_q (q_as (.int _ _) rfl) ?_
            refine t_nil ?_
            refine c_ret ?_
            refine r_one rfl rfl ?_
            first
              | (obtain ⟨e1, e2⟩ := fin_none hnone hS; exact ⟨congrArg (fun n => Ending.returned (.int .u64 n)) e1, e2⟩)
              | (obtain ⟨e1, e2⟩ := fin_some (k := c) hsome hR hc (by omega) rfl rfl rfl rfl hS; exact ⟨congrArg (fun n => Ending.returned (.int .u64 n)) e1, e2⟩)
  · intro hc2
    have hc2d := of_decide_eq_false hc2
    have hnone : decFrom most.toNat 0 0 s.left = none := by rw [← hdec]; exact dec_end (by omega)
    refine c_exit ?_
    refine ite_t rfl ?_
    refine c_seq ?_
    refine c_region ?_
    refine t_q (q_mv (.pointer _) rfl) ?_
    refine t_call Tryd.call58 (rFail (hS.unrdr rfl rfl hR hc) (.here _ _)) rfl ?_
    rintro e w ⟨rfl, hS⟩
    refine ⟨_, rfl, ?_⟩
    refine t_nil ?_
    refine c_seq ?_
    refine c_region ?_
    refine t_q (q_assign) ?_
    refine t_nil ?_
    refine c_ret ?_
    refine r_one rfl rfl ?_
    first
      | (obtain ⟨e1, e2⟩ := fin_none hnone hS; exact ⟨congrArg (fun n => Ending.returned (.int .u64 n)) e1, e2⟩)
      | (obtain ⟨e1, e2⟩ := fin_some (k := c) hsome hR hc (by omega) rfl rfl rfl rfl hS; exact ⟨congrArg (fun n => Ending.returned (.int .u64 n)) e1, e2⟩)
end Go.Proofs.YtmgobaojioaioaaDoor
