/- The codec's reader over a row of the call's own. -/
import Derived.Test.YtmgobaojioaioaaCq
import Derived.Test.YtmgobaojioaioaaQ
namespace Go.Proofs.Ytmgobaojioaioaa
open Go Go.RowKit Go.Lib
variable {W : World}
def rdO (W : World) (K : Asn) (t g : Nat) (s : Rs) : Asn := exA fun A => exA fun c => pureA ((∀ w', St W w' [K] → RdB w' A s.left) ∧ s.left.length ≤ c ∧ s.left.length ≤ 9223372036854775807) (blkA g t [.slice A s.left.length c, .bool s.bad])
theorem St.rdo {V W w : World} {R : List Asn} {K : Asn} {t g : Nat} {s : Rs} (h : St W w (rdO V K t g s :: R)) : ∃ A c, (∀ w', St V w' [K] → RdB w' A s.left) ∧ (s.left.length ≤ c ∧ s.left.length ≤ 9223372036854775807) ∧ St W w (blkA g t [.slice A s.left.length c, .bool s.bad] :: R) := by
  obtain ⟨A, h⟩ := h.ex
  obtain ⟨c, h⟩ := h.ex
  obtain ⟨⟨h1, h2⟩, h⟩ := h.pure
  exact ⟨A, c, h1, h2, h⟩
theorem St.unrdo {V W w : World} {R : List Asn} {K : Asn} {t g n : Nat} {A : Option Addr} {c : Nat} {s : Rs} {b : Bool} (h : St W w (blkA g t [.slice A n c, .bool b] :: R)) (hn : n = s.left.length) (hb : b = s.bad) (hR : ∀ w', St V w' [K] → RdB w' A s.left) (hc : s.left.length ≤ c ∧ s.left.length ≤ 9223372036854775807) : St W w (rdO V K t g s :: R) := by
  subst hn hb
  exact St.unex A (St.unex c (St.unpure ⟨hR, hc⟩ h))
theorem St.unrdo0 {V W w : World} {R : List Asn} {K : Asn} {t g : Nat} (s : Rs) (h : St W w (blkA g t [.slice none 0 0, .bool true] :: R)) : St W w (rdO V K t g s.fail :: R) := h.unrdo rfl rfl (fun _ _ => Rd.none_ _ _ _ _) ⟨Nat.le_refl _, Nat.zero_le _⟩
theorem ofin_none {t g : Nat} {w : World} {K : Asn} {R : List Asn} {s : Rs} {most : Nat} (h : decFrom most 0 0 s.left = none) (hS : St W w (rdO W K t g s.fail :: R)) : (0 : Int) = (((s.nat most).1 : Nat) : Int) ∧ St W w (rdO W K t g (s.nat most).2 :: R) := by
  rw [Rs.nat_none h]; exact ⟨rfl, hS⟩
theorem ofin_some {t g n k c' : Nat} {A A' : Option Addr} {w : World} {K : Asn} {R : List Asn} {s : Rs} {most j : Nat} {b : Bool} (h : decFrom most 0 0 s.left = some (n, s.left.drop j)) (hR : ∀ w', St W w' [K] → RdB w' A s.left) (hc : s.left.length ≤ k ∧ s.left.length ≤ 9223372036854775807) (hj : j ≤ s.left.length)
    (hA : A' = if k = j then A else A.map (·.add (j * 1))) (hc' : c' = k - j) (hb : b = s.bad) {l : Nat} (hl : l = s.left.length - j) (hS : St W w (blkA g t [.slice A' l c', .bool b] :: R)) :
    (n : Int) = (((s.nat most).1 : Nat) : Int) ∧ St W w (rdO W K t g (s.nat most).2 :: R) := by
  rw [Rs.nat_some h]
  subst hA hc' hb hl
  refine ⟨rfl, hS.unrdo (by simp) rfl (fun w' hw' => ?_) (by simp; omega)⟩
  have hcut := Rd.cut (hR w' hw') (l := j) (m := s.left.length) (cap := k) (Nat.le_refl _) hj hc.1
  unfold RdB
  rw [List.length_drop]
  refine hcut.congr fun i hi => ?_
  simp only [bsf, List.getD_eq_getElem?_getD, List.getElem?_drop]
set_option maxRecDepth 100000 in
theorem oOpen {w : World} {L : List Asn} {A : Option Addr} {n c : Nat} (hS : St W w L) :
  Calls Try.prog 33 #[.slice A n c] w fun e w' => ∃ g, e = .returned (.pointer (some ⟨g, 0, none⟩)) ∧ St W w' (blkA g 149 [.slice A n c, .bool false] :: L) := by
  refine calls_of_wpE (args := [_]) Try.func33 rfl rfl rfl ?_
  refine c_seq ?_
  refine c_region ?_
  refine t_q (q_assign) ?_
  refine t_nil ?_
  refine c_seq ?_
  refine c_region ?_
  refine t_q (q_mv (.slice _ _ _) rfl) ?_
  refine t_q (q_build (qs := [(0, 1), (1, 1)]) [(.slice _ _ _), (.bool _)] Try.zeroValue149 Try.runUnderlying149 ⟨rfl, Try.sizeOf74, rfl, Try.sizeOf4, trivial⟩ rfl rfl) ?_
  refine t_box (v := (.agg _)) rfl rfl hS (fun g5 w hS => ?_)
  refine t_q (q_as (.pointer _) rfl) ?_
  refine t_nil ?_
  refine c_ret ?_
  refine r_one rfl rfl ?_
  exact ⟨_, rfl, hS.recast (show blkA _ 149 _ = blkA _ 149 [.slice A n c, .bool false] from rfl)⟩
set_option maxRecDepth 100000 in
theorem oFail {w : World} {K : Asn} {L R : List Asn} {g : Nat} {s : Rs} (hS : St W w L) (pk : Pick L (rdO W K 149 g s) R) :
  Calls Try.prog 107 #[.pointer (some ⟨g, 0, none⟩)] w fun e w' => e = .returned (.tuple #[]) ∧ St W w' (rdO W K 149 g s.fail :: R) := by
  replace hS := hS.pick pk
  clear pk
  obtain ⟨A, c, hR, hc, hS⟩ := hS.rdo
  refine calls_of_wpE (args := [_]) Try.func107 rfl rfl rfl ?_
  refine c_seq ?_
  refine c_region ?_
  refine t_q (q_mv (.pointer _) rfl) ?_
  refine t_q (q_neq_ptr_nil Try.runUnderlying79 rfl rfl) ?_
  refine t_nil ?_
  refine c_cond_t rfl rfl ?_
  refine c_region ?_
  refine t_q (q_mv (.pointer _) rfl) ?_
  refine t_q (q_mv (.pointer _) rfl) ?_
  refine t_q (q_nilCheck rfl) ?_
  refine t_q (q_fieldAddr 0 Try.runUnderlying149 rfl Try.sizeOf74 (by decide) rfl rfl) ?_
  refine t_store (v := (.slice _ _ _)) Try.sizeOf74 hS (by repeat first | exact .here _ _ | assumption | apply Pick.there) rfl rfl rfl rfl rfl rfl (fun w hS => ?_)
  refine t_q (q_nilCheck rfl) ?_
  refine t_q (q_fieldAddr 1 Try.runUnderlying149 rfl Try.sizeOf4 (by decide) rfl rfl) ?_
  refine t_store (v := (.bool _)) Try.sizeOf4 hS (by repeat first | exact .here _ _ | assumption | apply Pick.there) rfl rfl rfl rfl rfl rfl (fun w hS => ?_)
  refine t_nil ?_
  refine r_none rfl  ?_
  exact ⟨rfl, St.unrdo0 s hS⟩
set_option maxRecDepth 100000 in
theorem oNat {w : World} {K : Asn} {L R R2 : List Asn} {g : Nat} {s : Rs} {most : Int} (hS : St W w L) (pk : Pick L (rdO W K 149 g s) R) (pk2 : Pick R K R2) (h0 : 0 ≤ most) (h1 : most < 18446744073709551616) :
  Calls Try.prog 89 #[.pointer (some ⟨g, 0, none⟩), .int .u64 most] w fun e w' => e = .returned (.int .u64 (((s.nat most.toNat).1 : Nat) : Int)) ∧ St W w' (rdO W K 149 g (s.nat most.toNat).2 :: R) := by
  replace hS := hS.pick pk
  clear pk
  obtain ⟨A, c, hR, hc, hS⟩ := hS.rdo
  refine calls_of_wpE (args := [_, _]) Try.func89 rfl rfl rfl ?_
  refine c_seq ?_
  refine c_region ?_
  refine t_q (q_assign) ?_
  refine t_nil ?_
  refine c_seq ?_
  refine c_seq ?_
  refine c_region ?_
  refine t_q (q_mv (.pointer _) rfl) ?_
  refine t_q (q_eql_ptr_nil Try.runUnderlying79 rfl rfl) ?_
  refine t_nil ?_
  refine c_cond_f rfl rfl ?_
  refine c_skip ?_
  refine c_seq ?_
  refine c_seq ?_
  refine c_region ?_
  refine t_q (q_mv (.pointer _) rfl) ?_
  refine t_q (q_nilCheck rfl) ?_
  refine t_q (q_fieldAddr 0 Try.runUnderlying149 rfl Try.sizeOf74 (by decide) rfl rfl) ?_
  refine t_q (q_load1 Try.isAgg74 rfl (hS.cell (by repeat first | exact .here _ _ | assumption | apply Pick.there) rfl)) ?_
  refine t_q (q_len_slice Try.runUnderlying74 rfl) ?_
  refine t_q (q_move) ?_
  refine t_nil ?_
  refine c_block ?_
  refine c_loop [4, 5, 6, 7, 15, 16, 17, 18, 19, 20, 21, 22, 23, 24, 25, 26, 27, 28, 29, 30, 31, 32, 33, 34, 35, 36, 37, 38, 39, 40, 41, 42, 43, 44, 45, 46, 47, 48, 49, 50, 51, 52, 53, 54, 55, 56, 57, 58, 59, 60] (fun k σ w => ∃ (j : Nat) (acc : Nat), σ 15 = .int .i64 (j : Int) ∧ σ 4 = .int .u64 (acc : Int) ∧ j ≤ s.left.length ∧ s.left.length - j ≤ k ∧ j ≤ 10 ∧ (j ≤ 9 → acc < 128 ^ j) ∧ acc < 18446744073709551616 ∧ decFrom most.toNat j acc (s.left.drop j) = decFrom most.toNat 0 0 s.left ∧ St W w (blkA g 149 [.slice A s.left.length c, .bool s.bad] :: R)) (s.left.length) rfl (⟨0, 0, rfl, rfl, by omega, by omega, by omega, fun _ => by decide, by decide, rfl, hS⟩) ?_
  skip
  rintro k σ w ⟨j, acc, h15, h4, hj, hk, hj10, hacc, hacc2, hdec, hS⟩
  refine c_know 15 h15 ?_
  refine c_know 4 h4 ?_
  clear h15 h4
  refine c_seq ?_
  refine c_region ?_
  refine t_q (q_lss rfl rfl) ?_
  refine t_nil ?_
  refine c_seq ?_
  refine c_cond rfl ?_ ?_
  · intro hc2
    have hc2d := of_decide_eq_true hc2
    have hb256 : (s.left.getD j 0).toNat < 256 := (s.left.getD j 0).toNat_lt
    have hG : (s.left.getD j 0).toNat % 128 < 128 := Nat.mod_lt _ (by decide)
    refine c_skip ?_
    refine c_seq ?_
    refine c_block ?_
    refine c_seq ?_
    refine c_region ?_
    refine t_q (q_mv (.int _ _) rfl) ?_
    first | refine t_index_nat Try.runUnderlying74 Try.sizeOf5 (hR _ (hS.drop.pick pk2).front1) rfl rfl (by omega) (fun ad3 hl3 hx3 => ?_) | refine t_index Try.runUnderlying74 Try.sizeOf5 (hR _ (hS.drop.pick pk2).front1) rfl rfl (by omega) (fun ad3 hl3 hx3 => ?_)
    refine t_q (q_cast (v' := .int .u8 ((s.left.getD j 0).toNat : Int)) (q_load1 Try.isAgg5 rfl (hx3 0 _ rfl)) (rfl)) ?_
    refine t_q (q_as (.int _ _) rfl) ?_
    refine t_q (q_as (.int _ _) rfl) ?_
    refine t_nil ?_
    refine c_seq ?_
    refine c_region ?_
    refine t_q (q_mv (.int _ _) rfl) ?_
    refine t_q (q_cast (v' := .int .u8 (((s.left.getD j 0).toNat % 128 : Nat) : Int)) (q_andNot rfl rfl) (by rw [andNot_val])) ?_
    first | refine t_q (q_conv_u64 Try.runUnderlying5 Try.runUnderlying26 rfl (by omega)) ?_ | refine t_q (q_convm_u64 Try.runUnderlying5 Try.runUnderlying26 rfl) ?_
    refine t_q (q_as (.int _ _) rfl) ?_
    refine t_nil ?_
    refine c_seq ?_
    refine c_seq ?_
    refine c_region ?_
    refine t_q (q_mv (.int _ _) rfl) ?_
    refine t_q (q_mul_i64 rfl rfl (by omega)) ?_
    refine t_q (q_mv (.int _ _) rfl) ?_
    refine t_call Try.call128 (Len64_calls (by omega) (by omega)) rfl ?_
    rintro e w ⟨l, rfl, hl0, hl7, hl2, rfl⟩
    refine ⟨_, rfl, ?_⟩
    refine t_q (q_add_i64 rfl rfl (by omega)) ?_
    refine t_q (q_gtr rfl rfl) ?_
    refine t_nil ?_
    refine c_cond rfl ?_ ?_
    · intro hc6
      have hc6d := of_decide_eq_true hc6
      have hnone : decFrom most.toNat 0 0 s.left = none := by rw [← hdec]; exact dec_far (by omega) (by omega)
      refine c_exit ?_
      refine ite_f (by decide) ?_
      refine ite_t rfl ?_
      refine c_seq ?_
      refine c_region ?_
      refine t_q (q_mv (.pointer _) rfl) ?_
      refine t_call Try.call107 (oFail (hS.unrdo rfl rfl hR hc) (.here _ _)) rfl ?_
      rintro e w ⟨rfl, hS⟩
      refine ⟨_, rfl, ?_⟩
      refine t_nil ?_
      refine c_seq ?_
      refine c_region ?_
      refine t_q (q_assign) ?_
      refine t_nil ?_
      refine c_ret ?_
      refine r_one rfl rfl ?_
      first
        | (obtain ⟨e1, e2⟩ := ofin_none hnone hS; exact ⟨congrArg (fun n => Ending.returned (.int .u64 n)) e1, e2⟩)
        | (obtain ⟨e1, e2⟩ := ofin_some (k := c) hsome hR hc (by omega) rfl rfl rfl rfl hS; exact ⟨congrArg (fun n => Ending.returned (.int .u64 n)) e1, e2⟩)
    · intro hc6
      have hc6d := of_decide_eq_false hc6
      have hj9 : j ≤ 9 := by omega
      have hG9 : j = 9 → (s.left.getD j 0).toNat % 128 ≤ 1 := by omega
      refine c_skip ?_
      refine c_seq ?_
      refine c_region ?_
      refine t_q (q_mv (.int _ _) rfl) ?_
      refine t_q (q_mv (.int _ _) rfl) ?_
      refine t_q (q_mv (.int _ _) rfl) ?_
      refine t_q (q_mul_i64 rfl rfl (by omega)) ?_
      refine t_q (q_cast (v' := .int .u64 (((s.left.getD j 0).toNat % 128 * 128 ^ j : Nat) : Int)) (q_shl rfl rfl (by omega)) (by rw [shl_val hj9 hG hG9])) ?_
      have hgb := grp_bound hj9 hG hG9
      have haj := hacc hj9
      refine t_q (q_cast (v' := .int .u64 ((acc + (s.left.getD j 0).toNat % 128 * 128 ^ j : Nat) : Int)) (q_or_u64 rfl rfl (by omega) (by omega)) (by rw [Int.toNat_natCast, Int.toNat_natCast, or_acc haj])) ?_
      refine t_q (q_as (.int _ _) rfl) ?_
      refine t_nil ?_
      refine c_seq ?_
      refine c_seq ?_
      refine c_region ?_
      refine t_q (q_mv (.int _ _) rfl) ?_
      refine t_q (q_cast (v' := .int .u8 (((s.left.getD j 0).toNat &&& 128 : Nat) : Int)) (q_and_u8 rfl rfl (by omega) (by omega)) (rfl)) ?_
      refine t_q (q_neq rfl rfl) ?_
      refine t_nil ?_
      refine c_cond rfl ?_ ?_
      · intro hc9
        have hc9d := of_decide_eq_true hc9
        refine c_exit ?_
        refine ite_t rfl ?_
        refine c_region ?_
        refine t_q (q_add_i64 rfl rfl (by omega)) ?_
        refine t_q (q_mv (.int _ _) rfl) ?_
        refine t_nil ?_
        have hdm := dec_more (most := most.toNat) (acc := acc) (show j < s.left.length by omega) hj9 hG9 (by have := and128 _ hb256; omega)
        have hn := acc_next (j := j) hG (hacc hj9)
        exact ⟨k - 1, by omega, j + 1, _, rfl, rfl, by omega, by omega, by omega, fun _ => hn, by have := grp_bound hj9 hG hG9; have := hacc hj9; omega, by rw [← hdm]; exact hdec, hS⟩
      · intro hc9
        have hc9d := of_decide_eq_false hc9
        have hsm : (s.left.getD j 0).toNat < 128 := (and128 _ hb256).1 (by omega)
        refine c_skip ?_
        refine c_seq ?_
        refine c_seq ?_
        refine c_region ?_
        refine t_q (q_mv (.int _ _) rfl) ?_
        refine t_q (q_eql rfl rfl) ?_
        refine t_q (q_mv (.bool _) rfl) ?_
        refine t_case 40 rfl ?_ ?_
        · intro hg11
          have hg11d := of_decide_eq_true hg11
          refine t_yes rfl rfl hg11 ?_
          refine t_q (q_mv (.int _ _) rfl) ?_
          refine t_yes rfl rfl hg11 ?_
          refine t_q (q_gtr rfl rfl) ?_
          refine t_q (q_pick_t rfl hg11) ?_
          refine t_q (q_mv (.bool _) rfl) ?_
          refine t_case 44 rfl ?_ ?_
          · intro hg13
            have hg13d := of_decide_eq_true hg13
            refine t_no rfl rfl (by rw [hg13]; decide) ?_
            refine t_no rfl rfl (by rw [hg13]; decide) ?_
            refine t_no rfl rfl (by rw [hg13]; decide) ?_
            refine t_q (q_pick_t rfl hg13) ?_
            refine t_nil ?_
            refine c_cond_t rfl rfl ?_
            have hnone : decFrom most.toNat 0 0 s.left = none := by rw [← hdec]; exact dec_bad (by omega) hj9 hG9 hsm (by omega)
            refine c_exit ?_
            refine ite_f (by decide) ?_
            refine ite_t rfl ?_
            refine c_seq ?_
            refine c_region ?_
            refine t_q (q_mv (.pointer _) rfl) ?_
            refine t_call Try.call107 (oFail (hS.unrdo rfl rfl hR hc) (.here _ _)) rfl ?_
            rintro e w ⟨rfl, hS⟩
            refine ⟨_, rfl, ?_⟩
            refine t_nil ?_
            refine c_seq ?_
            refine c_region ?_
            refine t_q (q_assign) ?_
            refine t_nil ?_
            refine c_ret ?_
            refine r_one rfl rfl ?_
            first
              | (obtain ⟨e1, e2⟩ := ofin_none hnone hS; exact ⟨congrArg (fun n => Ending.returned (.int .u64 n)) e1, e2⟩)
              | (obtain ⟨e1, e2⟩ := ofin_some (k := c) hsome hR hc (by omega) rfl rfl rfl rfl hS; exact ⟨congrArg (fun n => Ending.returned (.int .u64 n)) e1, e2⟩)
          · intro hg13
            have hg13d := of_decide_eq_false hg13
            refine t_yes rfl rfl hg13 ?_
            refine t_q (q_mv (.int _ _) rfl) ?_
            refine t_yes rfl rfl hg13 ?_
            refine t_q (q_mv (.int _ _) rfl) ?_
            refine t_yes rfl rfl hg13 ?_
            refine t_q (q_gtr rfl rfl) ?_
            refine t_q (q_pick_f rfl hg13) ?_
            refine t_nil ?_
            refine c_cond rfl ?_ ?_
            · intro hc16
              have hc16d := of_decide_eq_true hc16
              have hnone : decFrom most.toNat 0 0 s.left = none := by rw [← hdec]; exact dec_bad (by omega) hj9 hG9 hsm (by omega)
              refine c_exit ?_
              refine ite_f (by decide) ?_
              refine ite_t rfl ?_
              refine c_seq ?_
              refine c_region ?_
              refine t_q (q_mv (.pointer _) rfl) ?_
              refine t_call Try.call107 (oFail (hS.unrdo rfl rfl hR hc) (.here _ _)) rfl ?_
              rintro e w ⟨rfl, hS⟩
              refine ⟨_, rfl, ?_⟩
              refine t_nil ?_
              refine c_seq ?_
              refine c_region ?_
              refine t_q (q_assign) ?_
              refine t_nil ?_
              refine c_ret ?_
              refine r_one rfl rfl ?_
              first
                | (obtain ⟨e1, e2⟩ := ofin_none hnone hS; exact ⟨congrArg (fun n => Ending.returned (.int .u64 n)) e1, e2⟩)
                | (obtain ⟨e1, e2⟩ := ofin_some (k := c) hsome hR hc (by omega) rfl rfl rfl rfl hS; exact ⟨congrArg (fun n => Ending.returned (.int .u64 n)) e1, e2⟩)
            · intro hc16
              have hc16d := of_decide_eq_false hc16
              have hsome : decFrom most.toNat 0 0 s.left = some (acc + (s.left.getD j 0).toNat % 128 * 128 ^ j, s.left.drop (j + 1)) := by rw [← hdec]; exact dec_done (by omega) hj9 hG9 hsm (by omega)
              refine c_skip ?_
              refine c_seq ?_
              refine c_region ?_
              refine t_q (q_mv (.pointer _) rfl) ?_
              refine t_q (q_mv (.pointer _) rfl) ?_
              refine t_q (q_nilCheck rfl) ?_
              refine t_q (q_fieldAddr 0 Try.runUnderlying149 rfl Try.sizeOf74 (by decide) rfl rfl) ?_
              refine t_q (q_load1 Try.isAgg74 rfl (hS.cell (by repeat first | exact .here _ _ | assumption | apply Pick.there) rfl)) ?_
              refine t_q (q_mv (.int _ _) rfl) ?_
              refine t_q (q_add_i64 rfl rfl (by omega)) ?_
              refine t_q (q_slice Try.runUnderlying74 Try.sizeOf5 rfl rfl ⟨_, _, rfl, by omega, by omega, rfl⟩) ?_
              refine t_q (q_nilCheck rfl) ?_
              refine t_q (q_fieldAddr 0 Try.runUnderlying149 rfl Try.sizeOf74 (by decide) rfl rfl) ?_
              refine t_store (v := (.slice _ _ _)) Try.sizeOf74 hS (by repeat first | exact .here _ _ | assumption | apply Pick.there) rfl rfl rfl rfl rfl rfl (fun w hS => ?_)
              refine t_nil ?_
              refine c_seq ?_
              refine c_region ?_
              refine t_q (q_mv (.int _ _) rfl) ?_
              refine t_q (q_as (.int _ _) rfl) ?_
              refine t_nil ?_
              refine c_ret ?_
              refine r_one rfl rfl ?_
              first
                | (obtain ⟨e1, e2⟩ := ofin_none hnone hS; exact ⟨congrArg (fun n => Ending.returned (.int .u64 n)) e1, e2⟩)
                | (obtain ⟨e1, e2⟩ := ofin_some (k := c) hsome hR hc (by omega) rfl rfl rfl rfl hS; exact ⟨congrArg (fun n => Ending.returned (.int .u64 n)) e1, e2⟩)
        · intro hg11
          have hg11d := of_decide_eq_false hg11
          refine t_no rfl rfl (by rw [hg11]; decide) ?_
          refine t_no rfl rfl (by rw [hg11]; decide) ?_
          refine t_q (q_pick_f rfl hg11) ?_
          refine t_q (q_mv (.bool _) rfl) ?_
          refine t_yes rfl rfl rfl ?_
          refine t_q (q_mv (.int _ _) rfl) ?_
          refine t_yes rfl rfl rfl ?_
          refine t_q (q_mv (.int _ _) rfl) ?_
          refine t_yes rfl rfl rfl ?_
          refine t_q (q_gtr rfl rfl) ?_
          refine t_q (q_pick_f rfl rfl) ?_
          refine t_nil ?_
          refine c_cond rfl ?_ ?_
          · intro hc19
            have hc19d := of_decide_eq_true hc19
            have hnone : decFrom most.toNat 0 0 s.left = none := by rw [← hdec]; exact dec_bad (by omega) hj9 hG9 hsm (by omega)
            refine c_exit ?_
            refine ite_f (by decide) ?_
            refine ite_t rfl ?_
            refine c_seq ?_
            refine c_region ?_
            refine t_q (q_mv (.pointer _) rfl) ?_
            refine t_call Try.call107 (oFail (hS.unrdo rfl rfl hR hc) (.here _ _)) rfl ?_
            rintro e w ⟨rfl, hS⟩
            refine ⟨_, rfl, ?_⟩
            refine t_nil ?_
            refine c_seq ?_
            refine c_region ?_
            refine t_q (q_assign) ?_
            refine t_nil ?_
            refine c_ret ?_
            refine r_one rfl rfl ?_
            first
              | (obtain ⟨e1, e2⟩ := ofin_none hnone hS; exact ⟨congrArg (fun n => Ending.returned (.int .u64 n)) e1, e2⟩)
              | (obtain ⟨e1, e2⟩ := ofin_some (k := c) hsome hR hc (by omega) rfl rfl rfl rfl hS; exact ⟨congrArg (fun n => Ending.returned (.int .u64 n)) e1, e2⟩)
          · intro hc19
            have hc19d := of_decide_eq_false hc19
            have hsome : decFrom most.toNat 0 0 s.left = some (acc + (s.left.getD j 0).toNat % 128 * 128 ^ j, s.left.drop (j + 1)) := by rw [← hdec]; exact dec_done (by omega) hj9 hG9 hsm (by omega)
            refine c_skip ?_
            refine c_seq ?_
            refine c_region ?_
            refine t_q (q_mv (.pointer _) rfl) ?_
            refine t_q (q_mv (.pointer _) rfl) ?_
            refine t_q (q_nilCheck rfl) ?_
            refine t_q (q_fieldAddr 0 Try.runUnderlying149 rfl Try.sizeOf74 (by decide) rfl rfl) ?_
            refine t_q (q_load1 Try.isAgg74 rfl (hS.cell (by repeat first | exact .here _ _ | assumption | apply Pick.there) rfl)) ?_
            refine t_q (q_mv (.int _ _) rfl) ?_
            refine t_q (q_add_i64 rfl rfl (by omega)) ?_
            refine t_q (q_slice Try.runUnderlying74 Try.sizeOf5 rfl rfl ⟨_, _, rfl, by omega, by omega, rfl⟩) ?_
            refine t_q (q_nilCheck rfl) ?_
            refine t_q (q_fieldAddr 0 Try.runUnderlying149 rfl Try.sizeOf74 (by decide) rfl rfl) ?_
            refine t_store (v := (.slice _ _ _)) Try.sizeOf74 hS (by repeat first | exact .here _ _ | assumption | apply Pick.there) rfl rfl rfl rfl rfl rfl (fun w hS => ?_)
            refine t_nil ?_
            refine c_seq ?_
            refine c_region ?_
            refine t_q (q_mv (.int _ _) rfl) ?_
            refine t_q (q_as (.int _ _) rfl) ?_
            refine t_nil ?_
            refine c_ret ?_
            refine r_one rfl rfl ?_
            first
              | (obtain ⟨e1, e2⟩ := ofin_none hnone hS; exact ⟨congrArg (fun n => Ending.returned (.int .u64 n)) e1, e2⟩)
              | (obtain ⟨e1, e2⟩ := ofin_some (k := c) hsome hR hc (by omega) rfl rfl rfl rfl hS; exact ⟨congrArg (fun n => Ending.returned (.int .u64 n)) e1, e2⟩)
  · intro hc2
    have hc2d := of_decide_eq_false hc2
    have hnone : decFrom most.toNat 0 0 s.left = none := by rw [← hdec]; exact dec_end (by omega)
    refine c_exit ?_
    refine ite_t rfl ?_
    refine c_seq ?_
    refine c_region ?_
    refine t_q (q_mv (.pointer _) rfl) ?_
    refine t_call Try.call107 (oFail (hS.unrdo rfl rfl hR hc) (.here _ _)) rfl ?_
    rintro e w ⟨rfl, hS⟩
    refine ⟨_, rfl, ?_⟩
    refine t_nil ?_
    refine c_seq ?_
    refine c_region ?_
    refine t_q (q_assign) ?_
    refine t_nil ?_
    refine c_ret ?_
    refine r_one rfl rfl ?_
    first
      | (obtain ⟨e1, e2⟩ := ofin_none hnone hS; exact ⟨congrArg (fun n => Ending.returned (.int .u64 n)) e1, e2⟩)
      | (obtain ⟨e1, e2⟩ := ofin_some (k := c) hsome hR hc (by omega) rfl rfl rfl rfl hS; exact ⟨congrArg (fun n => Ending.returned (.int .u64 n)) e1, e2⟩)
set_option maxRecDepth 100000 in
theorem oEnd {w : World} {K : Asn} {L R : List Asn} {g : Nat} {s : Rs} (hS : St W w L) (pk : Pick L (rdO W K 149 g s) R) :
  Calls Try.prog 37 #[.pointer (some ⟨g, 0, none⟩)] w fun e w' => e = .returned (.int .i64 s.endOk) ∧ St W w' (rdO W K 149 g s :: R) := by
  replace hS := hS.pick pk
  clear pk
  obtain ⟨A, c, hR, hc, hS⟩ := hS.rdo
  refine calls_of_wpE (args := [_]) Try.func37 rfl rfl rfl ?_
  refine c_seq ?_
  refine c_region ?_
  refine t_q (q_assign) ?_
  refine t_nil ?_
  refine c_seq ?_
  refine c_block ?_
  refine c_seq ?_
  refine c_region ?_
  refine t_q (q_mv (.pointer _) rfl) ?_
  refine t_q (q_eql_ptr_nil Try.runUnderlying79 rfl rfl) ?_
  refine t_q (q_as (.bool _) rfl) ?_
  refine t_nil ?_
  refine c_cond_f rfl rfl ?_
  refine c_seq ?_
  refine c_region ?_
  refine t_q (q_mv (.pointer _) rfl) ?_
  refine t_q (q_nilCheck rfl) ?_
  refine t_q (q_fieldAddr 1 Try.runUnderlying149 rfl Try.sizeOf4 (by decide) rfl rfl) ?_
  refine t_q (q_load1 Try.isAgg4 rfl (hS.cell (by repeat first | exact .here _ _ | assumption | apply Pick.there) rfl)) ?_
  refine t_q (q_mv (.bool _) rfl) ?_
  refine t_case 11 rfl ?_ ?_
  · intro hg2
    refine t_no rfl rfl (by rw [hg2]; decide) ?_
    refine t_no rfl rfl (by rw [hg2]; decide) ?_
    refine t_no rfl rfl (by rw [hg2]; decide) ?_
    refine t_no rfl rfl (by rw [hg2]; decide) ?_
    refine t_no rfl rfl (by rw [hg2]; decide) ?_
    refine t_no rfl rfl (by rw [hg2]; decide) ?_
    refine t_q (q_pick_t rfl hg2) ?_
    refine t_q (q_as (.bool _) rfl) ?_
    refine t_nil ?_
    refine c_cond_t rfl rfl ?_
    refine c_seq ?_
    refine c_region ?_
    refine t_q (q_assign) ?_
    refine t_nil ?_
    refine c_ret ?_
    refine r_one rfl rfl ?_
    refine ⟨congrArg (fun n => Ending.returned (.int .i64 n)) ?_, hS.unrdo rfl rfl hR hc⟩
    first | exact endOk_1 (by assumption) | exact endOk_2 (by omega) | exact endOk_3 (by assumption) (by omega)
  · intro hg2
    refine t_yes rfl rfl hg2 ?_
    refine t_q (q_mv (.pointer _) rfl) ?_
    refine t_yes rfl rfl hg2 ?_
    refine t_q (q_nilCheck rfl) ?_
    refine t_yes rfl rfl hg2 ?_
    refine t_q (q_fieldAddr 0 Try.runUnderlying149 rfl Try.sizeOf74 (by decide) rfl rfl) ?_
    refine t_yes rfl rfl hg2 ?_
    refine t_q (q_load1 Try.isAgg74 rfl (hS.cell (by repeat first | exact .here _ _ | assumption | apply Pick.there) rfl)) ?_
    refine t_yes rfl rfl hg2 ?_
    refine t_q (q_len_slice Try.runUnderlying74 rfl) ?_
    refine t_yes rfl rfl hg2 ?_
    refine t_q (q_gtr rfl rfl) ?_
    refine t_q (q_pick_f rfl hg2) ?_
    refine t_q (q_as (.bool _) rfl) ?_
    refine t_nil ?_
    refine c_cond rfl ?_ ?_
    · intro hc4
      have hc4d := of_decide_eq_true hc4
      refine c_seq ?_
      refine c_region ?_
      refine t_q (q_assign) ?_
      refine t_nil ?_
      refine c_ret ?_
      refine r_one rfl rfl ?_
      refine ⟨congrArg (fun n => Ending.returned (.int .i64 n)) ?_, hS.unrdo rfl rfl hR hc⟩
      first | exact endOk_1 (by assumption) | exact endOk_2 (by omega) | exact endOk_3 (by assumption) (by omega)
    · intro hc4
      have hc4d := of_decide_eq_false hc4
      refine c_skip ?_
      refine c_seq ?_
      refine c_region ?_
      refine t_q (q_assign) ?_
      refine t_nil ?_
      refine c_ret ?_
      refine r_one rfl rfl ?_
      refine ⟨congrArg (fun n => Ending.returned (.int .i64 n)) ?_, hS.unrdo rfl rfl hR hc⟩
      first | exact endOk_1 (by assumption) | exact endOk_2 (by omega) | exact endOk_3 (by assumption) (by omega)
end Go.Proofs.Ytmgobaojioaioaa
