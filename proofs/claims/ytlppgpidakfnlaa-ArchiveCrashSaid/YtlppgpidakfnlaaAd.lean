/- Snapshots as bytes: the walks. -/
import Derived.Test.YtlppgpidakfnlaaAc
import Derived.Test.YtlppgpidakfnlaaMk
import Derived.Test.YtlppgpidakfnlaaCe
import Derived.Test.YtlppgpidakfnlaaPb
namespace Go.Proofs.Ytlppgpidakfnlaa
open Go Go.RowKit Go.Lib
variable {W : World}
theorem St.rowle {w : World} {L R : List Asn} {t : Nat} {A : Option Addr} {n c : Nat} {xs : List Value} (h : St W w L) (p : Pick L (rowA t 1 A n c xs) R) : n ≤ c := h.row_le p
attribute [local irreducible] blkA rowA rdrA
set_option maxHeartbeats 1000000 in
set_option maxRecDepth 100000 in
theorem abytes_calls {A : Option Addr} {c : Nat} {bs : List UInt8} {i t : Nat} (hR : RdB W A bs) (hc : bs.length ≤ c ∧ bs.length ≤ 9223372036854775807) (hi : i < 18446744073709551616) (ht : t < 18446744073709551616) : Calls Try.prog 27 #[.agg #[.int .u64 (i : Int), .int .u64 (t : Int), .slice A bs.length c]] W fun e w' => ∃ A' m' c', e = .returned (.tuple #[.slice A' m' c', .int .i64 (snE i t bs)]) ∧ m' = (snL i t bs).length ∧ St W w' [rowA 5 1 A' m' c' ((snL i t bs).map bv)] := by
  have hS := St.init W
  refine calls_of_wpE (args := [_]) Try.func27 rfl rfl rfl ?_
  refine c_seq ?_
  refine c_region ?_
  refine t_box (v := (.agg _)) rfl rfl hS (fun g1 w hS => ?_)
  refine t_q (q_assign) ?_
  refine t_q (q_assign) ?_
  refine t_nil ?_
  refine c_seq ?_
  refine c_block ?_
  refine c_seq ?_
  refine c_region ?_
  refine t_q (q_fieldAddr 0 Try.runUnderlying45 rfl Try.sizeOf43 (by decide) rfl rfl) ?_
  refine t_q (q_load1 Try.isAgg43 rfl (hS.cell (by repeat first | exact .here _ _ | assumption | apply Pick.there) rfl)) ?_
  refine t_q (q_fieldAddr 1 Try.runUnderlying45 rfl Try.sizeOf43 (by decide) rfl rfl) ?_
  refine t_q (q_load1 Try.isAgg43 rfl (hS.cell (by repeat first | exact .here _ _ | assumption | apply Pick.there) rfl)) ?_
  refine t_q (q_max rfl rfl) ?_
  refine t_q (q_gtr rfl rfl) ?_
  refine t_q (q_as (.bool _) rfl) ?_
  refine t_nil ?_
  refine c_cond rfl ?_ ?_
  · intro hc2
    have hc2d := of_decide_eq_true hc2
    have hE := snE_arg (i := i) (t := t) (b := bs) (by omega)
    refine c_seq ?_
    refine c_region ?_
    refine t_q (q_assign) ?_
    refine t_q (q_assign) ?_
    refine t_nil ?_
    refine c_ret ?_
    refine r_two rfl rfl rfl ?_
    first
      | (rw [hE.1, hE.2]; exact ⟨none, 0, 0, rfl, rfl, hS.nil.nilrow 5 1⟩)
      | (have h0 : left.length = 0 := by omega
         rw [pcs_nil h0, List.append_nil] at hX
         rw [hE0, hL0, ← hX]
         exact ⟨_, _, _, rfl, hm5, hS.front1⟩)
  · intro hc2
    have hc2d := of_decide_eq_false hc2
    have hno1 : ¬ 4611686018427387904 < max i t := by omega
    refine c_seq ?_
    refine c_region ?_
    refine t_q (q_fieldAddr 2 Try.runUnderlying45 rfl Try.sizeOf25 (by decide) rfl rfl) ?_
    refine t_q (q_load1 Try.isAgg25 rfl (hS.cell (by repeat first | exact .here _ _ | assumption | apply Pick.there) rfl)) ?_
    refine t_q (q_len_slice Try.runUnderlying25 rfl) ?_
    refine t_q (q_gtr rfl rfl) ?_
    refine t_q (q_as (.bool _) rfl) ?_
    refine t_nil ?_
    refine c_cond rfl ?_ ?_
    · intro hc4
      have hc4d := of_decide_eq_true hc4
      have hE := snE_long (b := bs) hno1 (by omega)
      refine c_seq ?_
      refine c_region ?_
      refine t_q (q_assign) ?_
      refine t_q (q_assign) ?_
      refine t_nil ?_
      refine c_ret ?_
      refine r_two rfl rfl rfl ?_
      first
        | (rw [hE.1, hE.2]; exact ⟨none, 0, 0, rfl, rfl, hS.nil.nilrow 5 1⟩)
        | (have h0 : left.length = 0 := by omega
           rw [pcs_nil h0, List.append_nil] at hX
           rw [hE0, hL0, ← hX]
           exact ⟨_, _, _, rfl, hm5, hS.front1⟩)
    · intro hc4
      have hc4d := of_decide_eq_false hc4
      have hno2 : ¬ 524288 < bs.length := by omega
      obtain ⟨hE0, hL0⟩ := snE_ok (b := bs) hno1 hno2
      have hbl := snB_len (b := bs) hi ht (by omega)
      refine c_skip ?_
      refine c_seq ?_
      refine c_region ?_
      refine t_alloc Try.zeroValue135 rfl hS (fun g4 w hS => ?_)
      replace hS := hS.wr0
      refine t_nil ?_
      refine c_seq ?_
      refine c_region ?_
      refine t_q (q_fieldAddr 0 Try.runUnderlying45 rfl Try.sizeOf43 (by decide) rfl rfl) ?_
      refine t_q (q_load1 Try.isAgg43 rfl (hS.cell (by repeat first | exact .here _ _ | assumption | apply Pick.there) rfl)) ?_
      refine t_q (q_fieldAddr 1 Try.runUnderlying45 rfl Try.sizeOf43 (by decide) rfl rfl) ?_
      refine t_q (q_load1 Try.isAgg43 rfl (hS.cell (by repeat first | exact .here _ _ | assumption | apply Pick.there) rfl)) ?_
      refine t_q (q_fieldAddr 2 Try.runUnderlying45 rfl Try.sizeOf25 (by decide) rfl rfl) ?_
      refine t_q (q_load1 Try.isAgg25 rfl (hS.cell (by repeat first | exact .here _ _ | assumption | apply Pick.there) rfl)) ?_
      refine t_q (q_len_slice Try.runUnderlying25 rfl) ?_
      first | refine t_q (q_conv_u64 Try.runUnderlying3 Try.runUnderlying43 rfl (by omega)) ?_ | refine t_q (q_convm_u64 Try.runUnderlying3 Try.runUnderlying43 rfl) ?_
      refine t_build_ints [_, _, _] Try.runUnderlying194 Try.sizeOf43 Try.zeroValue43 rfl rfl (by decide) hS (fun g32 w hS => ?_)
      refine t_call Try.call78 (Nat_calls (ns := [(i : Int), (t : Int), (bs.length : Int)]) hS (by repeat first | exact .here _ _ | assumption | apply Pick.there) (fun _ h => h.rowInts (.here _ _) rfl) (by intro m hm; simp only [List.mem_cons, List.not_mem_nil, or_false] at hm; omega) (by simp) (by simp)) rfl ?_
      rintro e w ⟨rfl, hS⟩
      refine ⟨_, rfl, ?_⟩
      replace hS := hS.swap.recast (congrArg (wrA g4) (show _ = hdB i t bs.length from by unfold encs hdB; simp))
      have hhl := hdB_len hi ht (n := bs.length) (by omega)
      refine t_nil ?_
      refine c_seq ?_
      refine c_region ?_
      refine t_call Try.call72 (Bytes_calls hS (by repeat first | exact .here _ _ | assumption | apply Pick.there) (by omega)) rfl ?_
      rintro e w ⟨A35, c35, rfl, hc35, hS⟩
      refine ⟨_, rfl, ?_⟩
      refine t_call Try.call20 (wrap_calls (kk := 5) (hS.rowRd (bs := hdB i t bs.length) (.here _ _) rfl) (by omega)) rfl ?_
      rintro e w ⟨A36, m36, c36, rfl, hm36, hT⟩
      refine ⟨_, rfl, ?_⟩
      have hS : St W w (_ :: _) := hS.lift hT
      obtain ⟨e5, l5⟩ := wrapE_ok (k := 5) (body := hdB i t bs.length) (by decide) (by omega)
      rw [l5] at hm36 hS
      rw [e5]
      refine t_q (q_mv (.tuple _) rfl) ?_
      skip
      refine t_q (q_extract rfl rfl) ?_
      refine t_q (q_extract rfl rfl) ?_
      refine t_q (q_as (.slice _ _ _) rfl) ?_
      refine t_q (q_as (.int _ _) rfl) ?_
      refine t_nil ?_
      refine c_seq ?_
      refine c_region ?_
      refine t_make (n := 1024) Try.underlying25 (info_of Try.type5) rfl rfl rfl rfl rfl (by decide) (by decide) hS (fun g39 w hS => ?_)
      replace hS := hS.recast (congrArg (rowA 5 1 (some ⟨g39, 0, none⟩) 1024 1024) (rep_bv (1024)))
      refine t_q (q_as (.slice _ _ _) rfl) ?_
      refine t_nil ?_
      refine c_seq ?_
      refine c_seq ?_
      refine c_region ?_
      refine t_q (q_fieldAddr 2 Try.runUnderlying45 rfl Try.sizeOf25 (by decide) rfl rfl) ?_
      refine t_q (q_load1 Try.isAgg25 rfl (hS.cell (by repeat first | exact .here _ _ | assumption | apply Pick.there) rfl)) ?_
      refine t_q (q_as (.slice _ _ _) rfl) ?_
      refine t_nil ?_
      refine c_block ?_
      refine c_loop [5, 8, 9, 10, 11, 42, 43, 44, 45, 46, 47, 48, 49, 50, 51, 52, 53, 54, 55, 56, 57, 58, 59, 60] (fun k σ w => ∃ (left : List UInt8) (B : Option Addr) (cl : Nat) (X : List UInt8) (A5 : Option Addr) (m5 c5 : Nat) (zs : List UInt8), σ 8 = .slice B left.length cl ∧ σ 5 = .slice A5 m5 c5 ∧ m5 = X.length ∧ RdB W B left ∧ (left.length ≤ cl ∧ left.length ≤ 524288) ∧ X ++ pcs left = snB i t bs ∧ zs.length = 1024 ∧ left.length ≤ k ∧ St W w [rowA 5 1 A5 m5 c5 ((X).map bv), rowA 5 1 (some ⟨g39, 0, none⟩) 1024 1024 ((zs).map bv)]) (bs.length) rfl (⟨bs, A, c, parB 5 (hdB i t bs.length), A36, m36, c36, List.replicate 1024 0, rfl, rfl, hm36, hR, ⟨hc.1, by omega⟩, rfl, List.length_replicate, Nat.le_refl _, (((hS.pick (A := rowA 5 1 (some ⟨g39, 0, none⟩) _ _ _) (by repeat first | exact .here _ _ | assumption | apply Pick.there)).pick (A := rowA 5 1 A36 _ c36 _) (by repeat first | exact .here _ _ | assumption | apply Pick.there))).front2⟩) ?_
      skip
      rintro k σ w ⟨left, B, cl, X, A5, m5, c5, zs, h8, h5, hm5, hB, hcl, hX, hzs, hk, hS⟩
      refine c_know 8 h8 ?_
      refine c_know 5 h5 ?_
      clear h8 h5
      have hXl0 := congrArg List.length hX
      rw [List.length_append] at hXl0
      refine c_seq ?_
      refine c_seq ?_
      refine c_region ?_
      refine t_q (q_mv (.slice _ _ _) rfl) ?_
      refine t_q (q_len_slice Try.runUnderlying25 rfl) ?_
      refine t_q (q_gtr rfl rfl) ?_
      refine t_nil ?_
      refine c_cond rfl ?_ ?_
      · intro hc11
        have hc11d := of_decide_eq_true hc11
        refine c_skip ?_
        refine c_block ?_
        refine c_seq ?_
        refine c_region ?_
        refine t_q (q_mv (.slice _ _ _) rfl) ?_
        refine t_q (q_mv (.slice _ _ _) rfl) ?_
        refine t_copy Try.underlying25 (info_of Try.type5) rfl hS (by repeat first | exact .here _ _ | assumption | apply Pick.there) (hB.st hS) rfl rfl rfl (by omega) (fun w hS => ?_)
        skip
        refine t_q (q_as (.int _ _) rfl) ?_
        refine t_nil ?_
        refine c_seq ?_
        have htl : (left.take 1024).length = (min left.length 1024) := by rw [List.length_take, Nat.min_comm]
        refine c_region ?_
        refine t_q (q_mv (.slice _ _ _) rfl) ?_
        refine t_q (q_mv (.int _ _) rfl) ?_
        refine t_q (q_cast (v' := .slice (if 1024 = 0 then ((some ⟨g39, 0, none⟩) : Option Addr) else ((some ⟨g39, 0, none⟩) : Option Addr).map (·.add (0 * 1))) (left.take 1024).length (1024 - 0)) (q_slice Try.runUnderlying25 Try.sizeOf5 rfl ⟨_, _, rfl, by omega, by omega, rfl⟩ rfl) (by rw [htl]; rfl)) ?_
        have hB2 : RdB w (if 1024 = 0 then ((some ⟨g39, 0, none⟩) : Option Addr) else ((some ⟨g39, 0, none⟩) : Option Addr).map (·.add (0 * 1))) (left.take 1024) := by
          have h := take_rd (k := (min left.length 1024)) (c := 1024) (hS.rowRd (A := (some ⟨g39, 0, none⟩)) (bs := (left.take 1024 ++ zs.drop (min left.length 1024))) (by repeat first | exact .here _ _ | assumption | apply Pick.there) (by rw [List.length_append, List.length_drop, htl]; omega)) (by rw [List.length_append, htl]; omega) ⟨by rw [List.length_append, List.length_drop, htl]; omega, by rw [List.length_append, List.length_drop, htl]; omega⟩
          rwa [List.take_left' htl] at h
        refine t_call Try.call20 (wrap_calls (kk := 6) hB2 (by omega)) rfl ?_
        rintro e w ⟨A52, m52, c52, rfl, hm52, hT⟩
        refine ⟨_, rfl, ?_⟩
        have hS : St W w (_ :: _) := hS.lift hT
        obtain ⟨e6, l6⟩ := wrapE_ok (k := 6) (body := left.take 1024) (by decide) (by omega)
        rw [l6] at hm52 hS
        rw [e6]
        have hXl := congrArg List.length hX
        rw [pcs_cons (by omega), List.length_append, List.length_append] at hXl
        refine t_q (q_mv (.tuple _) rfl) ?_
        refine t_q (q_extract rfl rfl) ?_
        refine t_q (q_extract rfl rfl) ?_
        refine t_q (q_as (.slice _ _ _) rfl) ?_
        refine t_q (q_as (.int _ _) rfl) ?_
        refine t_nil ?_
        refine c_seq ?_
        refine c_region ?_
        refine t_q (q_mv (.slice _ _ _) rfl) ?_
        refine t_q (q_mv (.slice _ _ _) rfl) ?_
        refine t_append_own (size := 1) (bytes := 1) Try.underlying25 (info_of Try.type5) rfl rfl rfl rfl (by decide) hS (by repeat first | exact .here _ _ | assumption | apply Pick.there) (by repeat first | exact .here _ _ | assumption | apply Pick.there) rfl rfl (by first | exact allOne_bv _ | exact allOne_ints _ _ | rfl) (by unfold maxLen; omega) (by omega) (fun A57 c57 w hS => ?_)
        refine t_q (q_as (.slice _ _ _) rfl) ?_
        refine t_nil ?_
        refine c_region ?_
        refine t_q (q_mv (.slice _ _ _) rfl) ?_
        refine t_q (q_mv (.int _ _) rfl) ?_
        refine t_q (q_cast (v' := .slice (if cl = (min left.length 1024) then B else B.map (·.add ((min left.length 1024) * 1))) (left.drop (min left.length 1024)).length (cl - (min left.length 1024))) (q_slice Try.runUnderlying25 Try.sizeOf5 rfl rfl ⟨_, _, rfl, by omega, by omega, rfl⟩) (by rw [List.length_drop]; rfl)) ?_
        refine t_q (q_as (.slice _ _ _) rfl) ?_
        refine t_nil ?_
        refine ⟨k - 1, by omega, left.drop (min left.length 1024), _, _, X ++ parB 6 (left.take 1024), A57, _, c57, (left.take 1024 ++ zs.drop (min left.length 1024)), rfl, rfl, ?_, drop_rd hB (by omega) ⟨hcl.1, by omega⟩, ?_, ?_, ?_, ?_, ?_⟩
        · rw [List.length_append, hm5, hm52]
        · rw [List.length_drop]; omega
        · rw [List.append_assoc, min_drop, ← pcs_cons (by omega)]; exact hX
        · rw [List.length_append, List.length_drop, htl]; omega
        · rw [List.length_drop]; omega
        · exact (((((hS.pick (A := rowA 5 1 A57 _ c57 _) (by repeat first | exact .here _ _ | assumption | apply Pick.there)).recast (show _ = rowA 5 1 A57 (m5 + m52) c57 ((X ++ parB 6 (left.take 1024)).map bv) from by rw [List.map_append])).pick (A := rowA 5 1 (some ⟨g39, 0, none⟩) _ _ _) (by repeat first | exact .here _ _ | assumption | apply Pick.there)).pick (A := rowA 5 1 A57 _ c57 _) (by repeat first | exact .here _ _ | assumption | apply Pick.there))).front2
      · intro hc11
        have hc11d := of_decide_eq_false hc11
        refine c_exit ?_
        refine ite_t rfl ?_
        refine c_seq ?_
        refine c_region ?_
        refine t_q (q_mv (.slice _ _ _) rfl) ?_
        refine t_q (q_as (.slice _ _ _) rfl) ?_
        refine t_q (q_assign) ?_
        refine t_nil ?_
        refine c_ret ?_
        refine r_two rfl rfl rfl ?_
        first
          | (rw [hE.1, hE.2]; exact ⟨none, 0, 0, rfl, rfl, hS.nil.nilrow 5 1⟩)
          | (have h0 : left.length = 0 := by omega
             rw [pcs_nil h0, List.append_nil] at hX
             rw [hE0, hL0, ← hX]
             exact ⟨_, _, _, rfl, hm5, hS.front1⟩)
theorem win_eq {bs : List UInt8} {a : Nat} (h : a ≤ bs.length) : (bs.drop a).take (min (a + 1024) bs.length - a) = (bs.drop a).take 1024 := by
  rcases Nat.le_total (a + 1024) bs.length with h1 | h1
  · rw [Nat.min_eq_left h1, show a + 1024 - a = 1024 by omega]
  · rw [Nat.min_eq_right h1, List.take_of_length_le (by rw [List.length_drop]; omega), List.take_of_length_le (by rw [List.length_drop]; omega)]
set_option maxHeartbeats 1000000 in
set_option maxRecDepth 100000 in
theorem qabytes_calls {A : Option Addr} {c : Nat} {bs : List UInt8} {i t : Nat} (hR : RdB W A bs) (hc : bs.length ≤ c ∧ bs.length ≤ 9223372036854775807) (hi : i < 18446744073709551616) (ht : t < 18446744073709551616) : Calls Try.prog 28 #[.agg #[.int .u64 (i : Int), .int .u64 (t : Int), .slice A bs.length c]] W fun e w' => ∃ A' m' c', e = .returned (.tuple #[.slice A' m' c', .int .i64 (snE i t bs)]) ∧ m' = (snL i t bs).length ∧ St W w' [rowA 5 1 A' m' c' ((snL i t bs).map bv)] := by
  have hS := St.init W
  refine calls_of_wpE (args := [_]) Try.func28 rfl rfl rfl ?_
  refine c_seq ?_
  refine c_region ?_
  refine t_box (v := (.agg _)) rfl rfl hS (fun g1 w hS => ?_)
  refine t_q (q_assign) ?_
  refine t_q (q_assign) ?_
  refine t_nil ?_
  refine c_seq ?_
  refine c_seq ?_
  refine c_region ?_
  refine t_q (q_fieldAddr 0 Try.runUnderlying50 rfl Try.sizeOf43 (by decide) rfl rfl) ?_
  refine t_q (q_load1 Try.isAgg43 rfl (hS.cell (by repeat first | exact .here _ _ | assumption | apply Pick.there) rfl)) ?_
  refine t_q (q_gtr rfl rfl) ?_
  refine t_q (q_mv (.bool _) rfl) ?_
  refine t_case 10 rfl ?_ ?_
  · intro hg2
    have hg2d := of_decide_eq_true hg2
    refine t_no rfl rfl (by rw [hg2]; decide) ?_
    refine t_no rfl rfl (by rw [hg2]; decide) ?_
    refine t_no rfl rfl (by rw [hg2]; decide) ?_
    refine t_q (q_pick_t rfl hg2) ?_
    refine t_nil ?_
    refine c_cond_t rfl rfl ?_
    have hE := snE_arg (i := i) (t := t) (b := bs) (by omega)
    refine c_seq ?_
    refine c_region ?_
    refine t_q (q_assign) ?_
    refine t_q (q_assign) ?_
    refine t_nil ?_
    refine c_ret ?_
    refine r_two rfl rfl rfl ?_
    first
      | (rw [hE.1, hE.2]; exact ⟨none, 0, 0, rfl, rfl, hS.nil.nilrow 5 1⟩)
      | (rw [pcs_nil (by rw [List.length_drop]; omega), List.append_nil] at hX
         rw [hE0, hL0, ← hX]
         exact ⟨_, _, _, rfl, hm5, hS.front1⟩)
  · intro hg2
    have hg2d := of_decide_eq_false hg2
    refine t_yes rfl rfl hg2 ?_
    refine t_q (q_fieldAddr 1 Try.runUnderlying50 rfl Try.sizeOf43 (by decide) rfl rfl) ?_
    refine t_yes rfl rfl hg2 ?_
    refine t_q (q_load1 Try.isAgg43 rfl (hS.cell (by repeat first | exact .here _ _ | assumption | apply Pick.there) rfl)) ?_
    refine t_yes rfl rfl hg2 ?_
    refine t_q (q_gtr rfl rfl) ?_
    refine t_q (q_pick_f rfl hg2) ?_
    refine t_nil ?_
    refine c_cond rfl ?_ ?_
    · intro hc4
      have hc4d := of_decide_eq_true hc4
      have hE := snE_arg (i := i) (t := t) (b := bs) (by omega)
      refine c_seq ?_
      refine c_region ?_
      refine t_q (q_assign) ?_
      refine t_q (q_assign) ?_
      refine t_nil ?_
      refine c_ret ?_
      refine r_two rfl rfl rfl ?_
      first
        | (rw [hE.1, hE.2]; exact ⟨none, 0, 0, rfl, rfl, hS.nil.nilrow 5 1⟩)
        | (rw [pcs_nil (by rw [List.length_drop]; omega), List.append_nil] at hX
           rw [hE0, hL0, ← hX]
           exact ⟨_, _, _, rfl, hm5, hS.front1⟩)
    · intro hc4
      have hc4d := of_decide_eq_false hc4
      have hno1 : ¬ 4611686018427387904 < max i t := by omega
      refine c_skip ?_
      refine c_seq ?_
      refine c_seq ?_
      refine c_region ?_
      refine t_q (q_fieldAddr 2 Try.runUnderlying50 rfl Try.sizeOf25 (by decide) rfl rfl) ?_
      refine t_q (q_load1 Try.isAgg25 rfl (hS.cell (by repeat first | exact .here _ _ | assumption | apply Pick.there) rfl)) ?_
      refine t_q (q_len_slice Try.runUnderlying25 rfl) ?_
      refine t_q (q_gtr rfl rfl) ?_
      refine t_nil ?_
      refine c_cond rfl ?_ ?_
      · intro hc6
        have hc6d := of_decide_eq_true hc6
        have hE := snE_long (b := bs) hno1 (by omega)
        refine c_seq ?_
        refine c_region ?_
        refine t_q (q_assign) ?_
        refine t_q (q_assign) ?_
        refine t_nil ?_
        refine c_ret ?_
        refine r_two rfl rfl rfl ?_
        first
          | (rw [hE.1, hE.2]; exact ⟨none, 0, 0, rfl, rfl, hS.nil.nilrow 5 1⟩)
          | (rw [pcs_nil (by rw [List.length_drop]; omega), List.append_nil] at hX
             rw [hE0, hL0, ← hX]
             exact ⟨_, _, _, rfl, hm5, hS.front1⟩)
      · intro hc6
        have hc6d := of_decide_eq_false hc6
        have hno2 : ¬ 524288 < bs.length := by omega
        obtain ⟨hE0, hL0⟩ := snE_ok (b := bs) hno1 hno2
        have hbl := snB_len (b := bs) hi ht (by omega)
        refine c_skip ?_
        refine c_seq ?_
        refine c_draw ?_
        refine d_keep (blkA g1 50 [.int .u64 (i : Int), .int .u64 (t : Int), .slice A bs.length c]) 8 [0, 1, 2, 3, 4, 5, 6, 7] [0, 1, 2, 3, 4, 5, 6, 7] hS rfl (by kernel_rfl) (by kernel_rfl) (by kernel_rfl) (by kernel_rfl) (fun hap hsel w hS => ?_)
        refine p_q hap hsel 0 rfl rfl ⟨_, hS.pick (by repeat first | exact .here _ _ | assumption | apply Pick.there)⟩ (fun w hI => q_fieldAddr 0 Try.runUnderlying50 rfl Try.sizeOf43 (by decide) rfl rfl) ?_
        refine p_q hap hsel 1 rfl rfl ⟨_, hS.pick (by repeat first | exact .here _ _ | assumption | apply Pick.there)⟩ (fun w hI => q_load1 Try.isAgg43 rfl (hI.choose_spec.cell (by repeat first | exact .here _ _ | assumption | apply Pick.there) rfl)) ?_
        refine p_q hap hsel 3 rfl rfl ⟨_, hS.pick (by repeat first | exact .here _ _ | assumption | apply Pick.there)⟩ (fun w hI => q_fieldAddr 1 Try.runUnderlying50 rfl Try.sizeOf43 (by decide) rfl rfl) ?_
        refine p_q hap hsel 4 rfl rfl ⟨_, hS.pick (by repeat first | exact .here _ _ | assumption | apply Pick.there)⟩ (fun w hI => q_load1 Try.isAgg43 rfl (hI.choose_spec.cell (by repeat first | exact .here _ _ | assumption | apply Pick.there) rfl)) ?_
        refine p_one 2 rfl (by kernel_rfl) ?_
        refine t_call Try.call79 (qwNat hS (by omega) (by omega)) rfl ?_
        rintro e w ⟨A21, n21, c21, rfl, hn21, hS⟩
        refine ⟨_, rfl, ?_⟩
        rw [Int.toNat_natCast] at hn21 hS
        have ht21 := enc_ten (n := i) hi
        refine t_nil ?_
        refine ⟨.inr ⟨_, hS.pick (by repeat first | exact .here _ _ | assumption | apply Pick.there)⟩, ?_⟩
        refine p_one 5 rfl (by kernel_rfl) ?_
        refine t_call Try.call79 (qwNat hS (by omega) (by omega)) rfl ?_
        rintro e w ⟨A24, n24, c24, rfl, hn24, hS⟩
        refine ⟨_, rfl, ?_⟩
        rw [Int.toNat_natCast] at hn24 hS
        have ht24 := enc_ten (n := t) ht
        refine t_nil ?_
        refine ⟨.inr ⟨_, hS.pick (by repeat first | exact .here _ _ | assumption | apply Pick.there)⟩, ?_⟩
        refine p_one 6 rfl (by kernel_rfl) ?_
        refine t_append_own (size := 1) (bytes := 1) Try.underlying25 (info_of Try.type5) rfl rfl rfl rfl (by decide) hS (.here _ _) (by repeat first | exact .here _ _ | assumption | apply Pick.there) rfl rfl (by first | exact allOne_bv _ | exact allOne_ints _ _ | rfl) (by unfold maxLen; omega) (by omega) (fun A25 c25 w hS => ?_)
        refine t_nil ?_
        refine ⟨.inr ⟨_, hS.pick (by repeat first | exact .here _ _ | assumption | apply Pick.there)⟩, ?_⟩
        refine p_q hap hsel 7 rfl rfl ⟨_, hS.pick (by repeat first | exact .here _ _ | assumption | apply Pick.there)⟩ (fun w hI => q_as (.slice _ _ _) rfl) ?_
        refine p_end (by kernel_rfl) ?_
        refine c_seq ?_
        refine c_region ?_
        refine t_q (q_mv (.slice _ _ _) rfl) ?_
        refine t_q (q_fieldAddr 2 Try.runUnderlying50 rfl Try.sizeOf25 (by decide) rfl rfl) ?_
        refine t_q (q_load1 Try.isAgg25 rfl (hS.cell (by repeat first | exact .here _ _ | assumption | apply Pick.there) rfl)) ?_
        refine t_q (q_len_slice Try.runUnderlying25 rfl) ?_
        first | refine t_q (q_conv_u64 Try.runUnderlying3 Try.runUnderlying43 rfl (by omega)) ?_ | refine t_q (q_convm_u64 Try.runUnderlying3 Try.runUnderlying43 rfl) ?_
        refine t_call Try.call79 (qwNat hS (by omega) (by omega)) rfl ?_
        rintro e w ⟨A31, n31, c31, rfl, hn31, hS⟩
        refine ⟨_, rfl, ?_⟩
        rw [Int.toNat_natCast] at hn31 hS
        have ht31 := enc_ten (n := bs.length) (by omega)
        refine t_append_own (size := 1) (bytes := 1) Try.underlying25 (info_of Try.type5) rfl rfl rfl rfl (by decide) hS (.here _ _) (by repeat first | exact .here _ _ | assumption | apply Pick.there) rfl rfl (by first | exact allOne_bv _ | exact allOne_ints _ _ | rfl) (by unfold maxLen; omega) (by omega) (fun A32 c32 w hS => ?_)
        have hhl : n21 + n24 + n31 = (hdB i t bs.length).length := by unfold hdB; rw [List.length_append, List.length_append]; omega
        replace hS := hS.recast (show _ = rowA 5 1 A32 (hdB i t bs.length).length c32 ((hdB i t bs.length).map bv) from by rw [← hhl]; unfold hdB; rw [List.map_append, List.map_append])
        have hhl2 := hdB_len hi ht (n := bs.length) (by omega)
        have hb32 := hS.rowRd (bs := hdB i t bs.length) (.here _ _) rfl
        refine t_call Try.call80 (qpbytes_calls (kk := 5) (c := c32) hb32 (by omega) (by omega)) (congrArg (fun n => [Value.int .u8 5, Value.slice A32 n c32]) hhl) ?_
        rintro e w ⟨A33, m33, c33, rfl, hm33, hT⟩
        refine ⟨_, rfl, ?_⟩
        have hS : St W w (_ :: _) := hS.lift hT
        refine t_q (q_as (.slice _ _ _) rfl) ?_
        refine t_nil ?_
        refine c_seq ?_
        refine c_seq ?_
        refine c_region ?_
        refine t_q (q_assign) ?_
        refine t_nil ?_
        refine c_block ?_
        refine c_loop [5, 6, 34, 35, 36, 37, 38, 39, 40, 41, 42, 43, 44, 45, 46, 47, 48, 49, 50, 51, 52, 53] (fun k σ w => ∃ (at_ : Nat) (X : List UInt8) (A5 : Option Addr) (m5 c5 : Nat), σ 6 = .int .i64 (at_ : Int) ∧ σ 5 = .slice A5 m5 c5 ∧ m5 = X.length ∧ at_ ≤ bs.length + 1024 ∧ X ++ pcs (bs.drop at_) = snB i t bs ∧ bs.length - at_ ≤ k ∧ St W w [rowA 5 1 A5 m5 c5 ((X).map bv), blkA g1 50 [.int .u64 (i : Int), .int .u64 (t : Int), .slice A bs.length c]]) (bs.length) rfl (⟨0, parB 5 (hdB i t bs.length), A33, m33, c33, rfl, rfl, hm33, by omega, rfl, by omega, (((hS.pick (A := blkA g1 50 _) (by repeat first | exact .here _ _ | assumption | apply Pick.there)).pick (A := rowA 5 1 A33 _ c33 _) (by repeat first | exact .here _ _ | assumption | apply Pick.there))).front2⟩) ?_
        skip
        rintro k σ w ⟨at_, X, A5, m5, c5, h6, h5, hm5, hat, hX, hk, hS⟩
        refine c_know 6 h6 ?_
        refine c_know 5 h5 ?_
        clear h6 h5
        have hXl0 := congrArg List.length hX
        rw [List.length_append] at hXl0
        refine c_seq ?_
        refine c_seq ?_
        refine c_region ?_
        refine t_q (q_mv (.int _ _) rfl) ?_
        refine t_q (q_fieldAddr 2 Try.runUnderlying50 rfl Try.sizeOf25 (by decide) rfl rfl) ?_
        refine t_q (q_load1 Try.isAgg25 rfl (hS.cell (by repeat first | exact .here _ _ | assumption | apply Pick.there) rfl)) ?_
        refine t_q (q_len_slice Try.runUnderlying25 rfl) ?_
        refine t_q (q_lss rfl rfl) ?_
        refine t_nil ?_
        refine c_cond rfl ?_ ?_
        · intro hc12
          have hc12d := of_decide_eq_true hc12
          refine c_skip ?_
          refine c_seq ?_
          refine c_block ?_
          refine c_region ?_
          refine t_q (q_mv (.slice _ _ _) rfl) ?_
          refine t_q (q_fieldAddr 2 Try.runUnderlying50 rfl Try.sizeOf25 (by decide) rfl rfl) ?_
          refine t_q (q_load1 Try.isAgg25 rfl (hS.cell (by repeat first | exact .here _ _ | assumption | apply Pick.there) rfl)) ?_
          refine t_q (q_mv (.int _ _) rfl) ?_
          refine t_q (q_mv (.int _ _) rfl) ?_
          refine t_q (q_add_i64 rfl rfl (by omega)) ?_
          refine t_q (q_fieldAddr 2 Try.runUnderlying50 rfl Try.sizeOf25 (by decide) rfl rfl) ?_
          refine t_q (q_load1 Try.isAgg25 rfl (hS.cell (by repeat first | exact .here _ _ | assumption | apply Pick.there) rfl)) ?_
          refine t_q (q_len_slice Try.runUnderlying25 rfl) ?_
          refine t_q (q_cast (v' := .int .i64 ((min (at_ + 1024) bs.length : Nat) : Int)) (q_min rfl rfl) (by congr 1; omega)) ?_
          refine t_q (q_cast (v' := .slice (if c = at_ then A else A.map (·.add (at_ * 1))) ((bs.drop at_).take 1024).length (c - at_)) (q_slice Try.runUnderlying25 Try.sizeOf5 rfl ⟨_, _, rfl, by omega, by omega, rfl⟩ ⟨_, _, rfl, by omega, by omega, rfl⟩) (by rw [← win_eq (by omega), List.length_take, List.length_drop]; congr 1; omega)) ?_
          refine t_call Try.call80 (qpbytes_calls (kk := 6) (show RdB w _ ((bs.drop at_).take 1024) from by rw [← win_eq (by omega)]; exact Rd.st (cut_rd (l := at_) (m := min (at_ + 1024) bs.length) (c := c) hR (by omega) (by omega) hc.1) hS) (by rw [List.length_take]; omega) (by rw [List.length_take]; omega)) rfl ?_
          rintro e w ⟨A52, m52, c52, rfl, hm52, hT⟩
          refine ⟨_, rfl, ?_⟩
          have hS : St W w (_ :: _) := hS.lift hT
          have hXl := congrArg List.length hX
          rw [pcs_cons (by rw [List.length_drop]; omega), List.length_append, List.length_append] at hXl
          refine t_append_own (size := 1) (bytes := 1) Try.underlying25 (info_of Try.type5) rfl rfl rfl rfl (by decide) hS (.here _ _) (by repeat first | exact .here _ _ | assumption | apply Pick.there) rfl rfl (by first | exact allOne_bv _ | exact allOne_ints _ _ | rfl) (by unfold maxLen; omega) (by omega) (fun A53 c53 w hS => ?_)
          refine t_q (q_as (.slice _ _ _) rfl) ?_
          refine t_nil ?_
          refine c_region ?_
          refine t_q (q_mv (.int _ _) rfl) ?_
          refine t_q (q_add_i64 rfl rfl (by omega)) ?_
          refine t_q (q_as (.int _ _) rfl) ?_
          refine t_nil ?_
          refine ⟨bs.length - (at_ + 1024), by omega, at_ + 1024, X ++ parB 6 ((bs.drop at_).take 1024), A53, _, c53, rfl, rfl, ?_, by omega, ?_, Nat.le_refl _, ?_⟩
          · rw [List.length_append, hm5, hm52]
          · rw [List.append_assoc, ← List.drop_drop, ← pcs_cons (by rw [List.length_drop]; omega)]; exact hX
          · exact (((((hS.pick (A := rowA 5 1 A53 _ c53 _) (by repeat first | exact .here _ _ | assumption | apply Pick.there)).recast (show _ = rowA 5 1 A53 (m5 + m52) c53 ((X ++ parB 6 ((bs.drop at_).take 1024)).map bv) from by rw [List.map_append])).pick (A := blkA g1 50 _) (by repeat first | exact .here _ _ | assumption | apply Pick.there)).pick (A := rowA 5 1 A53 _ c53 _) (by repeat first | exact .here _ _ | assumption | apply Pick.there))).front2
        · intro hc12
          have hc12d := of_decide_eq_false hc12
          refine c_exit ?_
          refine ite_t rfl ?_
          refine c_seq ?_
          refine c_region ?_
          refine t_q (q_mv (.slice _ _ _) rfl) ?_
          refine t_q (q_as (.slice _ _ _) rfl) ?_
          refine t_q (q_assign) ?_
          refine t_nil ?_
          refine c_ret ?_
          refine r_two rfl rfl rfl ?_
          first
            | (rw [hE.1, hE.2]; exact ⟨none, 0, 0, rfl, rfl, hS.nil.nilrow 5 1⟩)
            | (rw [pcs_nil (by rw [List.length_drop]; omega), List.append_nil] at hX
               rw [hE0, hL0, ← hX]
               exact ⟨_, _, _, rfl, hm5, hS.front1⟩)
end Go.Proofs.Ytlppgpidakfnlaa
