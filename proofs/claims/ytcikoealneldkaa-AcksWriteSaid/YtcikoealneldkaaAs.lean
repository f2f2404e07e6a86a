/- Tables of acks as bytes: what is written, and read. -/
import Derived.Test.YtcikoealneldkaaAr
namespace Go.Proofs.Ytcikoealneldkaa
open Go Go.RowKit Go.Lib
variable {W : World}

set_option maxRecDepth 100000 in
theorem aput_calls {w : World} {L R : List Asn} {g : Nat} {bs : List UInt8} {n : Int} {s : Nat → Int} (hS : St W w L) (pk : Pick L (wrA g bs) R) (hn : 0 ≤ n ∧ n ≤ 7) (hs : Sb s) (hb : bs.length ≤ 1000000) :
  Calls Try.prog 85 #[.pointer (some ⟨g, 0, none⟩), .agg (tcs n s).toArray] w fun e w' => e = .returned (.tuple #[]) ∧ St W w' (wrA g (bs ++ tabB n.toNat s) :: R) := by
  replace hS := hS.pick pk
  clear pk
  have hl1 := encs_length (ns := [n]) (by simp; omega)
  simp only [List.length_cons, List.length_nil] at hl1
  refine calls_of_wpE (args := [_, _]) Try.func85 rfl rfl rfl ?_
  refine c_seq ?_
  refine c_region ?_
  refine t_box (v := (.agg _)) rfl rfl hS (fun g3 w hS => ?_)
  refine t_nil ?_
  refine c_seq ?_
  refine c_region ?_
  refine t_q (q_mv (.pointer _) rfl) ?_
  refine t_q (q_fieldAddr 0 Try.runUnderlying27 rfl Try.sizeOf3 (by decide) rfl rfl) ?_
  refine t_q (q_load1 Try.isAgg3 rfl (hS.cell (by repeat first | exact .here _ _ | assumption | apply Pick.there) rfl)) ?_
  first | refine t_q (q_conv_u64 Try.runUnderlying3 Try.runUnderlying24 rfl (by omega)) ?_ | refine t_q (q_convm_u64 Try.runUnderlying3 Try.runUnderlying24 rfl) ?_
  refine t_build_ints [_] Try.runUnderlying191 Try.sizeOf24 Try.zeroValue24 rfl rfl (by decide) hS (fun g8 w hS => ?_)
  refine t_call Try.call42 (Nat_calls hS (by repeat first | exact .here _ _ | assumption | apply Pick.there) (fun _ h => h.rowInts (.here _ _) rfl) (by simp; omega) (by simp) (by omega)) rfl ?_
  rintro e w ⟨rfl, hS⟩
  refine ⟨_, rfl, ?_⟩
  replace hS := hS.swap
  refine t_nil ?_
  refine c_region ?_
  refine t_q (q_mv (.pointer _) rfl) ?_
  refine t_q (q_fieldAddr 1 Try.runUnderlying27 rfl Try.sizeOf25 (by decide) rfl rfl) ?_
  refine t_q (q_fieldAddr 0 Try.runUnderlying27 rfl Try.sizeOf3 (by decide) rfl rfl) ?_
  refine t_q (q_load1 Try.isAgg3 rfl (hS.cell (by repeat first | exact .here _ _ | assumption | apply Pick.there) rfl)) ?_
  refine t_q (q_cast (v' := .slice (some ⟨g3, 0 + 1, none⟩) ((List.range n.toNat).map s).length 7) (q_slice_arr Try.runUnderlying25 Try.sizeOf24 rfl ⟨_, _, rfl, by omega, by omega, rfl⟩) (by rw [List.length_map, List.length_range])) ?_
  refine t_call Try.call42 (Nat_calls hS (by repeat first | exact .here _ _ | assumption | apply Pick.there) (fun _ h => tab_rd h (by repeat first | exact .here _ _ | assumption | apply Pick.there) (by omega)) (tab_mem hs) (by simp; omega) (by rw [List.length_append]; omega)) rfl ?_
  rintro e w ⟨rfl, hS⟩
  refine ⟨_, rfl, ?_⟩
  refine t_nil ?_
  refine r_none rfl  ?_
  exact ⟨rfl, hS.swap.recast (congrArg (wrA g) (by rw [tabB, encs_one, List.append_assoc]))⟩
set_option maxRecDepth 100000 in
theorem qaput_calls {A : Option Addr} {c : Nat} {L : AckL} {n : Int} (hR : RdA W A L) (hm : L.length ≤ 1000000) (hn : 0 ≤ n ∧ n ≤ 7) :
  Calls Try.prog 87 #[.agg #[.int .i64 n, .slice A L.length c]] W fun e w' => ∃ A' m c', e = .returned (.slice A' m c') ∧ m = (tabB n.toNat (ofF L)).length ∧ St W w' [rowA 5 1 A' m c' ((tabB n.toNat (ofF L)).map bv)] := by
  have hS := St.init W
  have hb := ofF_b L
  refine calls_of_wpE (args := [_]) Try.func87 rfl rfl rfl ?_
  refine c_seq ?_
  refine c_region ?_
  refine t_box (v := (.agg _)) rfl rfl hS (fun g1 w hS => ?_)
  refine t_q (q_assign) ?_
  refine t_nil ?_
  refine c_seq ?_
  refine c_region ?_
  refine t_q (q_fieldAddr 0 Try.runUnderlying35 rfl Try.sizeOf3 (by decide) rfl rfl) ?_
  refine t_q (q_load1 Try.isAgg3 rfl (hS.cell (by repeat first | exact .here _ _ | assumption | apply Pick.there) rfl)) ?_
  first | refine t_q (q_conv_u64 Try.runUnderlying3 Try.runUnderlying24 rfl (by omega)) ?_ | refine t_q (q_convm_u64 Try.runUnderlying3 Try.runUnderlying24 rfl) ?_
  refine t_call Try.call43 (qwNat hS (by omega) (by omega)) rfl ?_
  rintro e w ⟨A8, n8, c8, rfl, hn8, hS⟩
  refine ⟨_, rfl, ?_⟩
  refine t_q (q_as (.slice _ _ _) rfl) ?_
  refine t_nil ?_
  refine c_seq ?_
  refine c_seq ?_
  refine c_region ?_
  refine t_q (q_assign) ?_
  refine t_nil ?_
  refine c_block ?_
  refine c_loop [3, 4, 9, 10, 11, 12, 13, 14, 15, 16, 17, 18, 19, 20] (fun k σ w => ∃ (i : Nat) (A' : Option Addr) (m c' : Nat), σ 4 = .int .i64 (i : Int) ∧ σ 3 = .slice A' m c' ∧ i ≤ n.toNat ∧ n.toNat - i ≤ k ∧ m = (tabK n.toNat i (ofF L)).length ∧ St W w [rowA 5 1 A' m c' ((tabK n.toNat i (ofF L)).map bv), blkA g1 35 [.int .i64 n, .slice A L.length c]]) (n.toNat) rfl (⟨0, _, _, _, rfl, rfl, by omega, by omega, (by rw [hn8]; simp [tabK, encs]), hS.recast (congrArg (rowA 5 1 _ _ _) (by simp [tabK, encs]))⟩) ?_
  skip
  rintro k σ w ⟨i, A', m, c', h4, h3, hi, hk, hmm, hS⟩
  refine c_know 4 h4 ?_
  refine c_know 3 h3 ?_
  clear h4 h3
  have hlk := tabK_len (n := n.toNat) (i := i) (by omega) (by omega) hb
  refine c_seq ?_
  refine c_seq ?_
  refine c_region ?_
  refine t_q (q_mv (.int _ _) rfl) ?_
  refine t_q (q_fieldAddr 0 Try.runUnderlying35 rfl Try.sizeOf3 (by decide) rfl rfl) ?_
  refine t_q (q_load1 Try.isAgg3 rfl (hS.cell (by repeat first | exact .here _ _ | assumption | apply Pick.there) rfl)) ?_
  refine t_q (q_lss rfl rfl) ?_
  refine t_nil ?_
  refine c_cond rfl ?_ ?_
  · intro hc3
    have hc3d := of_decide_eq_true hc3
    refine c_skip ?_
    refine c_seq ?_
    refine c_block ?_
    refine c_region ?_
    refine t_q (q_mv (.slice _ _ _) rfl) ?_
    refine t_q (q_load_blk Try.isAgg35 Try.sizeOf35 rfl (hS.blk (by repeat first | exact .here _ _ | assumption | apply Pick.there)) rfl) ?_
    refine t_q (q_mv (.int _ _) rfl) ?_
    refine t_call Try.call138 (of2_calls (hR.st hS) hm) rfl ?_
    rintro e w ⟨rfl, hT⟩
    refine ⟨_, rfl, ?_⟩
    replace hS := hS.after hT
    have hbi : 0 ≤ ((ofN L (i : Int) : Nat) : Int) ∧ ((ofN L (i : Int) : Nat) : Int) < 4294967296 := hb i
    have hl19 := enc_ten (n := (((ofN L (i : Int) : Nat) : Int)).toNat) (by omega)
    refine t_call Try.call43 (qwNat hS (by omega) (by omega)) rfl ?_
    rintro e w ⟨A19, n19, c19, rfl, hn19, hS⟩
    refine ⟨_, rfl, ?_⟩
    refine t_append_own (size := 1) (bytes := 1) Try.underlying48 (info_of Try.type5) rfl rfl rfl rfl (by decide) hS (.here _ _) (by repeat first | exact .here _ _ | assumption | apply Pick.there) rfl rfl (by first | exact allOne_bv _ | exact allOne_ints _ _ | rfl) (by unfold maxLen; omega) (by omega) (fun A20 c20 w hS => ?_)
    refine t_q (q_as (.slice _ _ _) rfl) ?_
    refine t_nil ?_
    refine c_region ?_
    refine t_q (q_mv (.int _ _) rfl) ?_
    refine t_q (q_add_i64 rfl rfl (by omega)) ?_
    refine t_q (q_as (.int _ _) rfl) ?_
    refine t_nil ?_
    refine ⟨k - 1, by omega, i + 1, A20, _, c20, rfl, rfl, by omega, by omega, ?_, (hS.recast (congrArg (rowA 5 1 _ _ _) ?_))⟩
    · rw [tabK_snoc, List.length_append, hmm, hn19]; rfl
    · rw [tabK_snoc, List.map_append]; rfl
  · intro hc3
    have hc3d := of_decide_eq_false hc3
    refine c_exit ?_
    refine ite_t rfl ?_
    refine c_seq ?_
    refine c_region ?_
    refine t_q (q_mv (.slice _ _ _) rfl) ?_
    refine t_q (q_as (.slice _ _ _) rfl) ?_
    refine t_nil ?_
    refine c_ret ?_
    refine r_one rfl rfl ?_
    obtain rfl : i = n.toNat := by omega
    exact ⟨_, _, _, rfl, hmm, hS.front1⟩
theorem rNat7 {w : World} {L R : List Asn} {g : Nat} {s : Rs} (hS : St W w L) (pk : Pick L (rdrA W 106 g s) R) : Calls Try.prog 59 #[.pointer (some ⟨g, 0, none⟩), .int .u64 7] w fun e w' => e = .returned (.int .u64 (rN s : Int)) ∧ St W w' (rdrA W 106 g (rk s 0).2 :: R) := rNat (most := 7) hS pk (by decide) (by decide)
theorem rNat32 {w : World} {L R : List Asn} {g : Nat} {s : Rs} (hS : St W w L) (pk : Pick L (rdrA W 106 g s) R) : Calls Try.prog 59 #[.pointer (some ⟨g, 0, none⟩), .int .u64 4294967295] w fun e w' => e = .returned (.int .u64 (((s.nat m32).1 : Nat) : Int)) ∧ St W w' (rdrA W 106 g (s.nat m32).2 :: R) := rNat (most := 4294967295) hS pk (by decide) (by decide)
theorem qNat7 {w : World} {L R : List Asn} {g : Nat} {s : Rs} (hS : St W w L) (pk : Pick L (rdrA W 81 g s) R) : Calls Try.prog 60 #[.pointer (some ⟨g, 0, none⟩), .int .u64 7] w fun e w' => e = .returned (.int .u64 (rN s : Int)) ∧ St W w' (rdrA W 81 g (rk s 0).2 :: R) := qNat (most := 7) hS pk (by decide) (by decide)
theorem qNat32 {w : World} {L R : List Asn} {g : Nat} {s : Rs} (hS : St W w L) (pk : Pick L (rdrA W 81 g s) R) : Calls Try.prog 60 #[.pointer (some ⟨g, 0, none⟩), .int .u64 4294967295] w fun e w' => e = .returned (.int .u64 (((s.nat m32).1 : Nat) : Int)) ∧ St W w' (rdrA W 81 g (s.nat m32).2 :: R) := qNat (most := 4294967295) hS pk (by decide) (by decide)
set_option maxRecDepth 100000 in
theorem anext_calls {w : World} {R : List Asn} {g g1 : Nat} {s : Rs} (hS : St W w (rdrA W 106 g s :: blkA g1 77 [.pointer (some ⟨g, 0, none⟩)] :: R)) :
  Calls Try.prog 160 #[.pointer (some ⟨g1, 0, none⟩)] w fun e w' => e = .returned (.int .u64 (((s.nat m32).1 : Nat) : Int)) ∧ St W w' (rdrA W 106 g (s.nat m32).2 :: blkA g1 77 [.pointer (some ⟨g, 0, none⟩)] :: R) := by
  refine calls_of_wpE (args := [_]) Try.func160 rfl rfl rfl ?_
  refine c_seq ?_
  refine c_region ?_
  refine t_q (q_assign) ?_
  refine t_nil ?_
  refine c_seq ?_
  refine c_region ?_
  refine t_q (q_load1 Try.isAgg77 rfl (hS.cell (by repeat first | exact .here _ _ | assumption | apply Pick.there) rfl)) ?_
  refine t_call Try.call59 (rNat32 hS (.here _ _)) rfl ?_
  rintro e w ⟨rfl, hS⟩
  refine ⟨_, rfl, ?_⟩
  refine t_q (q_as (.int _ _) rfl) ?_
  refine t_nil ?_
  refine c_ret ?_
  refine r_one rfl rfl ?_
  exact ⟨rfl, hS⟩
set_option maxRecDepth 100000 in
theorem aread_calls {w : World} {L R : List Asn} {g : Nat} {s : Rs} (hS : St W w L) (pk : Pick L (rdrA W 106 g s) R) :
  Calls Try.prog 86 #[.pointer (some ⟨g, 0, none⟩)] w fun e w' => e = .returned (.tuple #[.agg (tcs (aN s) (aF s)).toArray, .bool (ackOk s)]) ∧ St W w' (rdrA W 106 g (aS s) :: R) := by
  replace hS := hS.pick pk
  clear pk
  have hN := rN_le s
  refine calls_of_wpE (args := [_]) Try.func86 rfl rfl rfl ?_
  refine c_seq ?_
  refine c_region ?_
  refine t_box (v := (.pointer _)) rfl rfl hS (fun g1 w hS => ?_)
  refine t_alloc Try.zeroValue27 rfl hS (fun g2 w hS => ?_)
  refine t_q (q_assign) ?_
  refine t_nil ?_
  refine c_seq ?_
  refine c_region ?_
  refine t_q (q_load1 Try.isAgg77 rfl (hS.cell (by repeat first | exact .here _ _ | assumption | apply Pick.there) rfl)) ?_
  refine t_call Try.call59 (rNat7 hS (by repeat first | exact .here _ _ | assumption | apply Pick.there)) rfl ?_
  rintro e w ⟨rfl, hS⟩
  refine ⟨_, rfl, ?_⟩
  refine t_q (q_conv_i64 Try.runUnderlying24 Try.runUnderlying3 rfl (by omega)) ?_
  refine t_q (q_build (qs := [(0, 1), (1, 7)]) [(.int _ _), (.int _ _), (.int _ _), (.int _ _), (.int _ _), (.int _ _), (.int _ _), (.int _ _)] Try.zeroValue27 Try.runUnderlying27 ⟨rfl, Try.sizeOf3, rfl, Try.sizeOf25, trivial⟩ rfl rfl) ?_
  refine t_alloc Try.zeroValue27 rfl hS (fun g4 w hS => ?_)
  refine t_store (v := (.agg _)) Try.sizeOf27 hS (by repeat first | exact .here _ _ | assumption | apply Pick.there) rfl rfl rfl rfl rfl rfl (fun w hS => ?_)
  refine t_nil ?_
  refine c_seq ?_
  refine c_region ?_
  refine t_q (q_makeFunc rfl) ?_
  refine t_q (q_as (.func _ _ _) rfl) ?_
  refine t_nil ?_
  refine c_seq ?_
  refine c_seq ?_
  refine c_region ?_
  refine t_q (q_fieldAddr 0 Try.runUnderlying27 rfl Try.sizeOf3 (by decide) rfl rfl) ?_
  refine t_q (q_load1 Try.isAgg3 rfl (hS.cell (by repeat first | exact .here _ _ | assumption | apply Pick.there) rfl)) ?_
  refine t_q (q_move) ?_
  refine t_nil ?_
  refine c_block ?_
  refine c_loop [6, 14, 15, 16, 17, 18, 19, 20, 21, 22] (fun k σ w => ∃ i : Nat, σ 14 = .int .i64 (i : Int) ∧ i ≤ rN s ∧ rN s - i ≤ k ∧ St W w (rdrA W 106 g (rk s i).2 :: blkA g1 77 [.pointer (some ⟨g, 0, none⟩)] :: blkA g4 27 (tcs (rN s) (rk s i).1) :: blkA g2 27 (tcs 0 (fun _ => 0)) :: R)) (rN s) rfl (⟨0, rfl, by omega, by omega, ((((hS.pick (A := blkA g2 27 (tcs 0 (fun _ => 0))) (by repeat first | exact .here _ _ | assumption | apply Pick.there)).pick (A := blkA g4 27 (tcs (rN s) (rk s 0).1)) (by repeat first | exact .here _ _ | assumption | apply Pick.there)).pick (A := blkA g1 77 _) (by repeat first | exact .here _ _ | assumption | apply Pick.there)).pick (A := rdrA W 106 g _) (by repeat first | exact .here _ _ | assumption | apply Pick.there))⟩) ?_
  skip
  rintro k σ w ⟨i, h14, hi, hk, hS⟩
  refine c_know 14 h14 ?_
  clear h14
  refine c_seq ?_
  refine c_region ?_
  refine t_q (q_lss rfl rfl) ?_
  refine t_nil ?_
  refine c_seq ?_
  refine c_cond rfl ?_ ?_
  · intro hc3
    have hc3d := of_decide_eq_true hc3
    refine c_skip ?_
    refine c_seq ?_
    refine c_block ?_
    refine c_seq ?_
    refine c_region ?_
    refine t_q (q_mv (.int _ _) rfl) ?_
    refine t_q (q_as (.int _ _) rfl) ?_
    refine t_nil ?_
    refine c_region ?_
    refine t_q (q_mv (.int _ _) rfl) ?_
    refine t_q (q_mv (.func _ _ _) rfl) ?_
    refine t_callv Try.call160 rfl (anext_calls hS) rfl ?_
    rintro e w ⟨rfl, hS⟩
    refine ⟨_, rfl, ?_⟩
    refine t_q (q_fieldAddr 1 Try.runUnderlying27 rfl Try.sizeOf25 (by decide) rfl rfl) ?_
    first | refine t_q (q_arr_nat Try.runUnderlying25 Try.sizeOf24 rfl rfl (by omega)) ?_ | refine t_q (q_arr Try.runUnderlying25 Try.sizeOf24 rfl rfl (by omega)) ?_
    refine t_store (v := (.int _ _)) Try.sizeOf24 hS (by repeat first | exact .here _ _ | assumption | apply Pick.there) rfl rfl rfl rfl rfl (Nat.ble_eq_true_of_le (by show 0 + 1 + i * 1 + 1 ≤ 8; omega)) (fun w hS => ?_)
    refine t_nil ?_
    refine c_region ?_
    refine t_q (q_add_i64 rfl rfl (by omega)) ?_
    refine t_q (q_mv (.int _ _) rfl) ?_
    refine t_nil ?_
    replace hS := hS.recast (congrArg (blkA g4 27 ·) (tset (n := rN s) (s := (rk s i).1) (i := i) (x := (((rk s i).2.nat m32).1 : Nat)) (by omega)))
    exact ⟨k - 1, by omega, i + 1, rfl, by omega, by omega, ((((hS.pick (A := blkA g2 27 (tcs 0 (fun _ => 0))) (by repeat first | exact .here _ _ | assumption | apply Pick.there)).pick (A := blkA g4 27 (tcs (rN s) (rk s (i + 1)).1)) (by repeat first | exact .here _ _ | assumption | apply Pick.there)).pick (A := blkA g1 77 _) (by repeat first | exact .here _ _ | assumption | apply Pick.there)).pick (A := rdrA W 106 g (rk s (i + 1)).2) (by repeat first | exact .here _ _ | assumption | apply Pick.there))⟩
  · intro hc3
    have hc3d := of_decide_eq_false hc3
    obtain rfl : i = rN s := by omega
    refine c_exit ?_
    refine ite_t rfl ?_
    refine c_seq ?_
    refine c_seq ?_
    refine c_region ?_
    refine t_q (q_load1 Try.isAgg77 rfl (hS.cell (by repeat first | exact .here _ _ | assumption | apply Pick.there) rfl)) ?_
    refine t_call Try.call70 (rBad hS (by repeat first | exact .here _ _ | assumption | apply Pick.there)) rfl ?_
    rintro e w ⟨rfl, hS⟩
    refine ⟨_, rfl, ?_⟩
    refine t_q (q_mv (.bool _) rfl) ?_
    refine t_case 25 rfl ?_ ?_
    · intro hg7
      refine t_no rfl rfl (by rw [hg7]; decide) ?_
      refine t_no rfl rfl (by rw [hg7]; decide) ?_
      refine t_no rfl rfl (by rw [hg7]; decide) ?_
      refine t_q (q_pick_t rfl hg7) ?_
      refine t_nil ?_
      refine c_cond_t rfl rfl ?_
      have hno : ackOk s = false := by first | exact ack_f1 (by assumption) | exact ack_f2 (by omega)
      refine c_seq ?_
      refine c_region ?_
      refine t_q (q_load1 Try.isAgg77 rfl (hS.cell (by repeat first | exact .here _ _ | assumption | apply Pick.there) rfl)) ?_
      refine t_call Try.call67 (rFail hS (by repeat first | exact .here _ _ | assumption | apply Pick.there)) rfl ?_
      rintro e w ⟨rfl, hS⟩
      refine ⟨_, rfl, ?_⟩
      refine t_nil ?_
      refine c_seq ?_
      refine c_region ?_
      refine t_q (q_build (qs := [(0, 1), (1, 7)]) [(.int _ _), (.int _ _), (.int _ _), (.int _ _), (.int _ _), (.int _ _), (.int _ _), (.int _ _)] Try.zeroValue27 Try.runUnderlying27 ⟨rfl, Try.sizeOf3, rfl, Try.sizeOf25, trivial⟩ rfl rfl) ?_
      refine t_store (v := (.agg _)) Try.sizeOf27 hS (by repeat first | exact .here _ _ | assumption | apply Pick.there) rfl rfl rfl rfl rfl rfl (fun w hS => ?_)
      refine t_q (q_assign) ?_
      refine t_nil ?_
      refine c_ret ?_
      refine r_two rfl (res1_cellN Try.isAgg27 Try.sizeOf27 rfl (hS.blk (by repeat first | exact .here _ _ | assumption | apply Pick.there)) rfl) rfl ?_
      first
        | (obtain ⟨e1, e2, e3, e4⟩ := ack_no hno; rw [e1, e2, e3, hno]; exact ⟨rfl, (hS.pick (A := rdrA W 106 g _) (by repeat first | exact .here _ _ | assumption | apply Pick.there)).swap.swap.swap⟩)
        | (obtain ⟨e1, e2, e3, e4⟩ := ack_yes hyes; rw [e1, e2, e3, hyes]; exact ⟨rfl, (hS.pick (A := rdrA W 106 g _) (by repeat first | exact .here _ _ | assumption | apply Pick.there)).swap.swap.swap⟩)
    · intro hg7
      refine t_yes rfl rfl hg7 ?_
      refine t_q (q_fieldAddr 0 Try.runUnderlying27 rfl Try.sizeOf3 (by decide) rfl rfl) ?_
      refine t_yes rfl rfl hg7 ?_
      refine t_q (q_load1 Try.isAgg3 rfl (hS.cell (by repeat first | exact .here _ _ | assumption | apply Pick.there) rfl)) ?_
      refine t_yes rfl rfl hg7 ?_
      refine t_q (q_eql rfl rfl) ?_
      refine t_q (q_pick_f rfl hg7) ?_
      refine t_nil ?_
      refine c_cond rfl ?_ ?_
      · intro hc10
        have hc10d := of_decide_eq_true hc10
        have hno : ackOk s = false := by first | exact ack_f1 (by assumption) | exact ack_f2 (by omega)
        refine c_seq ?_
        refine c_region ?_
        refine t_q (q_load1 Try.isAgg77 rfl (hS.cell (by repeat first | exact .here _ _ | assumption | apply Pick.there) rfl)) ?_
        refine t_call Try.call67 (rFail hS (by repeat first | exact .here _ _ | assumption | apply Pick.there)) rfl ?_
        rintro e w ⟨rfl, hS⟩
        refine ⟨_, rfl, ?_⟩
        refine t_nil ?_
        refine c_seq ?_
        refine c_region ?_
        refine t_q (q_build (qs := [(0, 1), (1, 7)]) [(.int _ _), (.int _ _), (.int _ _), (.int _ _), (.int _ _), (.int _ _), (.int _ _), (.int _ _)] Try.zeroValue27 Try.runUnderlying27 ⟨rfl, Try.sizeOf3, rfl, Try.sizeOf25, trivial⟩ rfl rfl) ?_
        refine t_store (v := (.agg _)) Try.sizeOf27 hS (by repeat first | exact .here _ _ | assumption | apply Pick.there) rfl rfl rfl rfl rfl rfl (fun w hS => ?_)
        refine t_q (q_assign) ?_
        refine t_nil ?_
        refine c_ret ?_
        refine r_two rfl (res1_cellN Try.isAgg27 Try.sizeOf27 rfl (hS.blk (by repeat first | exact .here _ _ | assumption | apply Pick.there)) rfl) rfl ?_
        first
          | (obtain ⟨e1, e2, e3, e4⟩ := ack_no hno; rw [e1, e2, e3, hno]; exact ⟨rfl, (hS.pick (A := rdrA W 106 g _) (by repeat first | exact .here _ _ | assumption | apply Pick.there)).swap.swap.swap⟩)
          | (obtain ⟨e1, e2, e3, e4⟩ := ack_yes hyes; rw [e1, e2, e3, hyes]; exact ⟨rfl, (hS.pick (A := rdrA W 106 g _) (by repeat first | exact .here _ _ | assumption | apply Pick.there)).swap.swap.swap⟩)
      · intro hc10
        have hc10d := of_decide_eq_false hc10
        have hyes : ackOk s = true := ack_t (by assumption) (by omega)
        refine c_skip ?_
        refine c_seq ?_
        refine c_region ?_
        refine t_q (q_load_blk Try.isAgg27 Try.sizeOf27 rfl (hS.blk (by repeat first | exact .here _ _ | assumption | apply Pick.there)) rfl) ?_
        refine t_store (v := (.agg _)) Try.sizeOf27 hS (by repeat first | exact .here _ _ | assumption | apply Pick.there) rfl rfl rfl rfl rfl rfl (fun w hS => ?_)
        refine t_q (q_assign) ?_
        refine t_nil ?_
        refine c_ret ?_
        refine r_two rfl (res1_cellN Try.isAgg27 Try.sizeOf27 rfl (hS.blk (by repeat first | exact .here _ _ | assumption | apply Pick.there)) rfl) rfl ?_
        first
          | (obtain ⟨e1, e2, e3, e4⟩ := ack_no hno; rw [e1, e2, e3, hno]; exact ⟨rfl, (hS.pick (A := rdrA W 106 g _) (by repeat first | exact .here _ _ | assumption | apply Pick.there)).swap.swap.swap⟩)
          | (obtain ⟨e1, e2, e3, e4⟩ := ack_yes hyes; rw [e1, e2, e3, hyes]; exact ⟨rfl, (hS.pick (A := rdrA W 106 g _) (by repeat first | exact .here _ _ | assumption | apply Pick.there)).swap.swap.swap⟩)
set_option maxRecDepth 100000 in
theorem qaread_calls {w : World} {L R : List Asn} {g : Nat} {s : Rs} (hS : St W w L) (pk : Pick L (rdrA W 81 g s) R) :
  Calls Try.prog 88 #[.pointer (some ⟨g, 0, none⟩)] w fun e w' => ∃ A' m c', e = .returned (.tuple #[.agg #[.int .i64 (aN s), .slice A' m c'], .bool (ackOk s)]) ∧ m = (aL s).length ∧ St W w' (rdrA W 81 g (aS s) :: rowA 189 2 A' m c' ((aL s).flatMap ackC) :: R) := by
  replace hS := hS.pick pk
  clear pk
  have hN := rN_le s
  refine calls_of_wpE (args := [_]) Try.func88 rfl rfl rfl ?_
  refine c_seq ?_
  refine c_region ?_
  refine t_alloc Try.zeroValue35 rfl hS (fun g2 w hS => ?_)
  refine t_q (q_assign) ?_
  refine t_nil ?_
  refine c_seq ?_
  refine c_region ?_
  refine t_q (q_mv (.pointer _) rfl) ?_
  refine t_call Try.call60 (qNat7 hS (by repeat first | exact .here _ _ | assumption | apply Pick.there)) rfl ?_
  rintro e w ⟨rfl, hS⟩
  refine ⟨_, rfl, ?_⟩
  refine t_q (q_conv_i64 Try.runUnderlying24 Try.runUnderlying3 rfl (by omega)) ?_
  refine t_q (q_build (qs := [(0, 1), (1, 1)]) [(.int _ _), (.slice _ _ _)] Try.zeroValue35 Try.runUnderlying35 ⟨rfl, Try.sizeOf3, rfl, Try.sizeOf33, trivial⟩ rfl rfl) ?_
  refine t_alloc Try.zeroValue35 rfl hS (fun g4 w hS => ?_)
  refine t_store (v := (.agg _)) Try.sizeOf35 hS (by repeat first | exact .here _ _ | assumption | apply Pick.there) rfl rfl rfl rfl rfl rfl (fun w hS => ?_)
  refine t_nil ?_
  refine c_seq ?_
  refine c_seq ?_
  refine c_region ?_
  refine t_q (q_assign) ?_
  refine t_nil ?_
  refine c_block ?_
  refine c_loop [5, 6, 7, 12, 13, 14, 15, 16, 17, 18, 19, 20, 21, 22, 23, 24, 25, 26, 27, 28, 29, 30, 31, 32, 33, 34, 35, 36] (fun k σ w => ∃ (i : Nat) (A' : Option Addr) (m c' : Nat), σ 5 = .int .i64 (i : Int) ∧ i ≤ rN s ∧ rN s - i ≤ k ∧ m = (rL s i).length ∧ St W w (rdrA W 81 g (rk s i).2 :: blkA g4 35 [.int .i64 (rN s), .slice A' m c'] :: rowA 189 2 A' m c' ((rL s i).flatMap ackC) :: blkA g2 35 [.int .i64 0, .slice none 0 0] :: R)) (rN s) rfl (⟨0, none, 0, 0, rfl, by omega, by omega, rfl, (((((hS.nilrow 189 2).pick (A := blkA g2 35 [.int .i64 0, .slice none 0 0]) (by repeat first | exact .here _ _ | assumption | apply Pick.there)).pick (A := rowA 189 2 none 0 0 []) (by repeat first | exact .here _ _ | assumption | apply Pick.there)).pick (A := blkA g4 35 _) (by repeat first | exact .here _ _ | assumption | apply Pick.there)).pick (A := rdrA W 81 g (rk s (0)).2) (by repeat first | exact .here _ _ | assumption | apply Pick.there))⟩) ?_
  skip
  rintro k σ w ⟨i, A', m, c', h5, hi, hk, hmm, hS⟩
  refine c_know 5 h5 ?_
  clear h5
  have hLl := rL_len s i
  obtain ⟨kO, hkO⟩ : ∃ x, x = k := ⟨_, rfl⟩
  rw [← hkO] at hk
  refine c_seq ?_
  refine c_seq ?_
  refine c_region ?_
  refine t_q (q_mv (.int _ _) rfl) ?_
  refine t_q (q_fieldAddr 0 Try.runUnderlying35 rfl Try.sizeOf3 (by decide) rfl rfl) ?_
  refine t_q (q_load1 Try.isAgg3 rfl (hS.cell (by repeat first | exact .here _ _ | assumption | apply Pick.there) rfl)) ?_
  refine t_q (q_lss rfl rfl) ?_
  refine t_nil ?_
  refine c_cond rfl ?_ ?_
  · intro hc3
    have hc3d := of_decide_eq_true hc3
    refine c_skip ?_
    refine c_seq ?_
    refine c_block ?_
    refine c_seq ?_
    refine c_region ?_
    refine t_q (q_mv (.pointer _) rfl) ?_
    refine t_call Try.call60 (qNat32 hS (by repeat first | exact .here _ _ | assumption | apply Pick.there)) rfl ?_
    rintro e w ⟨rfl, hS⟩
    refine ⟨_, rfl, ?_⟩
    refine t_q (q_as (.int _ _) rfl) ?_
    refine t_nil ?_
    refine c_seq ?_
    refine c_region ?_
    refine t_q (q_assign) ?_
    refine t_nil ?_
    refine c_block ?_
    refine c_loop [6, 7, 20, 21, 22, 23, 24, 25, 26, 27, 28, 29, 30, 31, 32, 33, 34, 35, 36] (fun k σ w => ∃ (v Y : Nat) (A' : Option Addr) (m c' : Nat), σ 7 = .int .i64 ((v : Int) + 1) ∧ σ 6 = .int .u64 (Y : Int) ∧ Y = ((rk s i).2.nat m32).1 / 2 ^ v ∧ Y ≤ 4294967295 ∧ v ≤ 32 ∧ 32 - v ≤ k ∧ m = (rL s i ++ bitsL (i : Int) ((rk s i).2.nat m32).1 v).length ∧ St W w (rdrA W 81 g (rk s (i + 1)).2 :: blkA g4 35 [.int .i64 (rN s), .slice A' m c'] :: rowA 189 2 A' m c' ((rL s i ++ bitsL (i : Int) ((rk s i).2.nat m32).1 v).flatMap ackC) :: blkA g2 35 [.int .i64 0, .slice none 0 0] :: R)) (32) rfl (⟨0, _, A', m, c', rfl, rfl, (by rw [Nat.pow_zero, Nat.div_one]), (rk s i).2.nat_le m32, by omega, by omega, (by rw [bitsL, List.append_nil]; exact hmm), (by rw [bitsL, List.append_nil]; exact hS)⟩) ?_
    skip
    rintro k σ w ⟨v, Y, A', m, c', h7, h6, hY, hYl, hv, hk2, hmm, hS⟩
    refine c_know 7 h7 ?_
    refine c_know 6 h6 ?_
    clear h7 h6
    have hBl := bitsL_len (i := (i : Int)) (x := ((rk s i).2.nat m32).1) v
    rw [List.length_append] at hmm
    refine c_seq ?_
    refine c_seq ?_
    refine c_region ?_
    refine t_q (q_mv (.int _ _) rfl) ?_
    refine t_q (q_leq rfl rfl) ?_
    refine t_nil ?_
    refine c_cond rfl ?_ ?_
    · intro hc6
      have hc6d := of_decide_eq_true hc6
      refine c_skip ?_
      refine c_seq ?_
      refine c_block ?_
      refine c_seq ?_
      refine c_seq ?_
      refine c_region ?_
      refine t_q (q_mv (.int _ _) rfl) ?_
      refine t_q (q_rem_n rfl rfl (by omega) (by omega)) ?_
      refine t_q (q_eql rfl rfl) ?_
      refine t_nil ?_
      refine c_cond rfl ?_ ?_
      · intro hc8
        have hc8d := of_decide_eq_true hc8
        have hbit : ((rk s i).2.nat m32).1 / 2 ^ v % 2 = 1 := by rw [← hY]; omega
        refine c_region ?_
        refine t_q (q_fieldAddr 1 Try.runUnderlying35 rfl Try.sizeOf33 (by decide) rfl rfl) ?_
        refine t_q (q_load1 Try.isAgg33 rfl (hS.cell (by repeat first | exact .here _ _ | assumption | apply Pick.there) rfl)) ?_
        refine t_q (q_mv (.int _ _) rfl) ?_
        refine t_q (q_mv (.int _ _) rfl) ?_
        refine t_q (q_build (qs := [(0, 1), (1, 1)]) [(.int _ _), (.int _ _)] Try.zeroValue189 Try.runUnderlying189 ⟨rfl, Try.sizeOf3, rfl, Try.sizeOf3, trivial⟩ rfl rfl) ?_
        refine t_buildSlice Try.runUnderlying33 Try.sizeOf189 Try.zeroValue189 rfl rfl (by intro v hv; simp at hv; try (first | (subst hv; rfl) | (rcases hv with rfl | rfl <;> rfl))) (by decide) (by decide) hS (fun g32 w hS => ?_)
        refine t_append_own (size := 2) (bytes := 16) Try.underlying33 (info_of Try.type189) rfl rfl rfl rfl (by decide) hS (by repeat first | exact .here _ _ | assumption | apply Pick.there) (by repeat first | exact .here _ _ | assumption | apply Pick.there) rfl rfl (by first | exact allOne_bv _ | exact allOne_ints _ _ | rfl) (by unfold maxLen; omega) (by omega) (fun A33 c33 w hS => ?_)
        refine t_q (q_fieldAddr 1 Try.runUnderlying35 rfl Try.sizeOf33 (by decide) rfl rfl) ?_
        refine t_store (v := (.slice _ _ _)) Try.sizeOf33 hS (by repeat first | exact .here _ _ | assumption | apply Pick.there) rfl rfl rfl rfl rfl rfl (fun w hS => ?_)
        refine t_nil ?_
        refine c_region ?_
        refine t_q (q_mv (.int _ _) rfl) ?_
        refine t_q (q_cast (v' := .int .u64 ((Y / 2 : Nat) : Int)) (q_quo_n rfl rfl (by omega) (by omega) (wrap_u64 (by omega))) (by congr 1)) ?_
        refine t_q (q_as (.int _ _) rfl) ?_
        refine t_nil ?_
        refine c_region ?_
        refine t_q (q_mv (.int _ _) rfl) ?_
        refine t_q (q_cast (v' := .int .i64 (((v + 1 : Nat) : Int) + 1)) (q_add_i64 rfl rfl (by omega)) (by congr 1)) ?_
        refine t_q (q_as (.int _ _) rfl) ?_
        refine t_nil ?_
        have hY2 : Y / 2 = ((rk s i).2.nat m32).1 / 2 ^ (v + 1) := by rw [hY, Nat.pow_succ, ← Nat.div_div_eq_div_mul]
        first
          | (have e1 : bitsL (i : Int) ((rk s i).2.nat m32).1 (v + 1) = bitsL (i : Int) ((rk s i).2.nat m32).1 v ++ [((i : Int), (v : Int) + 1)] := by rw [bitsL, if_pos hbit]
             replace hS := (hS.pick (A := rowA 189 2 A33 _ c33 _) (by repeat first | exact .here _ _ | assumption | apply Pick.there)).recast (congrArg (rowA 189 2 A33 _ c33) (show _ = (rL s i ++ bitsL (i : Int) ((rk s i).2.nat m32).1 (v + 1)).flatMap ackC from by rw [e1, ← List.append_assoc]; generalize rL s i ++ bitsL (i : Int) ((rk s i).2.nat m32).1 v = Q; rw [List.flatMap_append]; rfl))
             refine ⟨k - 1, by omega, v + 1, Y / 2, A33, _, c33, rfl, rfl, hY2, by omega, by omega, by omega, ?_, ((((hS.pick (A := blkA g2 35 [.int .i64 0, .slice none 0 0]) (by repeat first | exact .here _ _ | assumption | apply Pick.there)).pick (A := rowA 189 2 A33 _ c33 _) (by repeat first | exact .here _ _ | assumption | apply Pick.there)).pick (A := blkA g4 35 _) (by repeat first | exact .here _ _ | assumption | apply Pick.there)).pick (A := rdrA W 81 g (rk s (i + 1)).2) (by repeat first | exact .here _ _ | assumption | apply Pick.there))⟩
             rw [e1, List.length_append, List.length_append, hmm]; simp only [List.length_cons, List.length_nil]; omega)
          | (have e1 : bitsL (i : Int) ((rk s i).2.nat m32).1 (v + 1) = bitsL (i : Int) ((rk s i).2.nat m32).1 v := by rw [bitsL, if_neg hbit, List.append_nil]
             exact ⟨k - 1, by omega, v + 1, Y / 2, A', m, c', rfl, rfl, hY2, by omega, by omega, by omega, by rw [e1, List.length_append]; exact hmm, by rw [e1]; exact hS⟩)
      · intro hc8
        have hc8d := of_decide_eq_false hc8
        have hbit : ¬ ((rk s i).2.nat m32).1 / 2 ^ v % 2 = 1 := by rw [← hY]; omega
        refine c_skip ?_
        refine c_region ?_
        refine t_q (q_mv (.int _ _) rfl) ?_
        refine t_q (q_cast (v' := .int .u64 ((Y / 2 : Nat) : Int)) (q_quo_n rfl rfl (by omega) (by omega) (wrap_u64 (by omega))) (by congr 1)) ?_
        refine t_q (q_as (.int _ _) rfl) ?_
        refine t_nil ?_
        refine c_region ?_
        refine t_q (q_mv (.int _ _) rfl) ?_
        refine t_q (q_cast (v' := .int .i64 (((v + 1 : Nat) : Int) + 1)) (q_add_i64 rfl rfl (by omega)) (by congr 1)) ?_
        refine t_q (q_as (.int _ _) rfl) ?_
        refine t_nil ?_
        have hY2 : Y / 2 = ((rk s i).2.nat m32).1 / 2 ^ (v + 1) := by rw [hY, Nat.pow_succ, ← Nat.div_div_eq_div_mul]
        first
          | (have e1 : bitsL (i : Int) ((rk s i).2.nat m32).1 (v + 1) = bitsL (i : Int) ((rk s i).2.nat m32).1 v ++ [((i : Int), (v : Int) + 1)] := by rw [bitsL, if_pos hbit]
             replace hS := (hS.pick (A := rowA 189 2 A33 _ c33 _) (by repeat first | exact .here _ _ | assumption | apply Pick.there)).recast (congrArg (rowA 189 2 A33 _ c33) (show _ = (rL s i ++ bitsL (i : Int) ((rk s i).2.nat m32).1 (v + 1)).flatMap ackC from by rw [e1, ← List.append_assoc]; generalize rL s i ++ bitsL (i : Int) ((rk s i).2.nat m32).1 v = Q; rw [List.flatMap_append]; rfl))
             refine ⟨k - 1, by omega, v + 1, Y / 2, A33, _, c33, rfl, rfl, hY2, by omega, by omega, by omega, ?_, ((((hS.pick (A := blkA g2 35 [.int .i64 0, .slice none 0 0]) (by repeat first | exact .here _ _ | assumption | apply Pick.there)).pick (A := rowA 189 2 A33 _ c33 _) (by repeat first | exact .here _ _ | assumption | apply Pick.there)).pick (A := blkA g4 35 _) (by repeat first | exact .here _ _ | assumption | apply Pick.there)).pick (A := rdrA W 81 g (rk s (i + 1)).2) (by repeat first | exact .here _ _ | assumption | apply Pick.there))⟩
             rw [e1, List.length_append, List.length_append, hmm]; simp only [List.length_cons, List.length_nil]; omega)
          | (have e1 : bitsL (i : Int) ((rk s i).2.nat m32).1 (v + 1) = bitsL (i : Int) ((rk s i).2.nat m32).1 v := by rw [bitsL, if_neg hbit, List.append_nil]
             exact ⟨k - 1, by omega, v + 1, Y / 2, A', m, c', rfl, rfl, hY2, by omega, by omega, by omega, by rw [e1, List.length_append]; exact hmm, by rw [e1]; exact hS⟩)
    · intro hc6
      have hc6d := of_decide_eq_false hc6
      obtain rfl : v = 32 := by omega
      refine c_exit ?_
      refine ite_t rfl ?_
      refine c_region ?_
      refine t_q (q_mv (.int _ _) rfl) ?_
      refine t_q (q_add_i64 rfl rfl (by omega)) ?_
      refine t_q (q_as (.int _ _) rfl) ?_
      refine t_nil ?_
      have e32 : rL s i ++ bitsL (i : Int) ((rk s i).2.nat m32).1 32 = rL s (i + 1) := by rw [rL]
      rw [← List.length_append, e32] at hmm
      rw [e32] at hS
      exact ⟨kO - 1, by omega, i + 1, A', m, c', rfl, by omega, by omega, hmm, hS⟩
  · intro hc3
    have hc3d := of_decide_eq_false hc3
    refine c_exit ?_
    refine ite_t rfl ?_
    refine c_seq ?_
    refine c_seq ?_
    obtain rfl : i = rN s := by omega
    obtain ⟨Ar, cr, hRr, hcr, hS⟩ := hS.rdr
    refine c_region ?_
    refine t_q (q_mv (.pointer _) rfl) ?_
    refine t_q (q_nilCheck rfl) ?_
    refine t_q (q_fieldAddr 1 Try.runUnderlying81 rfl Try.sizeOf4 (by decide) rfl rfl) ?_
    refine t_q (q_load1 Try.isAgg4 rfl (hS.cell (by repeat first | exact .here _ _ | assumption | apply Pick.there) rfl)) ?_
    refine t_q (q_mv (.bool _) rfl) ?_
    refine t_case 41 rfl ?_ ?_
    · intro hg10
      refine t_no rfl rfl (by rw [hg10]; decide) ?_
      refine t_no rfl rfl (by rw [hg10]; decide) ?_
      refine t_no rfl rfl (by rw [hg10]; decide) ?_
      refine t_q (q_pick_t rfl hg10) ?_
      refine t_nil ?_
      refine c_cond_t rfl rfl ?_
      have hno : ackOk s = false := by first | exact ack_f1 (by assumption) | exact ack_f2 (by omega)
      refine c_seq ?_
      refine c_region ?_
      refine t_q (q_mv (.pointer _) rfl) ?_
      refine t_call Try.call68 (qFail (hS.unrdr rfl rfl hRr hcr) (.here _ _)) rfl ?_
      rintro e w ⟨rfl, hS⟩
      refine ⟨_, rfl, ?_⟩
      refine t_nil ?_
      refine c_seq ?_
      refine c_region ?_
      refine t_q (q_build (qs := [(0, 1), (1, 1)]) [(.int _ _), (.slice _ _ _)] Try.zeroValue35 Try.runUnderlying35 ⟨rfl, Try.sizeOf3, rfl, Try.sizeOf33, trivial⟩ rfl rfl) ?_
      refine t_store (v := (.agg _)) Try.sizeOf35 hS (by repeat first | exact .here _ _ | assumption | apply Pick.there) rfl rfl rfl rfl rfl rfl (fun w hS => ?_)
      refine t_q (q_assign) ?_
      refine t_nil ?_
      refine c_ret ?_
      refine r_two rfl (res1_cellN Try.isAgg35 Try.sizeOf35 rfl (hS.blk (by repeat first | exact .here _ _ | assumption | apply Pick.there)) rfl) rfl ?_
      first
        | (obtain ⟨e1, e2, e3, e4⟩ := ack_no hno
           rw [e1, e3, e4, hno]
           exact ⟨none, 0, 0, rfl, rfl, (((((hS.pick (A := blkA g2 35 _) (by repeat first | exact .here _ _ | assumption | apply Pick.there)).drop.pick (A := blkA g4 35 _) (by repeat first | exact .here _ _ | assumption | apply Pick.there)).drop.pick (A := rowA 189 2 A' _ c' _) (by repeat first | exact .here _ _ | assumption | apply Pick.there)).drop).nilrow 189 2).pick (A := rdrA W 81 g _) (by repeat first | exact .here _ _ | assumption | apply Pick.there)⟩)
        | (obtain ⟨e1, e2, e3, e4⟩ := ack_yes hyes
           rw [e1, e3, e4, hyes]
           exact ⟨A', _, c', rfl, hmm, ((((hS.pick (A := blkA g2 35 _) (by repeat first | exact .here _ _ | assumption | apply Pick.there)).drop.pick (A := blkA g4 35 _) (by repeat first | exact .here _ _ | assumption | apply Pick.there)).drop.pick (A := rowA 189 2 A' _ c' _) (by repeat first | exact .here _ _ | assumption | apply Pick.there)).pick (A := blkA g 81 _) (by repeat first | exact .here _ _ | assumption | apply Pick.there)).unrdr rfl rfl hRr hcr⟩)
    · intro hg10
      refine t_yes rfl rfl hg10 ?_
      refine t_q (q_fieldAddr 0 Try.runUnderlying35 rfl Try.sizeOf3 (by decide) rfl rfl) ?_
      refine t_yes rfl rfl hg10 ?_
      refine t_q (q_load1 Try.isAgg3 rfl (hS.cell (by repeat first | exact .here _ _ | assumption | apply Pick.there) rfl)) ?_
      refine t_yes rfl rfl hg10 ?_
      refine t_q (q_eql rfl rfl) ?_
      refine t_q (q_pick_f rfl hg10) ?_
      refine t_nil ?_
      refine c_cond rfl ?_ ?_
      · intro hc13
        have hc13d := of_decide_eq_true hc13
        have hno : ackOk s = false := by first | exact ack_f1 (by assumption) | exact ack_f2 (by omega)
        refine c_seq ?_
        refine c_region ?_
        refine t_q (q_mv (.pointer _) rfl) ?_
        refine t_call Try.call68 (qFail (hS.unrdr rfl rfl hRr hcr) (.here _ _)) rfl ?_
        rintro e w ⟨rfl, hS⟩
        refine ⟨_, rfl, ?_⟩
        refine t_nil ?_
        refine c_seq ?_
        refine c_region ?_
        refine t_q (q_build (qs := [(0, 1), (1, 1)]) [(.int _ _), (.slice _ _ _)] Try.zeroValue35 Try.runUnderlying35 ⟨rfl, Try.sizeOf3, rfl, Try.sizeOf33, trivial⟩ rfl rfl) ?_
        refine t_store (v := (.agg _)) Try.sizeOf35 hS (by repeat first | exact .here _ _ | assumption | apply Pick.there) rfl rfl rfl rfl rfl rfl (fun w hS => ?_)
        refine t_q (q_assign) ?_
        refine t_nil ?_
        refine c_ret ?_
        refine r_two rfl (res1_cellN Try.isAgg35 Try.sizeOf35 rfl (hS.blk (by repeat first | exact .here _ _ | assumption | apply Pick.there)) rfl) rfl ?_
        first
          | (obtain ⟨e1, e2, e3, e4⟩ := ack_no hno
             rw [e1, e3, e4, hno]
             exact ⟨none, 0, 0, rfl, rfl, (((((hS.pick (A := blkA g2 35 _) (by repeat first | exact .here _ _ | assumption | apply Pick.there)).drop.pick (A := blkA g4 35 _) (by repeat first | exact .here _ _ | assumption | apply Pick.there)).drop.pick (A := rowA 189 2 A' _ c' _) (by repeat first | exact .here _ _ | assumption | apply Pick.there)).drop).nilrow 189 2).pick (A := rdrA W 81 g _) (by repeat first | exact .here _ _ | assumption | apply Pick.there)⟩)
          | (obtain ⟨e1, e2, e3, e4⟩ := ack_yes hyes
             rw [e1, e3, e4, hyes]
             exact ⟨A', _, c', rfl, hmm, ((((hS.pick (A := blkA g2 35 _) (by repeat first | exact .here _ _ | assumption | apply Pick.there)).drop.pick (A := blkA g4 35 _) (by repeat first | exact .here _ _ | assumption | apply Pick.there)).drop.pick (A := rowA 189 2 A' _ c' _) (by repeat first | exact .here _ _ | assumption | apply Pick.there)).pick (A := blkA g 81 _) (by repeat first | exact .here _ _ | assumption | apply Pick.there)).unrdr rfl rfl hRr hcr⟩)
      · intro hc13
        have hc13d := of_decide_eq_false hc13
        have hyes : ackOk s = true := ack_t (by assumption) (by omega)
        refine c_skip ?_
        refine c_seq ?_
        refine c_region ?_
        refine t_q (q_load_blk Try.isAgg35 Try.sizeOf35 rfl (hS.blk (by repeat first | exact .here _ _ | assumption | apply Pick.there)) rfl) ?_
        refine t_store (v := (.agg _)) Try.sizeOf35 hS (by repeat first | exact .here _ _ | assumption | apply Pick.there) rfl rfl rfl rfl rfl rfl (fun w hS => ?_)
        refine t_q (q_assign) ?_
        refine t_nil ?_
        refine c_ret ?_
        refine r_two rfl (res1_cellN Try.isAgg35 Try.sizeOf35 rfl (hS.blk (by repeat first | exact .here _ _ | assumption | apply Pick.there)) rfl) rfl ?_
        first
          | (obtain ⟨e1, e2, e3, e4⟩ := ack_no hno
             rw [e1, e3, e4, hno]
             exact ⟨none, 0, 0, rfl, rfl, (((((hS.pick (A := blkA g2 35 _) (by repeat first | exact .here _ _ | assumption | apply Pick.there)).drop.pick (A := blkA g4 35 _) (by repeat first | exact .here _ _ | assumption | apply Pick.there)).drop.pick (A := rowA 189 2 A' _ c' _) (by repeat first | exact .here _ _ | assumption | apply Pick.there)).drop).nilrow 189 2).pick (A := rdrA W 81 g _) (by repeat first | exact .here _ _ | assumption | apply Pick.there)⟩)
          | (obtain ⟨e1, e2, e3, e4⟩ := ack_yes hyes
             rw [e1, e3, e4, hyes]
             exact ⟨A', _, c', rfl, hmm, ((((hS.pick (A := blkA g2 35 _) (by repeat first | exact .here _ _ | assumption | apply Pick.there)).drop.pick (A := blkA g4 35 _) (by repeat first | exact .here _ _ | assumption | apply Pick.there)).drop.pick (A := rowA 189 2 A' _ c' _) (by repeat first | exact .here _ _ | assumption | apply Pick.there)).pick (A := blkA g 81 _) (by repeat first | exact .here _ _ | assumption | apply Pick.there)).unrdr rfl rfl hRr hcr⟩)
end Go.Proofs.Ytcikoealneldkaa
