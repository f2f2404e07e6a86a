/- A snapshot whose bytes are more than a parcel has is read as it was written: the walk. -/
import Derived.Test.YtlppgpidakfnlaaXo
import Derived.Test.YtlppgpidakfnlaaSr
import Derived.Test.YtlppgpidakfnlaaMk
namespace Go.Proofs.Ytlppgpidakfnlaa
open Go Go.RowKit Go.Lib
variable {W : World}
theorem long_sound {A : Option Addr} {n c : Nat} {b : UInt8} (hn : n ≤ 65531) : soundB (⟨5, 2, 1, 3, 4, 3, 0, false, sl0, ⟨A, c, List.replicate n b⟩, 0, 0, sl0⟩ : MsgV) = true := by
  have hl : (List.replicate n b).length = n := List.length_replicate
  unfold soundB fitB
  simp only [Bool.and_eq_true, decide_eq_true_eq]
  refine ⟨by decide, by decide, by decide, rfl, by decide, by decide, by decide, by decide, by decide, by decide, ?_, ?_, by decide, rfl⟩
  · show (List.replicate n b).length ≤ _; omega
  · intro h; exact absurd h (by decide)
theorem rep_set {n j : Nat} {b z : UInt8} (h : j < n) : setN ((List.replicate j b ++ List.replicate (n - j) z).map bv) (0 + j * 1) [bv b] = (List.replicate (j + 1) b ++ List.replicate (n - (j + 1)) z).map bv := by
  rw [setN, setN, Nat.zero_add, Nat.mul_one]
  rw [show bv b = bv b from rfl, ← List.map_set]
  congr 1
  rw [List.set_append_right _ _ (by rw [List.length_replicate]; exact Nat.le_refl _), List.length_replicate, Nat.sub_self, show n - j = (n - (j + 1)) + 1 by omega, List.replicate_succ, List.set_cons_zero, List.replicate_succ', List.append_assoc]
  rfl
attribute [local irreducible] blkA rowA rdrA rdsA
set_option maxHeartbeats 4000000 in
set_option maxRecDepth 100000 in
theorem WireLong_calls {m b0 : Int} (hm : 0 ≤ m ∧ m < 256) (hb0 : 0 ≤ b0 ∧ b0 < 256) : Calls Try.prog 18 #[.int .u8 m, .int .u8 b0] W fun e w' => e = .returned (.bool true) ∧ St W w' [] := by
 have hS := St.init W
 obtain ⟨n, hn⟩ : ∃ n : Nat, n = 65523 + (m % 9).toNat := ⟨_, rfl⟩
 obtain ⟨b, rfl⟩ : ∃ b : UInt8, b0 = (b.toNat : Int) := ⟨UInt8.ofNat b0.toNat, by rw [u8_ofNat (by omega)]; omega⟩
 refine calls_of_wpE (args := [_, _]) Try.func18 rfl rfl rfl ?_
 refine c_seq (c_region ?_)
 refine t_q (q_assign) ?_
 refine t_nil (c_seq (c_region ?_))
 refine t_q (q_mv (.int _ _) rfl) ?_
 refine t_q (q_rem_n rfl rfl (by omega) (by omega)) ?_
 refine t_q (q_conv_i64 Try.runUnderlying5 Try.runUnderlying3 rfl (by omega)) ?_
 refine t_q (q_cast (v' := .int .i64 (n : Int)) (q_add_i64 rfl rfl (by omega)) (by rw [hn]; congr 1; omega)) ?_
 refine t_q (q_as (.int _ _) rfl) ?_
 refine t_nil (c_seq (c_region ?_))
 refine t_q (q_mv (.int _ _) rfl) ?_
 refine t_make (n := n) Try.underlying25 (info_of Try.type5) rfl rfl rfl rfl rfl (by rw [show Try.t5.bytes = 1 from rfl]; omega) (by unfold maxLen; omega) hS (fun g17 w hS => ?_)
 replace hS := hS.recast (congrArg (rowA 5 1 (some ⟨g17, 0, none⟩) n n) (rep_bv (n)))
 refine t_q (q_as (.slice _ _ _) rfl) ?_
 refine t_nil (c_seq (c_seq (c_region ?_)))
 refine t_q (q_mv (.slice _ _ _) rfl) ?_
 refine t_q (q_len_slice Try.runUnderlying25 rfl) ?_
 refine t_q (q_move) ?_
 refine t_nil (c_block ?_)
 refine c_loop [7, 20, 21, 22, 23, 24, 25, 26, 27] (fun k σ w => ∃ j : Nat, σ 20 = .int .i64 (j : Int) ∧ j ≤ n ∧ n - j ≤ k ∧ St W w [rowA 5 1 (some ⟨g17, 0, none⟩) n n (((List.replicate j b ++ List.replicate (n - j) 0).map bv))]) (n) rfl (⟨0, rfl, by omega, by omega, (hS.pick (A := rowA 5 1 (some ⟨g17, 0, none⟩) n n (_)) (by repeat constructor)).front1.recast (by rw [List.replicate_zero, List.nil_append, Nat.sub_zero])⟩) ?_
 skip
 rintro k σ w ⟨j, h20, hj, hk, hS⟩
 refine c_know 20 h20 ?_
 clear h20
 refine c_seq (c_region ?_)
 refine t_q (q_lss rfl rfl) ?_
 refine t_nil (c_seq ?_)
 refine c_cond rfl ?_ ?_
 ·
  intro hc2
  have hc2d := of_decide_eq_true hc2
  refine c_skip (c_seq (c_block (c_seq (c_region ?_))))
  refine t_q (q_mv (.int _ _) rfl) ?_
  refine t_q (q_as (.int _ _) rfl) ?_
  refine t_nil (c_region ?_)
  refine t_q (q_mv (.slice _ _ _) rfl) ?_
  refine t_q (q_mv (.int _ _) rfl) ?_
  refine t_q (q_mv (.int _ _) rfl) ?_
  refine t_q (q_cast (v' := .pointer (some ⟨g17, 0 + j * 1, none⟩)) (q_indexAddr Try.runUnderlying25 Try.sizeOf5 rfl rfl (by omega)) (by rw [addr_add, Int.toNat_natCast])) ?_
  refine t_store_row Try.sizeOf5 hS (by repeat constructor) rfl rfl rfl rfl rfl (by show 0 + j * 1 + 1 ≤ n * 1; omega) (fun w hS => ?_)
  refine t_nil (c_region ?_)
  refine t_q (q_add_i64 rfl rfl (by omega)) ?_
  refine t_q (q_mv (.int _ _) rfl) ?_
  refine t_nil ?_
  exact ⟨k - 1, by omega, j + 1, rfl, by omega, by omega, (hS.pick (A := rowA 5 1 (some ⟨g17, 0, none⟩) n n (_)) (by repeat constructor)).front1.recast (congrArg (rowA 5 1 (some ⟨g17, 0, none⟩) n n) (rep_set (by omega)))⟩
 ·
  intro hc2
  have hc2d := of_decide_eq_false hc2
  have hjn : j = n := by omega
  rw [hjn, Nat.sub_self, List.replicate_zero, List.append_nil] at hS
  refine c_exit ?_
  refine ite_t rfl ?_
  refine c_seq (c_region ?_)
  refine t_q (q_mv (.slice _ _ _) rfl) ?_
  refine t_q (q_cast (v' := .agg (⟨5, 2, 1, 3, 4, 3, 0, false, sl0, (⟨some ⟨g17, 0, none⟩, n, List.replicate n b⟩ : Sl UInt8), 0, 0, sl0⟩ : MsgV).cells.toArray) (q_build (qs := [(0, 1), (1, 1), (2, 1), (3, 1), (4, 1), (5, 1), (6, 1), (7, 1), (8, 1), (9, 1), (10, 1), (11, 1), (12, 1)]) [(.int _ _), (.int _ _), (.int _ _), (.int _ _), (.int _ _), (.int _ _), (.int _ _), (.bool _), (.slice _ _ _), (.slice _ _ _), (.int _ _), (.int _ _), (.slice _ _ _)] Try.zeroValue114 Try.runUnderlying114 ⟨rfl, Try.sizeOf3, rfl, Try.sizeOf3, rfl, Try.sizeOf3, rfl, Try.sizeOf43, rfl, Try.sizeOf43, rfl, Try.sizeOf43, rfl, Try.sizeOf43, rfl, Try.sizeOf4, rfl, Try.sizeOf111, rfl, Try.sizeOf25, rfl, Try.sizeOf43, rfl, Try.sizeOf43, rfl, Try.sizeOf112, trivial⟩ rfl rfl) (by rw [show (⟨5, 2, 1, 3, 4, 3, 0, false, sl0, (⟨some ⟨g17, 0, none⟩, n, List.replicate n b⟩ : Sl UInt8), 0, 0, sl0⟩ : MsgV).cells = [.int .i64 5, .int .i64 2, .int .i64 1, .int .u64 3, .int .u64 4, .int .u64 3, .int .u64 0, .bool false, .slice none 0 0, .slice (some ⟨g17, 0, none⟩) (List.replicate n b).length n, .int .u64 0, .int .u64 0, .slice none 0 0] from rfl, List.length_replicate]; try rfl)) ?_
  have hlr : (List.replicate n b).length = n := List.length_replicate
  have hrd := hS.rowRd (A := some ⟨g17, 0, none⟩) (c := n) (bs := List.replicate n b) (by repeat constructor) hlr.symm
  have hgx : (⟨5, 2, 1, 3, 4, 3, 0, false, sl0, (⟨some ⟨g17, 0, none⟩, n, List.replicate n b⟩ : Sl UInt8), 0, 0, sl0⟩ : MsgV).Gd w := ⟨(show (-9223372036854775808 : Int) ≤ 5 ∧ (5 : Int) ≤ 9223372036854775807 from by decide), (show (-9223372036854775808 : Int) ≤ 2 ∧ (2 : Int) ≤ 9223372036854775807 from by decide), (show (-9223372036854775808 : Int) ≤ 1 ∧ (1 : Int) ≤ 9223372036854775807 from by decide), (show (0 : Int) ≤ 3 ∧ (3 : Int) < 18446744073709551616 from by decide), (show (0 : Int) ≤ 4 ∧ (4 : Int) < 18446744073709551616 from by decide), (show (0 : Int) ≤ 3 ∧ (3 : Int) < 18446744073709551616 from by decide), (show (0 : Int) ≤ 0 ∧ (0 : Int) < 18446744073709551616 from by decide), (show (0 : Int) ≤ 0 ∧ (0 : Int) < 18446744073709551616 from by decide), (show (0 : Int) ≤ 0 ∧ (0 : Int) < 18446744073709551616 from by decide), Rd.none_ _ _ _ _, (fun e he => by cases he), Nat.zero_le _, hrd, ⟨by show (List.replicate n b).length ≤ n; omega, by show (List.replicate n b).length ≤ _; omega⟩, Rd.none_ _ _ _ _, (fun e he => by cases he), Nat.zero_le _⟩
  have hsy : soundB (⟨5, 2, 1, 3, 4, 3, 0, false, sl0, (⟨some ⟨g17, 0, none⟩, n, List.replicate n b⟩ : Sl UInt8), 0, 0, sl0⟩ : MsgV) = true := long_sound (by omega)
  have hwl : (wbL (⟨5, 2, 1, 3, 4, 3, 0, false, sl0, (⟨some ⟨g17, 0, none⟩, n, List.replicate n b⟩ : Sl UInt8), 0, 0, sl0⟩ : MsgV)).length ≤ 100000000 := by
    have h8 := wb8_len hgx (snd_of hsy) (fl (⟨5, 2, 1, 3, 4, 3, 0, false, sl0, (⟨some ⟨g17, 0, none⟩, n, List.replicate n b⟩ : Sl UInt8), 0, 0, sl0⟩ : MsgV).kind)
    have h := wm_len _ (wb8 (fl (⟨5, 2, 1, 3, 4, 3, 0, false, sl0, (⟨some ⟨g17, 0, none⟩, n, List.replicate n b⟩ : Sl UInt8), 0, 0, sl0⟩ : MsgV).kind) (⟨5, 2, 1, 3, 4, 3, 0, false, sl0, (⟨some ⟨g17, 0, none⟩, n, List.replicate n b⟩ : Sl UInt8), 0, 0, sl0⟩ : MsgV)) (Nat.le_refl _)
    unfold wbL
    rw [hsy]
    show (wm _).length ≤ _
    omega
  have hwe : wbE (⟨5, 2, 1, 3, 4, 3, 0, false, sl0, (⟨some ⟨g17, 0, none⟩, n, List.replicate n b⟩ : Sl UInt8), 0, 0, sl0⟩ : MsgV) = 0 := by unfold wbE; rw [hsy]; rfl
  refine t_call Try.call64 (wbytes_calls (x := (⟨5, 2, 1, 3, 4, 3, 0, false, sl0, (⟨some ⟨g17, 0, none⟩, n, List.replicate n b⟩ : Sl UInt8), 0, 0, sl0⟩ : MsgV)) hgx) rfl ?_
  rintro e w ⟨A31, m31, c31, rfl, hm31, hT⟩
  refine ⟨_, rfl, ?_⟩
  have hS : St W w (_ :: _) := hS.lift hT
  subst hm31
  rw [hwe]
  refine t_q (q_mv (.tuple _) rfl) ?_
  refine t_q (q_extract rfl rfl) ?_
  refine t_q (q_extract rfl rfl) ?_
  refine t_q (q_as (.slice _ _ _) rfl) ?_
  refine t_q (q_as (.int _ _) rfl) ?_
  refine t_nil (c_seq (c_region ?_))
  refine t_q (q_mv (.slice _ _ _) rfl) ?_
  refine t_call Try.call66 (read_calls (hS.rowRd (A := A31) (c := c31) (bs := wbL (⟨5, 2, 1, 3, 4, 3, 0, false, sl0, (⟨some ⟨g17, 0, none⟩, n, List.replicate n b⟩ : Sl UInt8), 0, 0, sl0⟩ : MsgV)) (by repeat constructor) rfl) ⟨hS.row_le (t := 5) (size := 1) (A := A31) (c := c31) (by repeat constructor), hwl⟩) rfl ?_
  rintro e w ⟨y, er, rfl, hby, hout, hT⟩
  refine ⟨_, rfl, ?_⟩
  have hS : St W w (_ :: _) := hS.lift hT
  obtain ⟨he, hv⟩ := out_back (x := (⟨5, 2, 1, 3, 4, 3, 0, false, sl0, (⟨some ⟨g17, 0, none⟩, n, List.replicate n b⟩ : Sl UInt8), 0, 0, sl0⟩ : MsgV)) hgx hsy (by unfold wbL at hout; rw [hsy] at hout; exact hout)
  subst he
  refine t_q (q_mv (.tuple _) rfl) ?_
  refine t_q (q_extract rfl rfl) ?_
  refine t_q (q_extract rfl rfl) ?_
  refine t_alloc Try.zeroValue114 rfl hS (fun g10 w hS => ?_)
  refine t_store (v := (.agg _)) Try.sizeOf114 hS (by repeat constructor) rfl rfl rfl rfl rfl rfl (fun w hS => ?_)
  replace hS := hS.recast (show blkA g10 114 _ = bmA g10 114 y from rfl)
  refine t_q (q_as (.int _ _) rfl) ?_
  refine t_nil (c_seq ?_)
  have hgy := hby hS (by repeat constructor)
  have hyb : y.body.l = List.replicate n b := congrArg Mg.body hv
  have hyi : y.index = 4 := congrArg Mg.index hv
  refine c_region ?_
  refine t_q (q_mv (.int _ _) rfl) ?_
  refine t_q (q_cast (v' := .bool true) (q_eql rfl rfl) (by rfl)) ?_
  refine t_q (q_mv (.bool _) rfl) ?_
  refine t_yes rfl rfl rfl ?_
  refine t_q (q_mv (.int _ _) rfl) ?_
  refine t_yes rfl rfl rfl ?_
  refine t_q (q_cast (v' := .bool true) (q_eql rfl rfl) (by rfl)) ?_
  refine t_q (q_pick_t rfl rfl) ?_
  refine t_q (q_mv (.bool _) rfl) ?_
  refine t_yes rfl rfl rfl ?_
  refine t_q (q_fieldAddr 9 Try.runUnderlying114 rfl Try.sizeOf25 (by decide) rfl rfl) ?_
  refine t_yes rfl rfl rfl ?_
  refine t_q (q_load1 Try.isAgg25 rfl (hS.cell (by repeat constructor) rfl)) ?_
  refine t_yes rfl rfl rfl ?_
  refine t_q (q_string Try.runUnderlying25 Try.runUnderlying5 Try.runUnderlying9 rfl rfl (hgy.brd)) ?_
  refine t_yes rfl rfl rfl ?_
  refine t_q (q_mv (.slice _ _ _) rfl) ?_
  refine t_yes rfl rfl rfl ?_
  refine t_q (q_string Try.runUnderlying25 Try.runUnderlying5 Try.runUnderlying9 rfl (List.length_replicate).symm (hS.rowRd (A := some ⟨g17, 0, none⟩) (c := n) (bs := List.replicate n b) (by repeat constructor) List.length_replicate.symm)) ?_
  refine t_yes rfl rfl rfl ?_
  refine t_q (q_cast (v' := .bool true) (q_eql_string rfl rfl) (by rw [hyb]; simp)) ?_
  refine t_q (q_pick_t rfl rfl) ?_
  refine t_q (q_mv (.bool _) rfl) ?_
  refine t_yes rfl rfl rfl ?_
  refine t_q (q_fieldAddr 4 Try.runUnderlying114 rfl Try.sizeOf43 (by decide) rfl rfl) ?_
  refine t_yes rfl rfl rfl ?_
  refine t_q (q_load1 Try.isAgg43 rfl (hS.cell (by repeat constructor) rfl)) ?_
  refine t_yes rfl rfl rfl ?_
  refine t_q (q_cast (v' := .bool true) (q_eql rfl rfl) (congrArg Value.bool (decide_eq_true hyi))) ?_
  refine t_q (q_pick_t rfl rfl) ?_
  refine t_q (q_mv (.bool _) rfl) ?_
  refine t_yes rfl rfl rfl ?_
  refine t_call Try.call58 (wlives_calls) rfl ?_
  rintro e w ⟨rfl, hT⟩
  refine ⟨_, rfl, ?_⟩
  replace hS := hS.after hT
  refine t_q (q_pick_t rfl rfl) ?_
  refine t_q (q_as (.bool _) rfl) ?_
  refine t_nil (c_ret ?_)
  refine r_one rfl rfl ?_
  exact ⟨rfl, hS.nil⟩
end Go.Proofs.Ytlppgpidakfnlaa
