/- Behind a crash a file has a beginning of what it had, with all that was synced: the walk. -/
import Derived.Test.YtcikoealneldkaaDi
namespace Go.Proofs.Ytcikoealneldkaa
open Go Go.RowKit Go.Lib
variable {W : World}
theorem row_add {w : World} {L R : List Asn} {e : TypeId} {A : Option Addr} {n c : Nat} {xs : List Value} (hS : St W w L) (pk : Pick L (rowA e 1 A n c xs) R) : A.map (·.add 0) = A := by
  rcases (hS.row pk).2 with ⟨he, _⟩ | ⟨g, cap, cur, hv, _⟩
  · injection he with hA
    rw [hA]; rfl
  · injection hv with hA
    rw [hA, Option.map_some, addr_add]
theorem read_n {w : World} {L R : List Asn} {g : Nat} {d : Dk} (hS : St W w L) (pk : Pick L (dskA g d) R) {i : Nat} (hG : DGood d) (hi : i < 32) : Calls Try.prog 80 #[.pointer (some ⟨g, 0, none⟩), .int .i64 (i : Int)] w fun e w' => ∃ A' c', e = .returned (.slice A' (d.F i).1.length c') ∧ St W w' (rowA 5 1 A' (d.F i).1.length c' (((d.F i).1).map bv) :: dskA g d :: R) := by
  have h := read_in (i := (i : Int)) hS pk hG ⟨by omega, by omega⟩
  simp only [Int.toNat_natCast] at h
  exact h
theorem sync_n {w : World} {L R : List Asn} {g : Nat} {d : Dk} (hS : St W w L) (pk : Pick L (dskA g d) R) {i : Nat} (hG : DGood d) (hi : i < 32) : Calls Try.prog 81 #[.pointer (some ⟨g, 0, none⟩), .int .i64 (i : Int)] w fun e w' => e = .returned (.int .i64 ((d.F i).2 : Int)) ∧ St W w' (dskA g d :: R) := by
  have h := sync_in (i := (i : Int)) hS pk hG ⟨by omega, by omega⟩
  simp only [Int.toNat_natCast] at h
  exact h
theorem crD_at {ns : List Int} {d : Dk} {i : Nat} (h : i < 32) : (crD ns d).F i = crV ns i (d.F i) := by
  show crF ns d.F 32 i = _
  unfold crF
  rw [if_pos h]
attribute [local irreducible] blkA rowA rdrA rowC packA fcells qtl dtl dskA qdkA
set_option maxHeartbeats 2000000 in
set_option maxRecDepth 100000 in
theorem DiskTorn_calls {A : Option Addr} {c : Nat} {l : List DskOp} (hl : RdDsk W A l) (hok : ∀ e ∈ l, e.Ok W) (hm : l.length ≤ maxLen) {K : Option Addr} {ck : Nat} {ns : List Int} (hK : RdI W .i64 K ns) (hns : ns.length ≤ maxLen) : Calls Try.prog 8 #[.slice A l.length c, .slice K ns.length ck] W fun e w' => e = .returned (.bool true) ∧ St W w' [] := by
  have hS := St.init W
  unfold maxLen at hns
  refine calls_of_wpE (args := [_, _]) Try.func8 rfl rfl rfl ?_
  refine c_seq ?_
  refine c_region ?_
  refine t_q (q_assign) ?_
  refine t_nil ?_
  refine c_seq ?_
  refine c_seq ?_
  refine c_region ?_
  refine t_q (q_mv (.slice _ _ _) rfl) ?_
  refine t_call Try.call73 (dlight_calls (hl.st hS) hok hm) rfl ?_
  rintro e w ⟨b16, rfl, hlt, hT⟩
  refine ⟨_, rfl, ?_⟩
  replace hS := hS.after hT
  refine t_q (q_not rfl) ?_
  refine t_q (q_mv (.bool _) rfl) ?_
  refine t_case 18 rfl ?_ ?_
  · intro hg2
    refine t_no rfl rfl (by rw [(congrArg not (not_back hg2))]; decide) ?_
    refine t_no rfl rfl (by rw [(congrArg not (not_back hg2))]; decide) ?_
    refine t_no rfl rfl (by rw [(congrArg not (not_back hg2))]; decide) ?_
    refine t_q (q_pick_t rfl (congrArg not (not_back hg2))) ?_
    refine t_nil ?_
    refine c_cond_t rfl rfl ?_
    refine c_seq ?_
    refine c_region ?_
    refine t_call Try.call74 (dlives_calls) rfl ?_
    rintro e w ⟨rfl, hT⟩
    refine ⟨_, rfl, ?_⟩
    replace hS := hS.after hT
    refine t_q (q_as (.bool _) rfl) ?_
    refine t_nil ?_
    refine c_ret ?_
    refine r_one rfl rfl ?_
    exact ⟨rfl, hS.nil⟩
  · intro hg2
    refine t_yes rfl rfl (congrArg not (not_back hg2)) ?_
    refine t_q (q_mv (.slice _ _ _) rfl) ?_
    refine t_yes rfl rfl (congrArg not (not_back hg2)) ?_
    refine t_q (q_len_slice Try.runUnderlying94 rfl) ?_
    refine t_yes rfl rfl (congrArg not (not_back hg2)) ?_
    refine t_q (q_gtr rfl rfl) ?_
    refine t_q (q_pick_f rfl (congrArg not (not_back hg2))) ?_
    refine t_nil ?_
    refine c_cond rfl ?_ ?_
    · intro hc5
      have hc5d := of_decide_eq_true hc5
      refine c_seq ?_
      refine c_region ?_
      refine t_call Try.call74 (dlives_calls) rfl ?_
      rintro e w ⟨rfl, hT⟩
      refine ⟨_, rfl, ?_⟩
      replace hS := hS.after hT
      refine t_q (q_as (.bool _) rfl) ?_
      refine t_nil ?_
      refine c_ret ?_
      refine r_one rfl rfl ?_
      exact ⟨rfl, hS.nil⟩
    · intro hc5
      have hc5d := of_decide_eq_false hc5
      have hlb : LightB l := hlt (not_back (by assumption))
      have hl100 := hlb.1
      refine c_skip ?_
      refine c_seq ?_
      refine c_region ?_
      refine t_call Try.call75 (dnew_calls hS) rfl ?_
      rintro e w ⟨gp, rfl, hS⟩
      refine ⟨_, rfl, ?_⟩
      refine t_call Try.call76 (qdnew_calls hS) rfl ?_
      rintro e w ⟨gq, rfl, hS⟩
      refine ⟨_, rfl, ?_⟩
      refine t_q (q_as (.pointer _) rfl) ?_
      refine t_q (q_as (.pointer _) rfl) ?_
      refine t_nil ?_
      refine c_seq ?_
      refine c_seq ?_
      refine c_region ?_
      refine t_q (q_mv (.slice _ _ _) rfl) ?_
      refine t_q (q_len_slice Try.runUnderlying86 rfl) ?_
      refine t_q (q_move) ?_
      refine t_nil ?_
      refine c_block ?_
      refine c_loop [5, 8, 9, 10, 28, 29, 30, 31, 32, 33, 34, 35, 36, 37, 38, 39, 40] (fun k σ w => ∃ (j : Nat) (d : Dk) (gd : Nat), σ 28 = .int .i64 (j : Int) ∧ σ 5 = .pointer (some ⟨gd, 0, none⟩) ∧ j ≤ l.length ∧ l.length - j ≤ k ∧ DGood d ∧ d.calls ≤ j ∧ St W w [dskA gd d, qdkA gq d]) (l.length) rfl (⟨0, D0, gp, rfl, rfl, by omega, by omega, DGood.zero, Int.le_refl 0, ((hS.pick (A := qdkA gq D0) (by repeat first | exact .here _ _ | assumption | apply Pick.there)).pick (A := dskA gp D0) (by repeat first | exact .here _ _ | assumption | apply Pick.there))⟩) ?_
      skip
      rintro k σ w ⟨j, d, gd, h28, h5, hj, hk, hG, hcj, hS⟩
      refine c_know 28 h28 ?_
      refine c_know 5 h5 ?_
      clear h28 h5
      refine c_seq ?_
      refine c_region ?_
      refine t_q (q_lss rfl rfl) ?_
      refine t_nil ?_
      refine c_seq ?_
      refine c_cond rfl ?_ ?_
      · intro hc10
        have hc10d := of_decide_eq_true hc10
        refine c_skip ?_
        refine c_seq ?_
        refine c_block ?_
        refine c_seq ?_
        refine c_region ?_
        first | refine t_index_nat Try.runUnderlying86 Try.sizeOf96 (hl.st hS) rfl rfl (by omega) (fun ad11 hl11 hx11 => ?_) | refine t_index Try.runUnderlying86 Try.sizeOf96 (hl.st hS) rfl rfl (by omega) (fun ad11 hl11 hx11 => ?_)
        refine t_q (q_loadN Try.isAgg96 Try.sizeOf96 rfl hl11 hx11) ?_
        refine t_alloc Try.zeroValue96 rfl hS (fun g8 w hS => ?_)
        refine t_store (v := (.agg _)) Try.sizeOf96 hS (by repeat first | exact .here _ _ | assumption | apply Pick.there) rfl rfl rfl rfl rfl rfl (fun w hS => ?_)
        replace hS := hS.recast (show blkA g8 96 _ = blkA g8 96 (l.getD j default).cells from rfl)
        have hxo : ((l.getD j default)).Ok W := dsk_at hok (by omega)
        have hxn := hxo.n
        obtain ⟨hxb, hxk⟩ := hlb.2 j (by omega)
        have hcle := do_calls_le d (l.getD j default)
        refine t_nil ?_
        refine c_seq ?_
        refine c_region ?_
        refine t_q (q_mv (.pointer _) rfl) ?_
        refine t_q (q_mv (.pointer _) rfl) ?_
        refine t_q (q_load_blk Try.isAgg96 Try.sizeOf96 rfl (hS.blk (by repeat first | exact .here _ _ | assumption | apply Pick.there)) rfl) ?_
        refine t_call Try.call79 (do_calls (((hS.pick (A := qdkA gq d) (by repeat first | exact .here _ _ | assumption | apply Pick.there)).pick (A := dskA gd d) (by repeat first | exact .here _ _ | assumption | apply Pick.there))) hxo hG hG (by omega) (by omega)) rfl ?_
        rintro e w ⟨gN, bN, rfl, hbN, hS⟩
        refine ⟨_, rfl, ?_⟩
        obtain rfl := hbN rfl
        refine t_q (q_mv (.tuple _) rfl) ?_
        refine t_q (q_extract rfl rfl) ?_
        refine t_q (q_extract rfl rfl) ?_
        refine t_q (q_as (.pointer _) rfl) ?_
        refine t_q (q_as (.bool _) rfl) ?_
        refine t_nil ?_
        refine c_region ?_
        refine t_q (q_mv (.pointer _) rfl) ?_
        refine t_q (q_as (.pointer _) rfl) ?_
        refine t_nil ?_
        refine c_region ?_
        refine t_q (q_add_i64 rfl rfl (by omega)) ?_
        refine t_q (q_mv (.int _ _) rfl) ?_
        refine t_nil ?_
        exact ⟨k - 1, by omega, j + 1, doD d (l.getD j default), gN, rfl, rfl, by omega, by omega, hG.doD hxn, by omega, hS.front2⟩
      · intro hc10
        have hc10d := of_decide_eq_false hc10
        obtain rfl : j = l.length := by omega
        refine c_exit ?_
        refine ite_t rfl ?_
        refine c_seq ?_
        refine c_region ?_
        refine t_q (q_mv (.pointer _) rfl) ?_
        refine t_call Try.call82 (clon_calls hS (by repeat first | exact .here _ _ | assumption | apply Pick.there) hG) rfl ?_
        rintro e w ⟨gC, rfl, hS⟩
        refine ⟨_, rfl, ?_⟩
        refine t_q (q_as (.pointer _) rfl) ?_
        refine t_nil ?_
        refine c_seq ?_
        refine c_region ?_
        refine t_q (q_mv (.pointer _) rfl) ?_
        refine t_q (q_mv (.slice _ _ _) rfl) ?_
        refine t_call Try.call83 (crash_calls (g := gd) (ns := ns) hS (by repeat first | exact .here _ _ | assumption | apply Pick.there) hG (fun w h => Rd.st hK h) (by omega)) rfl ?_
        rintro e w ⟨rfl, hS⟩
        refine ⟨_, rfl, ?_⟩
        have hG2 := hG.crash ns
        refine t_nil ?_
        refine c_seq ?_
        refine c_seq ?_
        refine c_region ?_
        refine t_q (q_move) ?_
        refine t_nil ?_
        refine c_block ?_
        refine c_loop [4, 12, 13, 14, 46, 47, 48, 49, 50, 51, 52, 53, 54, 55, 56, 57, 58, 59, 60, 61, 62, 63, 64, 65, 66, 67, 68, 69, 70, 71, 72, 73, 74, 75, 76, 77, 78, 79, 80, 81, 82, 83, 84, 85, 86] (fun k σ w => ∃ i : Nat, σ 46 = .int .i64 (i : Int) ∧ i ≤ 32 ∧ 32 - i ≤ k ∧ St W w [dskA gC d, dskA gd (crD ns d)]) (32) rfl (⟨0, rfl, by omega, by omega, (((hS.pick (A := dskA gd (crD ns d)) (by repeat first | exact .here _ _ | assumption | apply Pick.there)).pick (A := dskA gC d) (by repeat first | exact .here _ _ | assumption | apply Pick.there))).front2⟩) ?_
        skip
        rintro k σ w ⟨i, h46, hi0, hk2, hS⟩
        refine c_know 46 h46 ?_
        clear h46
        refine c_seq ?_
        refine c_region ?_
        refine t_q (q_lss rfl rfl) ?_
        refine t_nil ?_
        refine c_seq ?_
        refine c_cond rfl ?_ ?_
        · intro hc18
          have hc18d := of_decide_eq_true hc18
          have hcd := crD_at (ns := ns) (d := d) (i := i) (by omega)
          have hsy := hG.sync i
          have hcs := crS_le (ns := ns) (i := i) hsy
          have hln : ((crD ns d).F i).1.length = crS ns i (d.F i) ∧ ((crD ns d).F i).2 = crS ns i (d.F i) := by rw [hcd]; exact ⟨by show ((d.F i).1.take _).length = _; rw [List.length_take]; omega, rfl⟩
          have htk : (d.F i).1.take ((crD ns d).F i).1.length = ((crD ns d).F i).1 := by rw [hln.1, hcd]; rfl
          refine c_skip ?_
          refine c_seq ?_
          refine c_block ?_
          refine c_seq ?_
          refine c_region ?_
          refine t_q (q_mv (.int _ _) rfl) ?_
          refine t_q (q_as (.int _ _) rfl) ?_
          refine t_nil ?_
          refine c_seq ?_
          refine c_region ?_
          refine t_q (q_mv (.pointer _) rfl) ?_
          refine t_q (q_mv (.int _ _) rfl) ?_
          refine t_call Try.call80 (read_n (g := gC) (d := d) (i := i) hS (by repeat first | exact .here _ _ | assumption | apply Pick.there) hG (by omega)) rfl ?_
          rintro e w ⟨A51, c51, rfl, hS⟩
          refine ⟨_, rfl, ?_⟩
          refine t_q (q_mv (.pointer _) rfl) ?_
          refine t_q (q_mv (.int _ _) rfl) ?_
          refine t_call Try.call80 (read_n (g := gd) (d := crD ns d) (i := i) hS (by repeat first | exact .here _ _ | assumption | apply Pick.there) hG2 (by omega)) rfl ?_
          rintro e w ⟨A54, c54, rfl, hS⟩
          refine ⟨_, rfl, ?_⟩
          refine t_q (q_as (.slice _ _ _) rfl) ?_
          refine t_q (q_as (.slice _ _ _) rfl) ?_
          refine t_nil ?_
          refine c_seq ?_
          have hA51 := row_add hS (e := 5) (A := A51) (c := c51) (by repeat first | exact .here _ _ | assumption | apply Pick.there)
          have hle51 := hS.row_le (t := 5) (size := 1) (A := A51) (c := c51) (by repeat first | exact .here _ _ | assumption | apply Pick.there)
          refine c_draw ?_
          refine d_keep2 (rowA 5 1 A51 (d.F i).1.length c51 (((d.F i).1).map bv)) (rowA 5 1 A54 ((crD ns d).F i).1.length c54 ((((crD ns d).F i).1).map bv)) 31 [0, 1, 2, 3, 4, 5, 6, 7, 8, 9, 10, 11, 12, 13, 14, 15, 16, 17, 18, 19, 20, 21, 22, 23, 24, 25, 26, 27, 28, 29, 30] [0, 1, 2, 3, 4, 5, 6, 7, 8, 9, 10, 11, 12, 13, 14, 15, 16, 17, 18, 19, 20, 21, 22, 23, 24, 25, 26, 27, 28, 29, 30] hS rfl (by kernel_rfl) (by kernel_rfl) (by kernel_rfl) (by kernel_rfl) (fun hap hsel w hS => ?_)
          refine p_q hap hsel 0 rfl rfl ⟨_, ((hS.pick (A := rowA 5 1 A54 ((crD ns d).F i).1.length c54 ((((crD ns d).F i).1).map bv)) (by repeat first | exact .here _ _ | assumption | apply Pick.there)).pick (A := rowA 5 1 A51 (d.F i).1.length c51 (((d.F i).1).map bv)) (by repeat first | exact .here _ _ | assumption | apply Pick.there))⟩ (fun w hI => q_mv (.slice _ _ _) rfl) ?_
          refine p_q hap hsel 1 rfl rfl ⟨_, ((hS.pick (A := rowA 5 1 A54 ((crD ns d).F i).1.length c54 ((((crD ns d).F i).1).map bv)) (by repeat first | exact .here _ _ | assumption | apply Pick.there)).pick (A := rowA 5 1 A51 (d.F i).1.length c51 (((d.F i).1).map bv)) (by repeat first | exact .here _ _ | assumption | apply Pick.there))⟩ (fun w hI => q_len_slice Try.runUnderlying48 rfl) ?_
          refine p_q hap hsel 2 rfl rfl ⟨_, ((hS.pick (A := rowA 5 1 A54 ((crD ns d).F i).1.length c54 ((((crD ns d).F i).1).map bv)) (by repeat first | exact .here _ _ | assumption | apply Pick.there)).pick (A := rowA 5 1 A51 (d.F i).1.length c51 (((d.F i).1).map bv)) (by repeat first | exact .here _ _ | assumption | apply Pick.there))⟩ (fun w hI => q_mv (.slice _ _ _) rfl) ?_
          refine p_q hap hsel 3 rfl rfl ⟨_, ((hS.pick (A := rowA 5 1 A54 ((crD ns d).F i).1.length c54 ((((crD ns d).F i).1).map bv)) (by repeat first | exact .here _ _ | assumption | apply Pick.there)).pick (A := rowA 5 1 A51 (d.F i).1.length c51 (((d.F i).1).map bv)) (by repeat first | exact .here _ _ | assumption | apply Pick.there))⟩ (fun w hI => q_len_slice Try.runUnderlying48 rfl) ?_
          refine p_q hap hsel 4 rfl rfl ⟨_, ((hS.pick (A := rowA 5 1 A54 ((crD ns d).F i).1.length c54 ((((crD ns d).F i).1).map bv)) (by repeat first | exact .here _ _ | assumption | apply Pick.there)).pick (A := rowA 5 1 A51 (d.F i).1.length c51 (((d.F i).1).map bv)) (by repeat first | exact .here _ _ | assumption | apply Pick.there))⟩ (fun w hI => (q_cast (v' := .bool false) (q_gtr rfl rfl) (by rw [decide_eq_false (by omega)]))) ?_
          refine p_q hap hsel 5 rfl rfl ⟨_, ((hS.pick (A := rowA 5 1 A54 ((crD ns d).F i).1.length c54 ((((crD ns d).F i).1).map bv)) (by repeat first | exact .here _ _ | assumption | apply Pick.there)).pick (A := rowA 5 1 A51 (d.F i).1.length c51 (((d.F i).1).map bv)) (by repeat first | exact .here _ _ | assumption | apply Pick.there))⟩ (fun w hI => q_mv (.bool _) rfl) ?_
          refine p_yes hap hsel 6 rfl rfl ⟨_, ((hS.pick (A := rowA 5 1 A54 ((crD ns d).F i).1.length c54 ((((crD ns d).F i).1).map bv)) (by repeat first | exact .here _ _ | assumption | apply Pick.there)).pick (A := rowA 5 1 A51 (d.F i).1.length c51 (((d.F i).1).map bv)) (by repeat first | exact .here _ _ | assumption | apply Pick.there))⟩ rfl rfl rfl (fun w hI => q_mv (.slice _ _ _) rfl) ?_
          refine p_yes hap hsel 7 rfl rfl ⟨_, ((hS.pick (A := rowA 5 1 A54 ((crD ns d).F i).1.length c54 ((((crD ns d).F i).1).map bv)) (by repeat first | exact .here _ _ | assumption | apply Pick.there)).pick (A := rowA 5 1 A51 (d.F i).1.length c51 (((d.F i).1).map bv)) (by repeat first | exact .here _ _ | assumption | apply Pick.there))⟩ rfl rfl rfl (fun w hI => q_len_slice Try.runUnderlying48 rfl) ?_
          refine p_yes hap hsel 8 rfl rfl ⟨_, ((hS.pick (A := rowA 5 1 A54 ((crD ns d).F i).1.length c54 ((((crD ns d).F i).1).map bv)) (by repeat first | exact .here _ _ | assumption | apply Pick.there)).pick (A := rowA 5 1 A51 (d.F i).1.length c51 (((d.F i).1).map bv)) (by repeat first | exact .here _ _ | assumption | apply Pick.there))⟩ rfl rfl rfl (fun w hI => q_mv (.pointer _) rfl) ?_
          refine p_yes hap hsel 9 rfl rfl ⟨_, ((hS.pick (A := rowA 5 1 A54 ((crD ns d).F i).1.length c54 ((((crD ns d).F i).1).map bv)) (by repeat first | exact .here _ _ | assumption | apply Pick.there)).pick (A := rowA 5 1 A51 (d.F i).1.length c51 (((d.F i).1).map bv)) (by repeat first | exact .here _ _ | assumption | apply Pick.there))⟩ rfl rfl rfl (fun w hI => q_mv (.int _ _) rfl) ?_
          refine p_one 10 rfl (by kernel_rfl) ?_
          refine t_yes rfl rfl rfl ?_
          refine t_call Try.call81 (sync_n (g := gC) (d := d) (i := i) hS (by repeat first | exact .here _ _ | assumption | apply Pick.there) hG (by omega)) rfl ?_
          rintro e w ⟨rfl, hS⟩
          refine ⟨_, rfl, ?_⟩
          refine t_nil ?_
          refine ⟨.inr ⟨_, ((hS.pick (A := rowA 5 1 A54 ((crD ns d).F i).1.length c54 ((((crD ns d).F i).1).map bv)) (by repeat first | exact .here _ _ | assumption | apply Pick.there)).pick (A := rowA 5 1 A51 (d.F i).1.length c51 (((d.F i).1).map bv)) (by repeat first | exact .here _ _ | assumption | apply Pick.there))⟩, ?_⟩
          refine p_yes hap hsel 11 rfl rfl ⟨_, ((hS.pick (A := rowA 5 1 A54 ((crD ns d).F i).1.length c54 ((((crD ns d).F i).1).map bv)) (by repeat first | exact .here _ _ | assumption | apply Pick.there)).pick (A := rowA 5 1 A51 (d.F i).1.length c51 (((d.F i).1).map bv)) (by repeat first | exact .here _ _ | assumption | apply Pick.there))⟩ rfl rfl rfl (fun w hI => (q_cast (v' := .bool false) (q_lss rfl rfl) (by rw [decide_eq_false (by omega)]))) ?_
          refine p_q hap hsel 12 rfl rfl ⟨_, ((hS.pick (A := rowA 5 1 A54 ((crD ns d).F i).1.length c54 ((((crD ns d).F i).1).map bv)) (by repeat first | exact .here _ _ | assumption | apply Pick.there)).pick (A := rowA 5 1 A51 (d.F i).1.length c51 (((d.F i).1).map bv)) (by repeat first | exact .here _ _ | assumption | apply Pick.there))⟩ (fun w hI => q_pick_f rfl rfl) ?_
          refine p_q hap hsel 13 rfl rfl ⟨_, ((hS.pick (A := rowA 5 1 A54 ((crD ns d).F i).1.length c54 ((((crD ns d).F i).1).map bv)) (by repeat first | exact .here _ _ | assumption | apply Pick.there)).pick (A := rowA 5 1 A51 (d.F i).1.length c51 (((d.F i).1).map bv)) (by repeat first | exact .here _ _ | assumption | apply Pick.there))⟩ (fun w hI => q_mv (.bool _) rfl) ?_
          refine p_yes hap hsel 14 rfl rfl ⟨_, ((hS.pick (A := rowA 5 1 A54 ((crD ns d).F i).1.length c54 ((((crD ns d).F i).1).map bv)) (by repeat first | exact .here _ _ | assumption | apply Pick.there)).pick (A := rowA 5 1 A51 (d.F i).1.length c51 (((d.F i).1).map bv)) (by repeat first | exact .here _ _ | assumption | apply Pick.there))⟩ rfl rfl rfl (fun w hI => q_mv (.slice _ _ _) rfl) ?_
          refine p_yes hap hsel 15 rfl rfl ⟨_, ((hS.pick (A := rowA 5 1 A54 ((crD ns d).F i).1.length c54 ((((crD ns d).F i).1).map bv)) (by repeat first | exact .here _ _ | assumption | apply Pick.there)).pick (A := rowA 5 1 A51 (d.F i).1.length c51 (((d.F i).1).map bv)) (by repeat first | exact .here _ _ | assumption | apply Pick.there))⟩ rfl rfl rfl (fun w hI => q_mv (.slice _ _ _) rfl) ?_
          refine p_yes hap hsel 16 rfl rfl ⟨_, ((hS.pick (A := rowA 5 1 A54 ((crD ns d).F i).1.length c54 ((((crD ns d).F i).1).map bv)) (by repeat first | exact .here _ _ | assumption | apply Pick.there)).pick (A := rowA 5 1 A51 (d.F i).1.length c51 (((d.F i).1).map bv)) (by repeat first | exact .here _ _ | assumption | apply Pick.there))⟩ rfl rfl rfl (fun w hI => q_len_slice Try.runUnderlying48 rfl) ?_
          refine p_yes hap hsel 17 rfl rfl ⟨_, ((hS.pick (A := rowA 5 1 A54 ((crD ns d).F i).1.length c54 ((((crD ns d).F i).1).map bv)) (by repeat first | exact .here _ _ | assumption | apply Pick.there)).pick (A := rowA 5 1 A51 (d.F i).1.length c51 (((d.F i).1).map bv)) (by repeat first | exact .here _ _ | assumption | apply Pick.there))⟩ rfl rfl rfl (fun w hI => (q_cast (v' := .slice A51 ((d.F i).1.take ((crD ns d).F i).1.length).length c51) (q_slice Try.runUnderlying48 Try.sizeOf5 rfl ⟨_, _, rfl, by omega, by omega, rfl⟩ rfl) (sl0 hA51 (by rw [List.length_take]; omega)))) ?_
          refine p_yes hap hsel 18 rfl rfl ⟨_, ((hS.pick (A := rowA 5 1 A54 ((crD ns d).F i).1.length c54 ((((crD ns d).F i).1).map bv)) (by repeat first | exact .here _ _ | assumption | apply Pick.there)).pick (A := rowA 5 1 A51 (d.F i).1.length c51 (((d.F i).1).map bv)) (by repeat first | exact .here _ _ | assumption | apply Pick.there))⟩ rfl rfl rfl (fun w hI => q_string Try.runUnderlying48 Try.runUnderlying5 Try.runUnderlying9 rfl rfl (take0_rd (hI.choose_spec.rowRd (A := A51) (c := c51) (bs := (d.F i).1) (by repeat first | exact .here _ _ | assumption | apply Pick.there) rfl) ((crD ns d).F i).1.length)) ?_
          refine p_yes hap hsel 19 rfl rfl ⟨_, ((hS.pick (A := rowA 5 1 A54 ((crD ns d).F i).1.length c54 ((((crD ns d).F i).1).map bv)) (by repeat first | exact .here _ _ | assumption | apply Pick.there)).pick (A := rowA 5 1 A51 (d.F i).1.length c51 (((d.F i).1).map bv)) (by repeat first | exact .here _ _ | assumption | apply Pick.there))⟩ rfl rfl rfl (fun w hI => q_mv (.slice _ _ _) rfl) ?_
          refine p_yes hap hsel 20 rfl rfl ⟨_, ((hS.pick (A := rowA 5 1 A54 ((crD ns d).F i).1.length c54 ((((crD ns d).F i).1).map bv)) (by repeat first | exact .here _ _ | assumption | apply Pick.there)).pick (A := rowA 5 1 A51 (d.F i).1.length c51 (((d.F i).1).map bv)) (by repeat first | exact .here _ _ | assumption | apply Pick.there))⟩ rfl rfl rfl (fun w hI => q_string Try.runUnderlying48 Try.runUnderlying5 Try.runUnderlying9 rfl rfl (hI.choose_spec.rowRd (A := A54) (c := c54) (bs := ((crD ns d).F i).1) (by repeat first | exact .here _ _ | assumption | apply Pick.there) rfl)) ?_
          refine p_yes hap hsel 21 rfl rfl ⟨_, ((hS.pick (A := rowA 5 1 A54 ((crD ns d).F i).1.length c54 ((((crD ns d).F i).1).map bv)) (by repeat first | exact .here _ _ | assumption | apply Pick.there)).pick (A := rowA 5 1 A51 (d.F i).1.length c51 (((d.F i).1).map bv)) (by repeat first | exact .here _ _ | assumption | apply Pick.there))⟩ rfl rfl rfl (fun w hI => (q_cast (v' := .bool false) (q_neq_string rfl rfl) (by rw [htk]; simp))) ?_
          refine p_q hap hsel 22 rfl rfl ⟨_, ((hS.pick (A := rowA 5 1 A54 ((crD ns d).F i).1.length c54 ((((crD ns d).F i).1).map bv)) (by repeat first | exact .here _ _ | assumption | apply Pick.there)).pick (A := rowA 5 1 A51 (d.F i).1.length c51 (((d.F i).1).map bv)) (by repeat first | exact .here _ _ | assumption | apply Pick.there))⟩ (fun w hI => q_pick_f rfl rfl) ?_
          refine p_q hap hsel 23 rfl rfl ⟨_, ((hS.pick (A := rowA 5 1 A54 ((crD ns d).F i).1.length c54 ((((crD ns d).F i).1).map bv)) (by repeat first | exact .here _ _ | assumption | apply Pick.there)).pick (A := rowA 5 1 A51 (d.F i).1.length c51 (((d.F i).1).map bv)) (by repeat first | exact .here _ _ | assumption | apply Pick.there))⟩ (fun w hI => q_mv (.bool _) rfl) ?_
          refine p_yes hap hsel 24 rfl rfl ⟨_, ((hS.pick (A := rowA 5 1 A54 ((crD ns d).F i).1.length c54 ((((crD ns d).F i).1).map bv)) (by repeat first | exact .here _ _ | assumption | apply Pick.there)).pick (A := rowA 5 1 A51 (d.F i).1.length c51 (((d.F i).1).map bv)) (by repeat first | exact .here _ _ | assumption | apply Pick.there))⟩ rfl rfl rfl (fun w hI => q_mv (.pointer _) rfl) ?_
          refine p_yes hap hsel 25 rfl rfl ⟨_, ((hS.pick (A := rowA 5 1 A54 ((crD ns d).F i).1.length c54 ((((crD ns d).F i).1).map bv)) (by repeat first | exact .here _ _ | assumption | apply Pick.there)).pick (A := rowA 5 1 A51 (d.F i).1.length c51 (((d.F i).1).map bv)) (by repeat first | exact .here _ _ | assumption | apply Pick.there))⟩ rfl rfl rfl (fun w hI => q_mv (.int _ _) rfl) ?_
          refine p_yes hap hsel 27 rfl rfl ⟨_, ((hS.pick (A := rowA 5 1 A54 ((crD ns d).F i).1.length c54 ((((crD ns d).F i).1).map bv)) (by repeat first | exact .here _ _ | assumption | apply Pick.there)).pick (A := rowA 5 1 A51 (d.F i).1.length c51 (((d.F i).1).map bv)) (by repeat first | exact .here _ _ | assumption | apply Pick.there))⟩ rfl rfl rfl (fun w hI => q_mv (.slice _ _ _) rfl) ?_
          refine p_yes hap hsel 28 rfl rfl ⟨_, ((hS.pick (A := rowA 5 1 A54 ((crD ns d).F i).1.length c54 ((((crD ns d).F i).1).map bv)) (by repeat first | exact .here _ _ | assumption | apply Pick.there)).pick (A := rowA 5 1 A51 (d.F i).1.length c51 (((d.F i).1).map bv)) (by repeat first | exact .here _ _ | assumption | apply Pick.there))⟩ rfl rfl rfl (fun w hI => q_len_slice Try.runUnderlying48 rfl) ?_
          refine p_one 26 rfl (by kernel_rfl) ?_
          refine t_yes rfl rfl rfl ?_
          refine t_call Try.call81 (sync_n (g := gd) (d := crD ns d) (i := i) hS (by repeat first | exact .here _ _ | assumption | apply Pick.there) hG2 (by omega)) rfl ?_
          rintro e w ⟨rfl, hS⟩
          refine ⟨_, rfl, ?_⟩
          refine t_nil ?_
          refine ⟨.inr ⟨_, ((hS.pick (A := rowA 5 1 A54 ((crD ns d).F i).1.length c54 ((((crD ns d).F i).1).map bv)) (by repeat first | exact .here _ _ | assumption | apply Pick.there)).pick (A := rowA 5 1 A51 (d.F i).1.length c51 (((d.F i).1).map bv)) (by repeat first | exact .here _ _ | assumption | apply Pick.there))⟩, ?_⟩
          refine p_yes hap hsel 29 rfl rfl ⟨_, ((hS.pick (A := rowA 5 1 A54 ((crD ns d).F i).1.length c54 ((((crD ns d).F i).1).map bv)) (by repeat first | exact .here _ _ | assumption | apply Pick.there)).pick (A := rowA 5 1 A51 (d.F i).1.length c51 (((d.F i).1).map bv)) (by repeat first | exact .here _ _ | assumption | apply Pick.there))⟩ rfl rfl rfl (fun w hI => (q_cast (v' := .bool false) (q_neq rfl rfl) (by rw [show (((crD ns d).F i).2 : Int) = (((crD ns d).F i).1.length : Int) by omega]; simp))) ?_
          refine p_q hap hsel 30 rfl rfl ⟨_, ((hS.pick (A := rowA 5 1 A54 ((crD ns d).F i).1.length c54 ((((crD ns d).F i).1).map bv)) (by repeat first | exact .here _ _ | assumption | apply Pick.there)).pick (A := rowA 5 1 A51 (d.F i).1.length c51 (((d.F i).1).map bv)) (by repeat first | exact .here _ _ | assumption | apply Pick.there))⟩ (fun w hI => q_pick_f rfl rfl) ?_
          refine p_end (by kernel_rfl) ?_
          refine c_cond_f rfl rfl ?_
          refine c_skip ?_
          refine c_region ?_
          refine t_q (q_add_i64 rfl rfl (by omega)) ?_
          refine t_q (q_mv (.int _ _) rfl) ?_
          refine t_nil ?_
          exact ⟨k - 1, by omega, i + 1, rfl, by omega, by omega, (((hS.pick (A := dskA gd (crD ns d)) (by repeat first | exact .here _ _ | assumption | apply Pick.there)).pick (A := dskA gC d) (by repeat first | exact .here _ _ | assumption | apply Pick.there))).front2⟩
        · intro hc18
          have hc18d := of_decide_eq_false hc18
          obtain rfl : i = 32 := by omega
          refine c_exit ?_
          refine ite_t rfl ?_
          refine c_seq ?_
          refine c_region ?_
          refine t_q (q_mv (.pointer _) rfl) ?_
          refine t_call Try.call84 (down_calls (g := gd) hS (by repeat first | exact .here _ _ | assumption | apply Pick.there)) rfl ?_
          rintro e w ⟨rfl, hS⟩
          refine ⟨_, rfl, ?_⟩
          refine t_q (q_cast (v' := .bool true) (q_not rfl) (by rfl)) ?_
          refine t_q (q_mv (.bool _) rfl) ?_
          refine t_yes rfl rfl rfl ?_
          refine t_call Try.call74 (dlives_calls) rfl ?_
          rintro e w ⟨rfl, hT⟩
          refine ⟨_, rfl, ?_⟩
          replace hS := hS.after hT
          refine t_q (q_pick_t rfl rfl) ?_
          refine t_q (q_as (.bool _) rfl) ?_
          refine t_nil ?_
          refine c_ret ?_
          refine r_one rfl rfl ?_
          exact ⟨rfl, hS.nil⟩
end Go.Proofs.Ytcikoealneldkaa
