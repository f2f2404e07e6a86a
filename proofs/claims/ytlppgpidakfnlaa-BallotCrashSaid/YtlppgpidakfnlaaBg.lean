/- Ballots: a torn end cut off. -/
import Derived.Test.YtlppgpidakfnlaaBf
import Derived.Test.YtlppgpidakfnlaaMk
namespace Go.Proofs.Ytlppgpidakfnlaa
open Go Go.RowKit Go.Lib
variable {W : World}
theorem cut_n {w : World} {L R : List Asn} {g : Nat} {d : Dk} (hS : St W w L) (pk : Pick L (dskA g d) R) {i n : Nat} (hG : DGood d) (hc : d.calls ≤ 1000000000) (hg : d.gone = false) (hf : d.fuse < 0) (hi : i < 32) (hn : n ≤ (d.F i).1.length) : Calls Try.prog 136 #[.pointer (some ⟨g, 0, none⟩), .int .i64 (i : Int), .int .i64 (n : Int)] w fun e w' => e = .returned (.int .i64 0) ∧ St W w' (dskA g (tnD d (i : Int) 0 (cuF d.F i (n : Int))) :: R) := by
  have h := cut_calls (i := (i : Int)) (n := (n : Int)) hS pk hG hc
  simp only [Int.toNat_natCast] at h
  have e : cuE d.F i (n : Int) = 0 := by unfold cuE; rw [if_neg (by omega)]
  rw [e, (tn_run (F := F0) (i := (i : Int)) hg hf (by omega)).1] at h
  exact h
theorem syn_n {w : World} {L R : List Asn} {g : Nat} {d : Dk} (hS : St W w L) (pk : Pick L (dskA g d) R) {i : Nat} (hG : DGood d) (hc : d.calls ≤ 1000000000) (hg : d.gone = false) (hf : d.fuse < 0) (hi : i < 32) : Calls Try.prog 43 #[.pointer (some ⟨g, 0, none⟩), .int .i64 (i : Int)] w fun e w' => e = .returned (.int .i64 0) ∧ St W w' (dskA g (tnD d (i : Int) 0 (syF d.F i)) :: R) := by
  have h := syn_calls (i := (i : Int)) hS pk hG hc
  simp only [Int.toNat_natCast] at h
  rw [(tn_run (F := F0) (i := (i : Int)) hg hf (by omega)).1] at h
  exact h
attribute [local irreducible] blkA rowA rdrA rdO dskA
set_option maxHeartbeats 1000000 in
set_option maxRecDepth 100000 in
theorem tidy_calls {w : World} {R : List Asn} {g gd : Nat} {v1 v2 v3 v4 v5 v6 : Value} {d : Dk} {i : Nat} (hS : St W w (blkA g 107 [.pointer (some ⟨gd, 0, none⟩), v1, v2, v3, v4, v5, v6, .bool false] :: dskA gd d :: R)) (hi : i < 32) (hG : DGood d) (hg : d.gone = false) (hfu : d.fuse < 0) (hc : d.calls ≤ 999999000) : Calls Try.prog 97 #[.pointer (some ⟨g, 0, none⟩), .int .i64 (i : Int)] w fun e w' => e = .returned (.tuple #[]) ∧ St W w' (blkA g 107 [.pointer (some ⟨gd, 0, none⟩), v1, v2, v3, v4, v5, v6, .bool false] :: dskA gd (tdD d i) :: R) := by
  have hle := hG.len i
  obtain ⟨k1, k2, k3, k4⟩ := td1_ok (i := i) hG hg hfu
  refine calls_of_wpE (args := [_, _]) Try.func97 rfl rfl rfl ?_
  refine c_seq ?_
  refine c_region ?_
  refine t_q (q_mv (.pointer _) rfl) ?_
  refine t_q (q_nilCheck rfl) ?_
  refine t_q (q_fieldAddr 0 Try.runUnderlying107 rfl Try.sizeOf58 (by decide) rfl rfl) ?_
  refine t_q (q_load1 Try.isAgg58 rfl (hS.cell (by repeat first | exact .here _ _ | assumption | apply Pick.there) rfl)) ?_
  refine t_q (q_mv (.int _ _) rfl) ?_
  refine t_call Try.call52 (read_n (i := i) hS (by repeat first | exact .here _ _ | assumption | apply Pick.there) hG hi) rfl ?_
  rintro e w ⟨A12, c12, rfl, hS⟩
  refine ⟨_, rfl, ?_⟩
  have hle12 := hS.row_le (t := 5) (size := 1) (A := A12) (c := c12) (by repeat first | exact .here _ _ | assumption | apply Pick.there)
  refine t_q (q_as (.slice _ _ _) rfl) ?_
  refine t_nil ?_
  refine c_seq ?_
  refine c_region ?_
  refine t_q (q_mv (.slice _ _ _) rfl) ?_
  refine t_call Try.call21 (end_calls (hS.rowRd (A := A12) (c := c12) (bs := (d.F i).1) (by repeat first | exact .here _ _ | assumption | apply Pick.there) rfl) ⟨hle12, by omega⟩) rfl ?_
  rintro e w ⟨kk, hw, hne, rfl, hT⟩
  refine ⟨_, rfl, ?_⟩
  replace hS := hS.after hT
  have hpe := endN_at hw hne
  have hpl := pos_le hw
  rw [hpe]
  rw [hpe] at hpl
  refine t_q (q_mv (.tuple _) rfl) ?_
  refine t_q (q_extract rfl rfl) ?_
  refine t_q (q_extract rfl rfl) ?_
  refine t_q (q_as (.int _ _) rfl) ?_
  refine t_q (q_as (.int _ _) rfl) ?_
  refine t_nil ?_
  refine c_seq ?_
  refine c_seq ?_
  refine c_region ?_
  refine t_q (q_mv (.int _ _) rfl) ?_
  refine t_q (q_mv (.slice _ _ _) rfl) ?_
  refine t_q (q_len_slice Try.runUnderlying25 rfl) ?_
  refine t_q (q_lss rfl rfl) ?_
  refine t_q (q_mv (.bool _) rfl) ?_
  refine t_case 22 rfl ?_ ?_
  · intro hg6
    have hg6d := of_decide_eq_true hg6
    refine t_yes rfl rfl hg6 ?_
    refine t_q (q_mv (.pointer _) rfl) ?_
    refine t_yes rfl rfl hg6 ?_
    refine t_q (q_mv (.pointer _) rfl) ?_
    refine t_yes rfl rfl hg6 ?_
    refine t_q (q_nilCheck rfl) ?_
    refine t_yes rfl rfl hg6 ?_
    refine t_q (q_fieldAddr 0 Try.runUnderlying107 rfl Try.sizeOf58 (by decide) rfl rfl) ?_
    refine t_yes rfl rfl hg6 ?_
    refine t_q (q_load1 Try.isAgg58 rfl (hS.cell (by repeat first | exact .here _ _ | assumption | apply Pick.there) rfl)) ?_
    refine t_yes rfl rfl hg6 ?_
    refine t_q (q_mv (.int _ _) rfl) ?_
    refine t_yes rfl rfl hg6 ?_
    refine t_q (q_mv (.int _ _) rfl) ?_
    refine t_yes rfl rfl hg6 ?_
    refine t_call Try.call136 (cut_n (i := i) (n := endN (d.F i).1) hS (by repeat first | exact .here _ _ | assumption | apply Pick.there) hG (by omega) hg hfu hi hpl.2) rfl ?_
    rintro e w ⟨rfl, hS⟩
    refine ⟨_, rfl, ?_⟩
    have h1 : td1 d i = tnD d (i : Int) 0 (cuF d.F i (endN (d.F i).1 : Int)) := by unfold td1; rw [if_pos (by omega)]
    rw [← h1] at hS
    refine t_yes rfl rfl hg6 ?_
    refine t_call Try.call100 (bdone_calls (e0 := 0) hS (by repeat first | exact .here _ _ | assumption | apply Pick.there)) rfl ?_
    rintro e w ⟨rfl, hS⟩
    refine ⟨_, rfl, ?_⟩
    replace hS := hS.recast (show _ = blkA g 107 [.pointer (some ⟨gd, 0, none⟩), v1, v2, v3, v4, v5, v6, .bool false] from rfl)
    refine t_yes rfl rfl hg6 ?_
    refine t_q (q_cast (v' := .bool false) (q_not rfl) (by rfl)) ?_
    refine t_q (q_pick_t rfl hg6) ?_
    refine t_q (q_mv (.bool _) rfl) ?_
    refine t_yes rfl rfl rfl ?_
    refine t_q (q_mv (.slice _ _ _) rfl) ?_
    refine t_yes rfl rfl rfl ?_
    refine t_q (q_len_slice Try.runUnderlying25 rfl) ?_
    refine t_yes rfl rfl rfl ?_
    refine t_q (q_eql rfl rfl) ?_
    refine t_q (q_pick_f rfl rfl) ?_
    refine t_nil ?_
    refine c_cond rfl ?_ ?_
    · intro hc10
      have hc10d := of_decide_eq_true hc10
      have h0 : (d.F i).1.length = 0 := by omega
      have h1 : td1 d i = d := by unfold td1; rw [if_neg (by omega)]
      have h2 : tdD d i = d := by unfold tdD; rw [if_pos h0, h1]
      refine c_ret ?_
      refine r_none rfl  ?_
      first
        | (exfalso; omega)
        | (rw [h2]
           exact ⟨rfl, ((((hS.pick (A := rowA 5 1 A12 (d.F i).1.length c12 ((d.F i).1.map bv)) (by repeat first | exact .here _ _ | assumption | apply Pick.there)).drop).pick (A := dskA gd _) (by repeat first | exact .here _ _ | assumption | apply Pick.there)).pick (A := blkA g 107 [.pointer (some ⟨gd, 0, none⟩), v1, v2, v3, v4, v5, v6, .bool false]) (by repeat first | exact .here _ _ | assumption | apply Pick.there))⟩)
    · intro hc10
      have hc10d := of_decide_eq_false hc10
      have h0 : ¬ (d.F i).1.length = 0 := by omega
      have h2 : tdD d i = tnD (td1 d i) (i : Int) 0 (syF (td1 d i).F i) := by unfold tdD; rw [if_neg h0]
      replace hS := (hS.pick (A := dskA gd _) (by repeat first | exact .here _ _ | assumption | apply Pick.there)).recast (show _ = dskA gd (td1 d i) from congrArg (dskA gd) (by
        first
          | rfl
          | (unfold td1; rw [if_neg (by omega)])))
      refine c_skip ?_
      skip
      refine c_region ?_
      refine t_q (q_mv (.pointer _) rfl) ?_
      refine t_q (q_mv (.pointer _) rfl) ?_
      refine t_q (q_nilCheck rfl) ?_
      refine t_q (q_fieldAddr 0 Try.runUnderlying107 rfl Try.sizeOf58 (by decide) rfl rfl) ?_
      refine t_q (q_load1 Try.isAgg58 rfl (hS.cell (by repeat first | exact .here _ _ | assumption | apply Pick.there) rfl)) ?_
      refine t_q (q_mv (.int _ _) rfl) ?_
      refine t_call Try.call43 (syn_n (i := i) hS (by repeat first | exact .here _ _ | assumption | apply Pick.there) k1 (by omega) k2 (by omega) hi) rfl ?_
      rintro e w ⟨rfl, hS⟩
      refine ⟨_, rfl, ?_⟩
      refine t_call Try.call100 (bdone_calls (e0 := 0) hS (by repeat first | exact .here _ _ | assumption | apply Pick.there)) rfl ?_
      rintro e w ⟨rfl, hS⟩
      refine ⟨_, rfl, ?_⟩
      replace hS := hS.recast (show _ = blkA g 107 [.pointer (some ⟨gd, 0, none⟩), v1, v2, v3, v4, v5, v6, .bool false] from rfl)
      refine t_nil ?_
      refine r_none rfl  ?_
      first
        | (exfalso; omega)
        | (rw [h2]
           exact ⟨rfl, ((((hS.pick (A := rowA 5 1 A12 (d.F i).1.length c12 ((d.F i).1.map bv)) (by repeat first | exact .here _ _ | assumption | apply Pick.there)).drop).pick (A := dskA gd _) (by repeat first | exact .here _ _ | assumption | apply Pick.there)).pick (A := blkA g 107 [.pointer (some ⟨gd, 0, none⟩), v1, v2, v3, v4, v5, v6, .bool false]) (by repeat first | exact .here _ _ | assumption | apply Pick.there))⟩)
  · intro hg6
    have hg6d := of_decide_eq_false hg6
    refine t_no rfl rfl (by rw [hg6]; decide) ?_
    refine t_no rfl rfl (by rw [hg6]; decide) ?_
    refine t_no rfl rfl (by rw [hg6]; decide) ?_
    refine t_no rfl rfl (by rw [hg6]; decide) ?_
    refine t_no rfl rfl (by rw [hg6]; decide) ?_
    refine t_no rfl rfl (by rw [hg6]; decide) ?_
    refine t_no rfl rfl (by rw [hg6]; decide) ?_
    refine t_no rfl rfl (by rw [hg6]; decide) ?_
    refine t_no rfl rfl (by rw [hg6]; decide) ?_
    refine t_no rfl rfl (by rw [hg6]; decide) ?_
    refine t_q (q_pick_f rfl hg6) ?_
    refine t_q (q_mv (.bool _) rfl) ?_
    refine t_yes rfl rfl rfl ?_
    refine t_q (q_mv (.slice _ _ _) rfl) ?_
    refine t_yes rfl rfl rfl ?_
    refine t_q (q_len_slice Try.runUnderlying25 rfl) ?_
    refine t_yes rfl rfl rfl ?_
    refine t_q (q_eql rfl rfl) ?_
    refine t_q (q_pick_f rfl rfl) ?_
    refine t_nil ?_
    refine c_cond rfl ?_ ?_
    · intro hc14
      have hc14d := of_decide_eq_true hc14
      have h0 : (d.F i).1.length = 0 := by omega
      have h1 : td1 d i = d := by unfold td1; rw [if_neg (by omega)]
      have h2 : tdD d i = d := by unfold tdD; rw [if_pos h0, h1]
      refine c_ret ?_
      refine r_none rfl  ?_
      first
        | (exfalso; omega)
        | (rw [h2]
           exact ⟨rfl, ((((hS.pick (A := rowA 5 1 A12 (d.F i).1.length c12 ((d.F i).1.map bv)) (by repeat first | exact .here _ _ | assumption | apply Pick.there)).drop).pick (A := dskA gd _) (by repeat first | exact .here _ _ | assumption | apply Pick.there)).pick (A := blkA g 107 [.pointer (some ⟨gd, 0, none⟩), v1, v2, v3, v4, v5, v6, .bool false]) (by repeat first | exact .here _ _ | assumption | apply Pick.there))⟩)
    · intro hc14
      have hc14d := of_decide_eq_false hc14
      have h0 : ¬ (d.F i).1.length = 0 := by omega
      have h2 : tdD d i = tnD (td1 d i) (i : Int) 0 (syF (td1 d i).F i) := by unfold tdD; rw [if_neg h0]
      replace hS := (hS.pick (A := dskA gd _) (by repeat first | exact .here _ _ | assumption | apply Pick.there)).recast (show _ = dskA gd (td1 d i) from congrArg (dskA gd) (by
        first
          | rfl
          | (unfold td1; rw [if_neg (by omega)])))
      refine c_skip ?_
      skip
      refine c_region ?_
      refine t_q (q_mv (.pointer _) rfl) ?_
      refine t_q (q_mv (.pointer _) rfl) ?_
      refine t_q (q_nilCheck rfl) ?_
      refine t_q (q_fieldAddr 0 Try.runUnderlying107 rfl Try.sizeOf58 (by decide) rfl rfl) ?_
      refine t_q (q_load1 Try.isAgg58 rfl (hS.cell (by repeat first | exact .here _ _ | assumption | apply Pick.there) rfl)) ?_
      refine t_q (q_mv (.int _ _) rfl) ?_
      refine t_call Try.call43 (syn_n (i := i) hS (by repeat first | exact .here _ _ | assumption | apply Pick.there) k1 (by omega) k2 (by omega) hi) rfl ?_
      rintro e w ⟨rfl, hS⟩
      refine ⟨_, rfl, ?_⟩
      refine t_call Try.call100 (bdone_calls (e0 := 0) hS (by repeat first | exact .here _ _ | assumption | apply Pick.there)) rfl ?_
      rintro e w ⟨rfl, hS⟩
      refine ⟨_, rfl, ?_⟩
      replace hS := hS.recast (show _ = blkA g 107 [.pointer (some ⟨gd, 0, none⟩), v1, v2, v3, v4, v5, v6, .bool false] from rfl)
      refine t_nil ?_
      refine r_none rfl  ?_
      first
        | (exfalso; omega)
        | (rw [h2]
           exact ⟨rfl, ((((hS.pick (A := rowA 5 1 A12 (d.F i).1.length c12 ((d.F i).1.map bv)) (by repeat first | exact .here _ _ | assumption | apply Pick.there)).drop).pick (A := dskA gd _) (by repeat first | exact .here _ _ | assumption | apply Pick.there)).pick (A := blkA g 107 [.pointer (some ⟨gd, 0, none⟩), v1, v2, v3, v4, v5, v6, .bool false]) (by repeat first | exact .here _ _ | assumption | apply Pick.there))⟩)
set_option maxRecDepth 100000 in
theorem bopen_nil {n ea : Int} : Calls Try.prog 47 #[.pointer none, .int .i64 n, .int .i64 ea] W fun e w' => e = .returned (.tuple #[.pointer none, .int .i64 1]) ∧ St W w' [] := by
  have hS := St.init W
  refine calls_of_wpE (args := [_, _, _]) Try.func47 rfl rfl rfl ?_
  refine c_seq ?_
  refine c_region ?_
  refine t_q (q_assign) ?_
  refine t_q (q_assign) ?_
  refine t_nil ?_
  refine c_seq ?_
  refine c_block ?_
  refine c_seq ?_
  refine c_region ?_
  refine t_q (q_mv (.pointer _) rfl) ?_
  refine t_q (q_eql_ptr_nil Try.runUnderlying58 rfl rfl) ?_
  refine t_q (q_as (.bool _) rfl) ?_
  refine t_nil ?_
  refine c_cond_t rfl rfl ?_
  refine c_seq ?_
  refine c_region ?_
  refine t_q (q_assign) ?_
  refine t_q (q_assign) ?_
  refine t_nil ?_
  refine c_ret ?_
  refine r_two rfl rfl rfl ?_
  exact ⟨rfl, hS⟩
set_option maxRecDepth 100000 in
theorem bopen_gone {w : World} {L R : List Asn} {gd : Nat} {d : Dk} {n ea : Int} (hS : St W w L) (pk : Pick L (dskA gd d) R) (hg : d.gone = true) : Calls Try.prog 47 #[.pointer (some ⟨gd, 0, none⟩), .int .i64 n, .int .i64 ea] w fun e w' => e = .returned (.tuple #[.pointer none, .int .i64 70]) ∧ St W w' (dskA gd d :: R) := by
  replace hS := hS.pick pk
  clear pk
  refine calls_of_wpE (args := [_, _, _]) Try.func47 rfl rfl rfl ?_
  refine c_seq ?_
  refine c_region ?_
  refine t_q (q_assign) ?_
  refine t_q (q_assign) ?_
  refine t_nil ?_
  refine c_seq ?_
  refine c_block ?_
  refine c_seq ?_
  refine c_region ?_
  refine t_q (q_mv (.pointer _) rfl) ?_
  refine t_q (q_eql_ptr_nil Try.runUnderlying58 rfl rfl) ?_
  refine t_q (q_as (.bool _) rfl) ?_
  refine t_nil ?_
  refine c_cond_f rfl rfl ?_
  refine c_seq ?_
  refine c_region ?_
  refine t_q (q_mv (.pointer _) rfl) ?_
  refine t_call Try.call44 (down_calls hS (by repeat first | exact .here _ _ | assumption | apply Pick.there)) rfl ?_
  rintro e w ⟨rfl, hS⟩
  refine ⟨_, rfl, ?_⟩
  rw [hg]
  refine t_q (q_as (.bool _) rfl) ?_
  refine t_nil ?_
  refine c_cond_t rfl rfl ?_
  refine c_seq ?_
  refine c_region ?_
  refine t_q (q_assign) ?_
  refine t_q (q_assign) ?_
  refine t_nil ?_
  refine c_ret ?_
  refine r_two rfl rfl rfl ?_
  exact ⟨rfl, hS⟩
set_option maxRecDepth 100000 in
theorem bopen_arg {w : World} {L R : List Asn} {gd : Nat} {d : Dk} {n ea : Int} (hS : St W w L) (pk : Pick L (dskA gd d) R) (hg : d.gone = false) (hn : n < 0 ∨ 30 < n ∨ ea < 16 ∨ 1048576 < ea) : Calls Try.prog 47 #[.pointer (some ⟨gd, 0, none⟩), .int .i64 n, .int .i64 ea] w fun e w' => e = .returned (.tuple #[.pointer none, .int .i64 2]) ∧ St W w' (dskA gd d :: R) := by
  replace hS := hS.pick pk
  clear pk
  refine calls_of_wpE (args := [_, _, _]) Try.func47 rfl rfl rfl ?_
  refine c_seq ?_
  refine c_region ?_
  refine t_q (q_assign) ?_
  refine t_q (q_assign) ?_
  refine t_nil ?_
  refine c_seq ?_
  refine c_block ?_
  refine c_seq ?_
  refine c_region ?_
  refine t_q (q_mv (.pointer _) rfl) ?_
  refine t_q (q_eql_ptr_nil Try.runUnderlying58 rfl rfl) ?_
  refine t_q (q_as (.bool _) rfl) ?_
  refine t_nil ?_
  refine c_cond_f rfl rfl ?_
  refine c_seq ?_
  refine c_region ?_
  refine t_q (q_mv (.pointer _) rfl) ?_
  refine t_call Try.call44 (down_calls hS (by repeat first | exact .here _ _ | assumption | apply Pick.there)) rfl ?_
  rintro e w ⟨rfl, hS⟩
  refine ⟨_, rfl, ?_⟩
  rw [hg]
  refine t_q (q_as (.bool _) rfl) ?_
  refine t_nil ?_
  refine c_cond_f rfl rfl ?_
  refine c_seq ?_
  refine c_region ?_
  refine t_q (q_mv (.int _ _) rfl) ?_
  refine t_q (q_lss rfl rfl) ?_
  refine t_q (q_mv (.bool _) rfl) ?_
  refine t_case 23 rfl ?_ ?_
  · intro hg3
    have hg3d := of_decide_eq_true hg3
    refine t_no rfl rfl (by rw [hg3]; decide) ?_
    refine t_no rfl rfl (by rw [hg3]; decide) ?_
    refine t_q (q_pick_t rfl hg3) ?_
    refine t_q (q_mv (.bool _) rfl) ?_
    refine t_no rfl rfl (by decide) ?_
    refine t_no rfl rfl (by decide) ?_
    refine t_q (q_pick_t rfl rfl) ?_
    refine t_q (q_mv (.bool _) rfl) ?_
    refine t_no rfl rfl (by decide) ?_
    refine t_no rfl rfl (by decide) ?_
    refine t_q (q_pick_t rfl rfl) ?_
    refine t_q (q_as (.bool _) rfl) ?_
    refine t_nil ?_
    refine c_cond_t rfl rfl ?_
    refine c_seq ?_
    refine c_region ?_
    refine t_q (q_assign) ?_
    refine t_q (q_assign) ?_
    refine t_nil ?_
    refine c_ret ?_
    refine r_two rfl rfl rfl ?_
    exact ⟨rfl, hS⟩
  · intro hg3
    have hg3d := of_decide_eq_false hg3
    refine t_yes rfl rfl hg3 ?_
    refine t_q (q_mv (.int _ _) rfl) ?_
    refine t_yes rfl rfl hg3 ?_
    refine t_q (q_gtr rfl rfl) ?_
    refine t_q (q_pick_f rfl hg3) ?_
    refine t_q (q_mv (.bool _) rfl) ?_
    refine t_case 27 rfl ?_ ?_
    · intro hg5
      have hg5d := of_decide_eq_true hg5
      refine t_no rfl rfl (by rw [hg5]; decide) ?_
      refine t_no rfl rfl (by rw [hg5]; decide) ?_
      refine t_q (q_pick_t rfl hg5) ?_
      refine t_q (q_mv (.bool _) rfl) ?_
      refine t_no rfl rfl (by decide) ?_
      refine t_no rfl rfl (by decide) ?_
      refine t_q (q_pick_t rfl rfl) ?_
      refine t_q (q_as (.bool _) rfl) ?_
      refine t_nil ?_
      refine c_cond_t rfl rfl ?_
      refine c_seq ?_
      refine c_region ?_
      refine t_q (q_assign) ?_
      refine t_q (q_assign) ?_
      refine t_nil ?_
      refine c_ret ?_
      refine r_two rfl rfl rfl ?_
      exact ⟨rfl, hS⟩
    · intro hg5
      have hg5d := of_decide_eq_false hg5
      refine t_yes rfl rfl hg5 ?_
      refine t_q (q_mv (.int _ _) rfl) ?_
      refine t_yes rfl rfl hg5 ?_
      refine t_q (q_lss rfl rfl) ?_
      refine t_q (q_pick_f rfl hg5) ?_
      refine t_q (q_mv (.bool _) rfl) ?_
      refine t_case 31 rfl ?_ ?_
      · intro hg7
        have hg7d := of_decide_eq_true hg7
        refine t_no rfl rfl (by rw [hg7]; decide) ?_
        refine t_no rfl rfl (by rw [hg7]; decide) ?_
        refine t_q (q_pick_t rfl hg7) ?_
        refine t_q (q_as (.bool _) rfl) ?_
        refine t_nil ?_
        refine c_cond_t rfl rfl ?_
        refine c_seq ?_
        refine c_region ?_
        refine t_q (q_assign) ?_
        refine t_q (q_assign) ?_
        refine t_nil ?_
        refine c_ret ?_
        refine r_two rfl rfl rfl ?_
        exact ⟨rfl, hS⟩
      · intro hg7
        have hg7d := of_decide_eq_false hg7
        refine t_yes rfl rfl hg7 ?_
        refine t_q (q_mv (.int _ _) rfl) ?_
        refine t_yes rfl rfl hg7 ?_
        refine t_q (q_gtr rfl rfl) ?_
        refine t_q (q_pick_f rfl hg7) ?_
        refine t_q (q_as (.bool _) rfl) ?_
        refine t_nil ?_
        refine c_cond rfl ?_ ?_
        · intro hc9
          have hc9d := of_decide_eq_true hc9
          refine c_seq ?_
          refine c_region ?_
          refine t_q (q_assign) ?_
          refine t_q (q_assign) ?_
          refine t_nil ?_
          refine c_ret ?_
          refine r_two rfl rfl rfl ?_
          exact ⟨rfl, hS⟩
        · intro hc9
          have hc9d := of_decide_eq_false hc9
          exfalso; omega
set_option maxRecDepth 100000 in
theorem bopen_form {w : World} {R : List Asn} {gd : Nat} {d : Dk} {n : Nat} {ea : Int} (hS : St W w (dskA gd d :: R)) (hn : n ≤ 30) (hea : 16 ≤ ea ∧ ea ≤ 1048576) (hG : DGood d) (hg : d.gone = false) (hfu : d.fuse < 0) (hc : d.calls ≤ 999990000) (hE : (btl (d.F n).1 (d.F (n + 1)).1).2.2 ≠ 0) :
  Calls Try.prog 47 #[.pointer (some ⟨gd, 0, none⟩), .int .i64 (n : Int), .int .i64 ea] w fun e w' => e = .returned (.tuple #[.pointer none, .int .i64 (btl (d.F n).1 (d.F (n + 1)).1).2.2]) ∧ St W w' (dskA gd d :: R) := by
  refine calls_of_wpE (args := [_, _, _]) Try.func47 rfl rfl rfl ?_
  refine c_seq ?_
  refine c_region ?_
  refine t_q (q_assign) ?_
  refine t_q (q_assign) ?_
  refine t_nil ?_
  refine c_seq ?_
  refine c_block ?_
  refine c_seq ?_
  refine c_region ?_
  refine t_q (q_mv (.pointer _) rfl) ?_
  refine t_q (q_eql_ptr_nil Try.runUnderlying58 rfl rfl) ?_
  refine t_q (q_as (.bool _) rfl) ?_
  refine t_nil ?_
  refine c_cond_f rfl rfl ?_
  refine c_seq ?_
  refine c_region ?_
  refine t_q (q_mv (.pointer _) rfl) ?_
  refine t_call Try.call44 (down_calls hS (by repeat first | exact .here _ _ | assumption | apply Pick.there)) rfl ?_
  rintro e w ⟨rfl, hS⟩
  refine ⟨_, rfl, ?_⟩
  rw [hg]
  refine t_q (q_as (.bool _) rfl) ?_
  refine t_nil ?_
  refine c_cond_f rfl rfl ?_
  refine c_seq ?_
  refine c_region ?_
  refine t_q (q_mv (.int _ _) rfl) ?_
  refine t_q (q_lss rfl rfl) ?_
  refine t_q (q_mv (.bool _) rfl) ?_
  refine t_case 23 rfl ?_ ?_
  · intro hg3
    have hg3d := of_decide_eq_true hg3
    refine t_no rfl rfl (by rw [hg3]; decide) ?_
    refine t_no rfl rfl (by rw [hg3]; decide) ?_
    refine t_q (q_pick_t rfl hg3) ?_
    refine t_q (q_mv (.bool _) rfl) ?_
    refine t_no rfl rfl (by decide) ?_
    refine t_no rfl rfl (by decide) ?_
    refine t_q (q_pick_t rfl rfl) ?_
    refine t_q (q_mv (.bool _) rfl) ?_
    refine t_no rfl rfl (by decide) ?_
    refine t_no rfl rfl (by decide) ?_
    refine t_q (q_pick_t rfl rfl) ?_
    refine t_q (q_as (.bool _) rfl) ?_
    refine t_nil ?_
    refine c_cond_t rfl rfl ?_
    exfalso; omega
  · intro hg3
    have hg3d := of_decide_eq_false hg3
    refine t_yes rfl rfl hg3 ?_
    refine t_q (q_mv (.int _ _) rfl) ?_
    refine t_yes rfl rfl hg3 ?_
    refine t_q (q_gtr rfl rfl) ?_
    refine t_q (q_pick_f rfl hg3) ?_
    refine t_q (q_mv (.bool _) rfl) ?_
    refine t_case 27 rfl ?_ ?_
    · intro hg5
      have hg5d := of_decide_eq_true hg5
      refine t_no rfl rfl (by rw [hg5]; decide) ?_
      refine t_no rfl rfl (by rw [hg5]; decide) ?_
      refine t_q (q_pick_t rfl hg5) ?_
      refine t_q (q_mv (.bool _) rfl) ?_
      refine t_no rfl rfl (by decide) ?_
      refine t_no rfl rfl (by decide) ?_
      refine t_q (q_pick_t rfl rfl) ?_
      refine t_q (q_as (.bool _) rfl) ?_
      refine t_nil ?_
      refine c_cond_t rfl rfl ?_
      exfalso; omega
    · intro hg5
      have hg5d := of_decide_eq_false hg5
      refine t_yes rfl rfl hg5 ?_
      refine t_q (q_mv (.int _ _) rfl) ?_
      refine t_yes rfl rfl hg5 ?_
      refine t_q (q_lss rfl rfl) ?_
      refine t_q (q_pick_f rfl hg5) ?_
      refine t_q (q_mv (.bool _) rfl) ?_
      refine t_case 31 rfl ?_ ?_
      · intro hg7
        have hg7d := of_decide_eq_true hg7
        refine t_no rfl rfl (by rw [hg7]; decide) ?_
        refine t_no rfl rfl (by rw [hg7]; decide) ?_
        refine t_q (q_pick_t rfl hg7) ?_
        refine t_q (q_as (.bool _) rfl) ?_
        refine t_nil ?_
        refine c_cond_t rfl rfl ?_
        exfalso; omega
      · intro hg7
        have hg7d := of_decide_eq_false hg7
        refine t_yes rfl rfl hg7 ?_
        refine t_q (q_mv (.int _ _) rfl) ?_
        refine t_yes rfl rfl hg7 ?_
        refine t_q (q_gtr rfl rfl) ?_
        refine t_q (q_pick_f rfl hg7) ?_
        refine t_q (q_as (.bool _) rfl) ?_
        refine t_nil ?_
        refine c_cond rfl ?_ ?_
        · intro hc9
          have hc9d := of_decide_eq_true hc9
          exfalso; omega
        · intro hc9
          have hc9d := of_decide_eq_false hc9
          refine c_skip ?_
          refine c_seq ?_
          refine c_region ?_
          refine t_q (q_mv (.pointer _) rfl) ?_
          refine t_q (q_mv (.int _ _) rfl) ?_
          refine t_q (q_mv (.int _ _) rfl) ?_
          refine t_q (q_add_i64 rfl rfl (by omega)) ?_
          refine t_q (q_build_arr [(0, 1), (1, 1)] [(.int _ _), (.int _ _)] Try.zeroValue73 Try.runUnderlying73 Try.sizeOf3 rfl rfl rfl) ?_
          refine t_q (q_mv (.int _ _) rfl) ?_
          refine t_q (q_build (qs := [(0, 1), (1, 2), (3, 1), (4, 1), (5, 2), (7, 1)]) [(.pointer _), (.int _ _), (.int _ _), (.int _ _), (.int _ _), (.int _ _), (.int _ _), (.bool _)] Try.zeroValue107 Try.runUnderlying107 ⟨rfl, Try.sizeOf58, rfl, Try.sizeOf73, rfl, Try.sizeOf3, rfl, Try.sizeOf3, rfl, Try.sizeOf105, rfl, Try.sizeOf4, trivial⟩ rfl rfl) ?_
          refine t_box (v := (.agg _)) rfl rfl hS (fun g42 w hS => ?_)
          replace hS := hS.recast (show blkA g42 107 _ = blkA g42 107 [.pointer (some ⟨gd, 0, none⟩), .int .i64 (n : Int), .int .i64 ((n : Int) + 1), .int .i64 0, .int .i64 ea, .int .u64 0, .int .u64 0, .bool false] from rfl)
          refine t_q (q_as (.pointer _) rfl) ?_
          refine t_nil ?_
          refine c_seq ?_
          refine c_region ?_
          refine t_q (q_mv (.pointer _) rfl) ?_
          refine t_q (q_mv (.int _ _) rfl) ?_
          refine t_call Try.call52 (read_n (i := n) hS (by repeat first | exact .here _ _ | assumption | apply Pick.there) hG (by omega)) rfl ?_
          rintro e w ⟨A46, c46, rfl, hS⟩
          refine ⟨_, rfl, ?_⟩
          have hle46 := hS.row_le (t := 5) (size := 1) (A := A46) (c := c46) (by repeat first | exact .here _ _ | assumption | apply Pick.there)
          refine t_q (q_mv (.pointer _) rfl) ?_
          refine t_q (q_mv (.int _ _) rfl) ?_
          refine t_q (q_cast (v' := .int .i64 ((n + 1 : Nat) : Int)) (q_add_i64 rfl rfl (by omega)) (by congr 1)) ?_
          refine t_call Try.call52 (read_n (i := n + 1) hS (by repeat first | exact .here _ _ | assumption | apply Pick.there) hG (by omega)) rfl ?_
          rintro e w ⟨A50, c50, rfl, hS⟩
          refine ⟨_, rfl, ?_⟩
          have hle50 := hS.row_le (t := 5) (size := 1) (A := A50) (c := c50) (by repeat first | exact .here _ _ | assumption | apply Pick.there)
          refine t_call Try.call96 (btell_calls (a := (d.F n).1) (b := (d.F (n + 1)).1) (hS.rowRd (A := A46) (c := c46) (bs := (d.F n).1) (by repeat first | exact .here _ _ | assumption | apply Pick.there) rfl) (hS.rowRd (A := A50) (c := c50) (bs := (d.F (n + 1)).1) (by repeat first | exact .here _ _ | assumption | apply Pick.there) rfl) ⟨hle46, by have := hG.len n; omega⟩ ⟨hle50, by have := hG.len (n + 1); omega⟩) rfl ?_
          rintro e w ⟨rfl, hT⟩
          refine ⟨_, rfl, ?_⟩
          replace hS := hS.after hT
          refine t_q (q_mv (.tuple _) rfl) ?_
          refine t_q (q_extract rfl rfl) ?_
          refine t_q (q_extract rfl rfl) ?_
          refine t_q (q_extract rfl rfl) ?_
          refine t_alloc Try.zeroValue105 rfl hS (fun g9 w hS => ?_)
          refine t_store (v := (.agg _)) Try.sizeOf105 hS (by repeat first | exact .here _ _ | assumption | apply Pick.there) rfl rfl rfl rfl rfl rfl (fun w hS => ?_)
          replace hS := hS.recast (show blkA g9 105 _ = blkA g9 105 [.int .u64 (((btl (d.F n).1 (d.F (n + 1)).1).1).1 : Int), .int .u64 (((btl (d.F n).1 (d.F (n + 1)).1).1).2 : Int)] from rfl)
          refine t_q (q_as (.bool _) rfl) ?_
          refine t_q (q_as (.int _ _) rfl) ?_
          refine t_nil ?_
          refine c_seq ?_
          refine c_seq ?_
          refine c_region ?_
          refine t_q (q_mv (.int _ _) rfl) ?_
          refine t_q (q_neq rfl rfl) ?_
          refine t_nil ?_
          refine c_cond rfl ?_ ?_
          · intro hc17
            have hc17d := of_decide_eq_true hc17
            refine c_seq ?_
            refine c_region ?_
            refine t_q (q_mv (.int _ _) rfl) ?_
            refine t_q (q_assign) ?_
            refine t_q (q_as (.int _ _) rfl) ?_
            refine t_nil ?_
            refine c_ret ?_
            refine r_two rfl rfl rfl ?_
            exact ⟨rfl, ((((hS.pick (A := blkA g42 107 _) (by repeat first | exact .here _ _ | assumption | apply Pick.there)).pick (A := blkA g9 105 [.int .u64 (((btl (d.F n).1 (d.F (n + 1)).1).1).1 : Int), .int .u64 (((btl (d.F n).1 (d.F (n + 1)).1).1).2 : Int)]) (by repeat first | exact .here _ _ | assumption | apply Pick.there)).pick (A := rowA 5 1 A50 (d.F (n + 1)).1.length c50 ((d.F (n + 1)).1.map bv)) (by repeat first | exact .here _ _ | assumption | apply Pick.there)).pick (A := rowA 5 1 A46 (d.F n).1.length c46 ((d.F n).1.map bv)) (by repeat first | exact .here _ _ | assumption | apply Pick.there)).drop.drop.drop.drop⟩
          · intro hc17
            have hc17d := of_decide_eq_false hc17
            exfalso; omega
set_option maxHeartbeats 1000000 in
set_option maxRecDepth 100000 in
theorem bopen_calls {w : World} {R : List Asn} {gd : Nat} {d : Dk} {n : Nat} {ea : Int} (hS : St W w (dskA gd d :: R)) (hn : n ≤ 30) (hea : 16 ≤ ea ∧ ea ≤ 1048576) (hG : DGood d) (hg : d.gone = false) (hfu : d.fuse < 0) (hc : d.calls ≤ 999990000) (hE : (btl (d.F n).1 (d.F (n + 1)).1).2.2 = 0) :
  Calls Try.prog 47 #[.pointer (some ⟨gd, 0, none⟩), .int .i64 (n : Int), .int .i64 ea] w fun e w' => ∃ g, e = .returned (.tuple #[.pointer (some ⟨g, 0, none⟩), .int .i64 0]) ∧ St W w' (blA g gd ⟨(n : Int), (if (btl (d.F n).1 (d.F (n + 1)).1).2.1 then 1 else 0), ea, (btl (d.F n).1 (d.F (n + 1)).1).1, false⟩ :: dskA gd (tdJ d n 2) :: R) := by
  refine calls_of_wpE (args := [_, _, _]) Try.func47 rfl rfl rfl ?_
  refine c_seq ?_
  refine c_region ?_
  refine t_q (q_assign) ?_
  refine t_q (q_assign) ?_
  refine t_nil ?_
  refine c_seq ?_
  refine c_block ?_
  refine c_seq ?_
  refine c_region ?_
  refine t_q (q_mv (.pointer _) rfl) ?_
  refine t_q (q_eql_ptr_nil Try.runUnderlying58 rfl rfl) ?_
  refine t_q (q_as (.bool _) rfl) ?_
  refine t_nil ?_
  refine c_cond_f rfl rfl ?_
  refine c_seq ?_
  refine c_region ?_
  refine t_q (q_mv (.pointer _) rfl) ?_
  refine t_call Try.call44 (down_calls hS (by repeat first | exact .here _ _ | assumption | apply Pick.there)) rfl ?_
  rintro e w ⟨rfl, hS⟩
  refine ⟨_, rfl, ?_⟩
  rw [hg]
  refine t_q (q_as (.bool _) rfl) ?_
  refine t_nil ?_
  refine c_cond_f rfl rfl ?_
  refine c_seq ?_
  refine c_region ?_
  refine t_q (q_mv (.int _ _) rfl) ?_
  refine t_q (q_lss rfl rfl) ?_
  refine t_q (q_mv (.bool _) rfl) ?_
  refine t_case 23 rfl ?_ ?_
  · intro hg3
    have hg3d := of_decide_eq_true hg3
    refine t_no rfl rfl (by rw [hg3]; decide) ?_
    refine t_no rfl rfl (by rw [hg3]; decide) ?_
    refine t_q (q_pick_t rfl hg3) ?_
    refine t_q (q_mv (.bool _) rfl) ?_
    refine t_no rfl rfl (by decide) ?_
    refine t_no rfl rfl (by decide) ?_
    refine t_q (q_pick_t rfl rfl) ?_
    refine t_q (q_mv (.bool _) rfl) ?_
    refine t_no rfl rfl (by decide) ?_
    refine t_no rfl rfl (by decide) ?_
    refine t_q (q_pick_t rfl rfl) ?_
    refine t_q (q_as (.bool _) rfl) ?_
    refine t_nil ?_
    refine c_cond_t rfl rfl ?_
    exfalso; omega
  · intro hg3
    have hg3d := of_decide_eq_false hg3
    refine t_yes rfl rfl hg3 ?_
    refine t_q (q_mv (.int _ _) rfl) ?_
    refine t_yes rfl rfl hg3 ?_
    refine t_q (q_gtr rfl rfl) ?_
    refine t_q (q_pick_f rfl hg3) ?_
    refine t_q (q_mv (.bool _) rfl) ?_
    refine t_case 27 rfl ?_ ?_
    · intro hg5
      have hg5d := of_decide_eq_true hg5
      refine t_no rfl rfl (by rw [hg5]; decide) ?_
      refine t_no rfl rfl (by rw [hg5]; decide) ?_
      refine t_q (q_pick_t rfl hg5) ?_
      refine t_q (q_mv (.bool _) rfl) ?_
      refine t_no rfl rfl (by decide) ?_
      refine t_no rfl rfl (by decide) ?_
      refine t_q (q_pick_t rfl rfl) ?_
      refine t_q (q_as (.bool _) rfl) ?_
      refine t_nil ?_
      refine c_cond_t rfl rfl ?_
      exfalso; omega
    · intro hg5
      have hg5d := of_decide_eq_false hg5
      refine t_yes rfl rfl hg5 ?_
      refine t_q (q_mv (.int _ _) rfl) ?_
      refine t_yes rfl rfl hg5 ?_
      refine t_q (q_lss rfl rfl) ?_
      refine t_q (q_pick_f rfl hg5) ?_
      refine t_q (q_mv (.bool _) rfl) ?_
      refine t_case 31 rfl ?_ ?_
      · intro hg7
        have hg7d := of_decide_eq_true hg7
        refine t_no rfl rfl (by rw [hg7]; decide) ?_
        refine t_no rfl rfl (by rw [hg7]; decide) ?_
        refine t_q (q_pick_t rfl hg7) ?_
        refine t_q (q_as (.bool _) rfl) ?_
        refine t_nil ?_
        refine c_cond_t rfl rfl ?_
        exfalso; omega
      · intro hg7
        have hg7d := of_decide_eq_false hg7
        refine t_yes rfl rfl hg7 ?_
        refine t_q (q_mv (.int _ _) rfl) ?_
        refine t_yes rfl rfl hg7 ?_
        refine t_q (q_gtr rfl rfl) ?_
        refine t_q (q_pick_f rfl hg7) ?_
        refine t_q (q_as (.bool _) rfl) ?_
        refine t_nil ?_
        refine c_cond rfl ?_ ?_
        · intro hc9
          have hc9d := of_decide_eq_true hc9
          exfalso; omega
        · intro hc9
          have hc9d := of_decide_eq_false hc9
          refine c_skip ?_
          refine c_seq ?_
          refine c_region ?_
          refine t_q (q_mv (.pointer _) rfl) ?_
          refine t_q (q_mv (.int _ _) rfl) ?_
          refine t_q (q_mv (.int _ _) rfl) ?_
          refine t_q (q_add_i64 rfl rfl (by omega)) ?_
          refine t_q (q_build_arr [(0, 1), (1, 1)] [(.int _ _), (.int _ _)] Try.zeroValue73 Try.runUnderlying73 Try.sizeOf3 rfl rfl rfl) ?_
          refine t_q (q_mv (.int _ _) rfl) ?_
          refine t_q (q_build (qs := [(0, 1), (1, 2), (3, 1), (4, 1), (5, 2), (7, 1)]) [(.pointer _), (.int _ _), (.int _ _), (.int _ _), (.int _ _), (.int _ _), (.int _ _), (.bool _)] Try.zeroValue107 Try.runUnderlying107 ⟨rfl, Try.sizeOf58, rfl, Try.sizeOf73, rfl, Try.sizeOf3, rfl, Try.sizeOf3, rfl, Try.sizeOf105, rfl, Try.sizeOf4, trivial⟩ rfl rfl) ?_
          refine t_box (v := (.agg _)) rfl rfl hS (fun g42 w hS => ?_)
          replace hS := hS.recast (show blkA g42 107 _ = blkA g42 107 [.pointer (some ⟨gd, 0, none⟩), .int .i64 (n : Int), .int .i64 ((n : Int) + 1), .int .i64 0, .int .i64 ea, .int .u64 0, .int .u64 0, .bool false] from rfl)
          refine t_q (q_as (.pointer _) rfl) ?_
          refine t_nil ?_
          refine c_seq ?_
          refine c_region ?_
          refine t_q (q_mv (.pointer _) rfl) ?_
          refine t_q (q_mv (.int _ _) rfl) ?_
          refine t_call Try.call52 (read_n (i := n) hS (by repeat first | exact .here _ _ | assumption | apply Pick.there) hG (by omega)) rfl ?_
          rintro e w ⟨A46, c46, rfl, hS⟩
          refine ⟨_, rfl, ?_⟩
          have hle46 := hS.row_le (t := 5) (size := 1) (A := A46) (c := c46) (by repeat first | exact .here _ _ | assumption | apply Pick.there)
          refine t_q (q_mv (.pointer _) rfl) ?_
          refine t_q (q_mv (.int _ _) rfl) ?_
          refine t_q (q_cast (v' := .int .i64 ((n + 1 : Nat) : Int)) (q_add_i64 rfl rfl (by omega)) (by congr 1)) ?_
          refine t_call Try.call52 (read_n (i := n + 1) hS (by repeat first | exact .here _ _ | assumption | apply Pick.there) hG (by omega)) rfl ?_
          rintro e w ⟨A50, c50, rfl, hS⟩
          refine ⟨_, rfl, ?_⟩
          have hle50 := hS.row_le (t := 5) (size := 1) (A := A50) (c := c50) (by repeat first | exact .here _ _ | assumption | apply Pick.there)
          refine t_call Try.call96 (btell_calls (a := (d.F n).1) (b := (d.F (n + 1)).1) (hS.rowRd (A := A46) (c := c46) (bs := (d.F n).1) (by repeat first | exact .here _ _ | assumption | apply Pick.there) rfl) (hS.rowRd (A := A50) (c := c50) (bs := (d.F (n + 1)).1) (by repeat first | exact .here _ _ | assumption | apply Pick.there) rfl) ⟨hle46, by have := hG.len n; omega⟩ ⟨hle50, by have := hG.len (n + 1); omega⟩) rfl ?_
          rintro e w ⟨rfl, hT⟩
          refine ⟨_, rfl, ?_⟩
          replace hS := hS.after hT
          refine t_q (q_mv (.tuple _) rfl) ?_
          refine t_q (q_extract rfl rfl) ?_
          refine t_q (q_extract rfl rfl) ?_
          refine t_q (q_extract rfl rfl) ?_
          refine t_alloc Try.zeroValue105 rfl hS (fun g9 w hS => ?_)
          refine t_store (v := (.agg _)) Try.sizeOf105 hS (by repeat first | exact .here _ _ | assumption | apply Pick.there) rfl rfl rfl rfl rfl rfl (fun w hS => ?_)
          replace hS := hS.recast (show blkA g9 105 _ = blkA g9 105 [.int .u64 (((btl (d.F n).1 (d.F (n + 1)).1).1).1 : Int), .int .u64 (((btl (d.F n).1 (d.F (n + 1)).1).1).2 : Int)] from rfl)
          refine t_q (q_as (.bool _) rfl) ?_
          refine t_q (q_as (.int _ _) rfl) ?_
          refine t_nil ?_
          refine c_seq ?_
          refine c_seq ?_
          refine c_region ?_
          refine t_q (q_mv (.int _ _) rfl) ?_
          refine t_q (q_neq rfl rfl) ?_
          refine t_nil ?_
          refine c_cond rfl ?_ ?_
          · intro hc17
            have hc17d := of_decide_eq_true hc17
            exfalso; omega
          · intro hc17
            have hc17d := of_decide_eq_false hc17
            refine c_skip ?_
            refine c_seq ?_
            refine c_region ?_
            refine t_q (q_mv (.pointer _) rfl) ?_
            refine t_q (q_load_blk Try.isAgg105 Try.sizeOf105 rfl (hS.blk (by repeat first | exact .here _ _ | assumption | apply Pick.there)) rfl) ?_
            refine t_q (q_nilCheck rfl) ?_
            refine t_q (q_fieldAddr 5 Try.runUnderlying107 rfl Try.sizeOf105 (by decide) rfl rfl) ?_
            refine t_store (v := (.agg _)) Try.sizeOf105 hS (by repeat first | exact .here _ _ | assumption | apply Pick.there) rfl rfl rfl rfl rfl rfl (fun w hS => ?_)
            replace hS := hS.recast (show blkA g42 107 _ = blkA g42 107 [.pointer (some ⟨gd, 0, none⟩), .int .i64 (n : Int), .int .i64 ((n : Int) + 1), .int .i64 0, .int .i64 ea, .int .u64 (((btl (d.F n).1 (d.F (n + 1)).1).1).1 : Int), .int .u64 (((btl (d.F n).1 (d.F (n + 1)).1).1).2 : Int), .bool false] from rfl)
            refine t_nil ?_
            refine c_seq ?_
            refine c_seq ?_
            refine c_region ?_
            refine t_q (q_mv (.bool _) rfl) ?_
            refine t_nil ?_
            refine c_cond rfl ?_ ?_
            · intro hc18
              have hcn : (if (btl (d.F n).1 (d.F (n + 1)).1).2.1 then 1 else 0) = (1 : Int) := by rw [show (btl (d.F n).1 (d.F (n + 1)).1).2.1 = true from hc18]; rfl
              refine c_region ?_
              refine t_q (q_mv (.pointer _) rfl) ?_
              refine t_q (q_nilCheck rfl) ?_
              refine t_q (q_fieldAddr 3 Try.runUnderlying107 rfl Try.sizeOf3 (by decide) rfl rfl) ?_
              refine t_store (v := (.int _ _)) Try.sizeOf3 hS (by repeat first | exact .here _ _ | assumption | apply Pick.there) rfl rfl rfl rfl rfl rfl (fun w hS => ?_)
              replace hS := hS.recast (show blkA g42 107 _ = blkA g42 107 [.pointer (some ⟨gd, 0, none⟩), .int .i64 (n : Int), .int .i64 ((n : Int) + 1), .int .i64 1, .int .i64 ea, .int .u64 (((btl (d.F n).1 (d.F (n + 1)).1).1).1 : Int), .int .u64 (((btl (d.F n).1 (d.F (n + 1)).1).1).2 : Int), .bool false] from rfl)
              refine t_nil ?_
              refine c_seq ?_
              refine c_seq ?_
              refine c_region ?_
              refine t_q (q_mv (.pointer _) rfl) ?_
              refine t_q (q_nilCheck rfl) ?_
              refine t_q (q_fieldAddr 1 Try.runUnderlying107 rfl Try.sizeOf73 (by decide) rfl rfl) ?_
              refine t_q (q_cast (v' := .agg #[.int .i64 (n : Int), .int .i64 ((n : Int) + 1)]) (q_load_sub Try.isAgg73 Try.sizeOf73 rfl (hS.blk (by repeat first | exact .here _ _ | assumption | apply Pick.there)) (by show 0 + 1 + 2 ≤ 8; decide)) (rfl)) ?_
              refine t_q (q_move) ?_
              refine t_nil ?_
              refine c_block ?_
              refine c_loop [13, 70, 71, 72, 73, 74, 75, 76] (fun k σ w => ∃ j : Nat, σ 70 = .int .i64 (j : Int) ∧ j ≤ 2 ∧ 2 - j ≤ k ∧ St W w (blkA g42 107 [.pointer (some ⟨gd, 0, none⟩), .int .i64 (n : Int), .int .i64 ((n : Int) + 1), .int .i64 (if (btl (d.F n).1 (d.F (n + 1)).1).2.1 then 1 else 0), .int .i64 ea, .int .u64 (((btl (d.F n).1 (d.F (n + 1)).1).1).1 : Int), .int .u64 (((btl (d.F n).1 (d.F (n + 1)).1).1).2 : Int), .bool false] :: dskA gd (tdJ d n j) :: R)) (2) rfl (⟨0, rfl, by omega, by omega, by rw [hcn]; exact ((((((hS.pick (A := blkA g9 105 [.int .u64 (((btl (d.F n).1 (d.F (n + 1)).1).1).1 : Int), .int .u64 (((btl (d.F n).1 (d.F (n + 1)).1).1).2 : Int)]) (by repeat first | exact .here _ _ | assumption | apply Pick.there)).pick (A := rowA 5 1 A50 (d.F (n + 1)).1.length c50 ((d.F (n + 1)).1.map bv)) (by repeat first | exact .here _ _ | assumption | apply Pick.there)).pick (A := rowA 5 1 A46 (d.F n).1.length c46 ((d.F n).1.map bv)) (by repeat first | exact .here _ _ | assumption | apply Pick.there)).drop.drop.drop).pick (A := dskA gd d) (by repeat first | exact .here _ _ | assumption | apply Pick.there)).pick (A := blkA g42 107 _) (by repeat first | exact .here _ _ | assumption | apply Pick.there))⟩) ?_
              skip
              rintro k σ w ⟨j, h70, hj, hk, hS⟩
              refine c_know 70 h70 ?_
              clear h70
              obtain ⟨o1, o2, o3, o4⟩ := tdJ_ok (n := n) hG hg hfu j
              refine c_seq ?_
              refine c_region ?_
              refine t_q (q_lss rfl rfl) ?_
              refine t_nil ?_
              refine c_seq ?_
              refine c_cond rfl ?_ ?_
              · intro hc20
                have hc20d := of_decide_eq_true hc20
                refine c_skip ?_
                refine c_seq ?_
                refine c_block ?_
                refine c_seq ?_
                refine c_region ?_
                refine t_q (q_index_arr Try.runUnderlying73 Try.sizeOf3 Try.isAgg3 rfl rfl (by omega) (files_at rfl (by omega))) ?_
                refine t_q (q_as (.int _ _) rfl) ?_
                refine t_nil ?_
                refine c_region ?_
                refine t_q (q_mv (.pointer _) rfl) ?_
                refine t_q (q_mv (.int _ _) rfl) ?_
                refine t_call Try.call97 (tidy_calls (g := g42) (i := n + j) (((hS.pick (A := dskA gd _) (by repeat first | exact .here _ _ | assumption | apply Pick.there)).pick (A := blkA g42 107 _) (by repeat first | exact .here _ _ | assumption | apply Pick.there))) (by omega) o1 o2 (by omega) (by omega)) rfl ?_
                rintro e w ⟨rfl, hS⟩
                refine ⟨_, rfl, ?_⟩
                replace hS := hS
                refine t_nil ?_
                refine c_region ?_
                refine t_q (q_add_i64 rfl rfl (by omega)) ?_
                refine t_q (q_mv (.int _ _) rfl) ?_
                refine t_nil ?_
                exact ⟨k - 1, by omega, j + 1, rfl, by omega, by omega, ((hS.pick (A := dskA gd _) (by repeat first | exact .here _ _ | assumption | apply Pick.there)).pick (A := blkA g42 107 _) (by repeat first | exact .here _ _ | assumption | apply Pick.there))⟩
              · intro hc20
                have hc20d := of_decide_eq_false hc20
                obtain rfl : j = 2 := by omega
                refine c_exit ?_
                refine ite_t rfl ?_
                refine c_seq ?_
                refine c_seq ?_
                refine c_region ?_
                refine t_q (q_mv (.pointer _) rfl) ?_
                refine t_q (q_nilCheck rfl) ?_
                refine t_q (q_fieldAddr 7 Try.runUnderlying107 rfl Try.sizeOf4 (by decide) rfl rfl) ?_
                refine t_q (q_load1 Try.isAgg4 rfl (hS.cell (by repeat first | exact .here _ _ | assumption | apply Pick.there) rfl)) ?_
                refine t_nil ?_
                refine c_cond_f rfl rfl ?_
                refine c_skip ?_
                refine c_seq ?_
                refine c_region ?_
                refine t_q (q_mv (.pointer _) rfl) ?_
                refine t_q (q_as (.pointer _) rfl) ?_
                refine t_q (q_assign) ?_
                refine t_nil ?_
                refine c_ret ?_
                refine r_two rfl rfl rfl ?_
                exact ⟨g42, rfl, hS⟩
            · intro hc18
              have hcn : (if (btl (d.F n).1 (d.F (n + 1)).1).2.1 then 1 else 0) = (0 : Int) := by rw [show (btl (d.F n).1 (d.F (n + 1)).1).2.1 = false from hc18]; rfl
              refine c_skip ?_
              refine c_seq ?_
              refine c_seq ?_
              refine c_region ?_
              refine t_q (q_mv (.pointer _) rfl) ?_
              refine t_q (q_nilCheck rfl) ?_
              refine t_q (q_fieldAddr 1 Try.runUnderlying107 rfl Try.sizeOf73 (by decide) rfl rfl) ?_
              refine t_q (q_cast (v' := .agg #[.int .i64 (n : Int), .int .i64 ((n : Int) + 1)]) (q_load_sub Try.isAgg73 Try.sizeOf73 rfl (hS.blk (by repeat first | exact .here _ _ | assumption | apply Pick.there)) (by show 0 + 1 + 2 ≤ 8; decide)) (rfl)) ?_
              refine t_q (q_move) ?_
              refine t_nil ?_
              refine c_block ?_
              refine c_loop [13, 70, 71, 72, 73, 74, 75, 76] (fun k σ w => ∃ j : Nat, σ 70 = .int .i64 (j : Int) ∧ j ≤ 2 ∧ 2 - j ≤ k ∧ St W w (blkA g42 107 [.pointer (some ⟨gd, 0, none⟩), .int .i64 (n : Int), .int .i64 ((n : Int) + 1), .int .i64 (if (btl (d.F n).1 (d.F (n + 1)).1).2.1 then 1 else 0), .int .i64 ea, .int .u64 (((btl (d.F n).1 (d.F (n + 1)).1).1).1 : Int), .int .u64 (((btl (d.F n).1 (d.F (n + 1)).1).1).2 : Int), .bool false] :: dskA gd (tdJ d n j) :: R)) (2) rfl (⟨0, rfl, by omega, by omega, by rw [hcn]; exact ((((((hS.pick (A := blkA g9 105 [.int .u64 (((btl (d.F n).1 (d.F (n + 1)).1).1).1 : Int), .int .u64 (((btl (d.F n).1 (d.F (n + 1)).1).1).2 : Int)]) (by repeat first | exact .here _ _ | assumption | apply Pick.there)).pick (A := rowA 5 1 A50 (d.F (n + 1)).1.length c50 ((d.F (n + 1)).1.map bv)) (by repeat first | exact .here _ _ | assumption | apply Pick.there)).pick (A := rowA 5 1 A46 (d.F n).1.length c46 ((d.F n).1.map bv)) (by repeat first | exact .here _ _ | assumption | apply Pick.there)).drop.drop.drop).pick (A := dskA gd d) (by repeat first | exact .here _ _ | assumption | apply Pick.there)).pick (A := blkA g42 107 _) (by repeat first | exact .here _ _ | assumption | apply Pick.there))⟩) ?_
              skip
              rintro k σ w ⟨j, h70, hj, hk, hS⟩
              refine c_know 70 h70 ?_
              clear h70
              obtain ⟨o1, o2, o3, o4⟩ := tdJ_ok (n := n) hG hg hfu j
              refine c_seq ?_
              refine c_region ?_
              refine t_q (q_lss rfl rfl) ?_
              refine t_nil ?_
              refine c_seq ?_
              refine c_cond rfl ?_ ?_
              · intro hc24
                have hc24d := of_decide_eq_true hc24
                refine c_skip ?_
                refine c_seq ?_
                refine c_block ?_
                refine c_seq ?_
                refine c_region ?_
                refine t_q (q_index_arr Try.runUnderlying73 Try.sizeOf3 Try.isAgg3 rfl rfl (by omega) (files_at rfl (by omega))) ?_
                refine t_q (q_as (.int _ _) rfl) ?_
                refine t_nil ?_
                refine c_region ?_
                refine t_q (q_mv (.pointer _) rfl) ?_
                refine t_q (q_mv (.int _ _) rfl) ?_
                refine t_call Try.call97 (tidy_calls (g := g42) (i := n + j) (((hS.pick (A := dskA gd _) (by repeat first | exact .here _ _ | assumption | apply Pick.there)).pick (A := blkA g42 107 _) (by repeat first | exact .here _ _ | assumption | apply Pick.there))) (by omega) o1 o2 (by omega) (by omega)) rfl ?_
                rintro e w ⟨rfl, hS⟩
                refine ⟨_, rfl, ?_⟩
                replace hS := hS
                refine t_nil ?_
                refine c_region ?_
                refine t_q (q_add_i64 rfl rfl (by omega)) ?_
                refine t_q (q_mv (.int _ _) rfl) ?_
                refine t_nil ?_
                exact ⟨k - 1, by omega, j + 1, rfl, by omega, by omega, ((hS.pick (A := dskA gd _) (by repeat first | exact .here _ _ | assumption | apply Pick.there)).pick (A := blkA g42 107 _) (by repeat first | exact .here _ _ | assumption | apply Pick.there))⟩
              · intro hc24
                have hc24d := of_decide_eq_false hc24
                obtain rfl : j = 2 := by omega
                refine c_exit ?_
                refine ite_t rfl ?_
                refine c_seq ?_
                refine c_seq ?_
                refine c_region ?_
                refine t_q (q_mv (.pointer _) rfl) ?_
                refine t_q (q_nilCheck rfl) ?_
                refine t_q (q_fieldAddr 7 Try.runUnderlying107 rfl Try.sizeOf4 (by decide) rfl rfl) ?_
                refine t_q (q_load1 Try.isAgg4 rfl (hS.cell (by repeat first | exact .here _ _ | assumption | apply Pick.there) rfl)) ?_
                refine t_nil ?_
                refine c_cond_f rfl rfl ?_
                refine c_skip ?_
                refine c_seq ?_
                refine c_region ?_
                refine t_q (q_mv (.pointer _) rfl) ?_
                refine t_q (q_as (.pointer _) rfl) ?_
                refine t_q (q_assign) ?_
                refine t_nil ?_
                refine c_ret ?_
                refine r_two rfl rfl rfl ?_
                exact ⟨g42, rfl, hS⟩
end Go.Proofs.Ytlppgpidakfnlaa
