/- Of parcels, one behind the other, cut off anywhere, just the whole ones are told: the walk. -/
import Derived.Test.YtlppgpidakfnlaaPg
import Derived.Test.YtlppgpidakfnlaaL21
namespace Go.Proofs.Ytlppgpidakfnlaa
open Go Go.RowKit Go.Lib
variable {W : World}
def endsI (ps : Pcs) : List Int := (List.range ps.length).map fun i => ((cat (ps.take (i + 1))).length : Int)
theorem endsI_len (ps : Pcs) : (endsI ps).length = ps.length := by unfold endsI; rw [List.length_map, List.length_range]
theorem endsI_snoc (ps : Pcs) (p : UInt8 × List UInt8) : endsI (ps ++ [p]) = endsI ps ++ [((cat (ps ++ [p])).length : Int)] := by
  unfold endsI
  rw [List.length_append, List.length_cons, List.length_nil, List.range_succ, List.map_append, List.map_cons, List.map_nil]
  congr 1
  · apply List.map_congr_left
    intro i hi
    have := List.mem_range.1 hi
    rw [List.take_append, show i + 1 - ps.length = 0 by omega, List.take_zero, List.append_nil]
  · rw [show ps.length + 1 = (ps ++ [p]).length by simp, List.take_length]
theorem endsI_at {ps : Pcs} {i : Nat} (h : i < ps.length) : (endsI ps).getD i 0 = ((cat (ps.take (i + 1))).length : Int) := by
  unfold endsI
  rw [List.getD_eq_getElem?_getD, List.getElem?_map, List.getElem?_range h]
  rfl
theorem kk_of {n : Int} (h : 0 ≤ n ∧ n < 256) : n = ((bvi n).toNat : Int) := by unfold bvi; rw [u8_ofNat (by omega)]; omega
def RdPc (w : World) (A : Option Addr) (l : List Piece) : Prop := Rd w 2 A l.length (fun i => (l.getD i default).cells)
theorem RdPc.st {w : World} {Q : List Asn} {A : Option Addr} {l : List Piece} (h : RdPc W A l) (hS : St W w Q) : RdPc w A l := Rd.st h hS
theorem pc_at {l : List Piece} (h : ∀ e ∈ l, e.Ok W) {j : Nat} (hj : j < l.length) : (l.getD j default).Ok W := by
  rw [List.getD_eq_getElem?_getD, List.getElem?_eq_getElem hj]
  exact h _ (List.getElem_mem hj)
attribute [local irreducible] blkA rowA rdrA
set_option maxHeartbeats 2000000 in
set_option maxRecDepth 100000 in
theorem ParcelTorn_calls {A : Option Addr} {c : Nat} {l : List Piece} {n : Int} (hl : RdPc W A l) (hok : ∀ e ∈ l, e.Ok W) (hm : l.length ≤ maxLen) (hn : 0 ≤ n ∧ n < 65536) : Calls Try.prog 3 #[.slice A l.length c, .int .u16 n] W fun e w' => e = .returned (.bool true) ∧ St W w' [] := by
  have hS := St.init W
  unfold maxLen at hm
  refine calls_of_wpE (args := [_, _]) Try.func3 rfl rfl rfl ?_
  refine c_seq ?_
  refine c_region ?_
  refine t_q (q_assign) ?_
  refine t_nil ?_
  refine c_seq ?_
  refine c_seq ?_
  refine c_region ?_
  refine t_q (q_mv (.slice _ _ _) rfl) ?_
  refine t_q (q_len_slice Try.runUnderlying22 rfl) ?_
  refine t_q (q_gtr rfl rfl) ?_
  refine t_nil ?_
  refine c_cond rfl ?_ ?_
  · intro hc2
    have hc2d := of_decide_eq_true hc2
    refine c_seq ?_
    refine c_region ?_
    refine t_call Try.call19 (plives_calls) rfl ?_
    rintro e w ⟨rfl, hT⟩
    refine ⟨_, rfl, ?_⟩
    replace hS := hS.after hT
    refine t_q (q_as (.bool _) rfl) ?_
    refine t_nil ?_
    refine c_ret ?_
    refine r_one rfl rfl ?_
    exact ⟨rfl, hS.nil⟩
  · intro hc2
    have hc2d := of_decide_eq_false hc2
    have h12 : l.length ≤ 12 := by omega
    refine c_skip ?_
    refine c_seq ?_
    refine c_region ?_
    refine t_q (q_assign) ?_
    refine t_nil ?_
    refine c_seq ?_
    refine c_region ?_
    refine t_q (q_assign) ?_
    refine t_nil ?_
    refine c_seq ?_
    refine c_seq ?_
    refine c_region ?_
    refine t_q (q_mv (.slice _ _ _) rfl) ?_
    refine t_q (q_len_slice Try.runUnderlying22 rfl) ?_
    refine t_q (q_move) ?_
    refine t_nil ?_
    refine c_block ?_
    refine c_loop [4, 5, 6, 8, 9, 10, 23, 24, 25, 26, 27, 28, 29, 30, 31, 32, 33, 34, 35, 36, 37, 38, 39, 40, 41, 42, 43, 44, 45, 46, 47, 48, 49, 50] (fun k σ w => ∃ (j : Nat) (ps : Pcs) (A5 : Option Addr) (m5 c5 : Nat) (A6 : Option Addr) (c6 : Nat), σ 23 = .int .i64 (j : Int) ∧ σ 5 = .slice A5 m5 c5 ∧ σ 6 = .slice A6 (endsI ps).length c6 ∧ j ≤ l.length ∧ l.length - j ≤ k ∧ PcsOk ps ∧ ps.length ≤ j ∧ m5 ≤ 520 * j ∧ m5 = (cat ps).length ∧ St W w [rowA 5 1 A5 m5 c5 ((cat (ps)).map bv), rowA 3 1 A6 (endsI (ps)).length c6 ((endsI (ps)).map (Value.int .i64))]) (l.length) rfl (⟨0, [], none, 0, 0, none, 0, rfl, rfl, rfl, by omega, by omega, (fun _ h => by cases h), Nat.le_refl 0, by omega, rfl, (hS.nilrow 3 1).nilrow 5 1⟩) ?_
    skip
    rintro k σ w ⟨j, ps, A5, m5, c5, A6, c6, h23, h5, h6, hj, hk, hps, hpj, hm520, hm5, hS⟩
    refine c_know 23 h23 ?_
    refine c_know 5 h5 ?_
    refine c_know 6 h6 ?_
    clear h23 h5 h6
    have hel := endsI_len ps
    refine c_seq ?_
    refine c_region ?_
    refine t_q (q_lss rfl rfl) ?_
    refine t_nil ?_
    refine c_seq ?_
    refine c_cond rfl ?_ ?_
    · intro hc5
      have hc5d := of_decide_eq_true hc5
      refine c_skip ?_
      refine c_seq ?_
      refine c_block ?_
      refine c_seq ?_
      refine c_region ?_
      first | refine t_index_nat Try.runUnderlying22 Try.sizeOf28 (hl.st hS) rfl rfl (by omega) (fun ad6 hl6 hx6 => ?_) | refine t_index Try.runUnderlying22 Try.sizeOf28 (hl.st hS) rfl rfl (by omega) (fun ad6 hl6 hx6 => ?_)
      refine t_q (q_loadN Try.isAgg28 Try.sizeOf28 rfl hl6 hx6) ?_
      refine t_alloc Try.zeroValue28 rfl hS (fun g8 w hS => ?_)
      refine t_store (v := (.agg _)) Try.sizeOf28 hS (by repeat first | exact .here _ _ | assumption | apply Pick.there) rfl rfl rfl rfl rfl rfl (fun w hS => ?_)
      obtain ⟨x, hx⟩ : ∃ x, x = (l.getD j default) := ⟨_, rfl⟩
      replace hS := hS.recast (show blkA g8 28 _ = blkA g8 28 x.cells from by rw [hx]; rfl)
      have hxo : x.Ok W := by rw [hx]; exact pc_at hok (by omega)
      have hxk := kk_of hxo.kind
      have hxl := hxo.body.le
      refine t_nil ?_
      refine c_seq ?_
      refine c_seq ?_
      refine c_region ?_
      refine t_q (q_fieldAddr 1 Try.runUnderlying28 rfl Try.sizeOf25 (by decide) rfl rfl) ?_
      refine t_q (q_load1 Try.isAgg25 rfl (hS.cell (by repeat first | exact .here _ _ | assumption | apply Pick.there) rfl)) ?_
      refine t_q (q_len_slice Try.runUnderlying25 rfl) ?_
      refine t_q (q_gtr rfl rfl) ?_
      refine t_nil ?_
      refine c_cond rfl ?_ ?_
      · intro hc8
        have hc8d := of_decide_eq_true hc8
        refine c_seq ?_
        refine c_region ?_
        refine t_call Try.call19 (plives_calls) rfl ?_
        rintro e w ⟨rfl, hT⟩
        refine ⟨_, rfl, ?_⟩
        replace hS := hS.after hT
        refine t_q (q_as (.bool _) rfl) ?_
        refine t_nil ?_
        refine c_ret ?_
        refine r_one rfl rfl ?_
        exact ⟨rfl, hS.nil⟩
      · intro hc8
        have hc8d := of_decide_eq_false hc8
        have h500 : x.body.l.length ≤ 500 := by omega
        refine c_skip ?_
        refine c_seq ?_
        refine c_region ?_
        refine t_q (q_fieldAddr 0 Try.runUnderlying28 rfl Try.sizeOf5 (by decide) rfl rfl) ?_
        refine t_q (q_cast (v' := bv (bvi x.kind)) (q_load1 Try.isAgg5 rfl (hS.cell (by repeat first | exact .here _ _ | assumption | apply Pick.there) rfl)) ((congrArg (Value.int .u8) hxk).trans rfl)) ?_
        refine t_q (q_fieldAddr 1 Try.runUnderlying28 rfl Try.sizeOf25 (by decide) rfl rfl) ?_
        refine t_q (q_load1 Try.isAgg25 rfl (hS.cell (by repeat first | exact .here _ _ | assumption | apply Pick.there) rfl)) ?_
        refine t_call Try.call20 (wrap_calls (kk := bvi x.kind) (show RdB w x.body.A x.body.l from Rd.st (show RdB W x.body.A x.body.l from hxo.body.rd) hS) (by omega)) rfl ?_
        rintro e w ⟨A37, m37, c37, rfl, hm37, hT⟩
        refine ⟨_, rfl, ?_⟩
        have hS : St W w (_ :: _) := hS.lift hT
        subst hm37
        refine t_q (q_mv (.tuple _) rfl) ?_
        refine t_q (q_extract rfl rfl) ?_
        refine t_q (q_extract rfl rfl) ?_
        refine t_q (q_as (.slice _ _ _) rfl) ?_
        refine t_q (q_as (.int _ _) rfl) ?_
        refine t_nil ?_
        refine c_seq ?_
        refine c_region ?_
        refine t_q (q_mv (.int _ _) rfl) ?_
        refine t_q (q_eql rfl rfl) ?_
        refine t_nil ?_
        refine c_cond rfl ?_ ?_
        · intro hc14
          have hc14d := of_decide_eq_true hc14
          have hE0 : wrapE (bvi x.kind) x.body.l = 0 := by omega
          have hWL : (wrapL (bvi x.kind) x.body.l) = parB (bvi x.kind) x.body.l := by unfold wrapL; rw [if_pos hE0]
          have hk0 : bvi x.kind ≠ 0 := fun h => by have := (wrapE_zero (k := bvi x.kind) (body := x.body.l) h).1; omega
          have hwl : (wrapL (bvi x.kind) x.body.l).length ≤ 510 := by rw [hWL, par_len]; have := enc_three (n := x.body.l.length) (by omega); omega
          refine c_seq ?_
          refine c_region ?_
          refine t_q (q_mv (.slice _ _ _) rfl) ?_
          refine t_q (q_mv (.slice _ _ _) rfl) ?_
          refine t_append_own (size := 1) (bytes := 1) Try.underlying25 (info_of Try.type5) rfl rfl rfl rfl (by decide) hS (.here _ _) (by repeat first | exact .here _ _ | assumption | apply Pick.there) rfl rfl (by first | exact allOne_bv _ | exact allOne_ints _ _ | rfl) (by unfold maxLen; omega) (by omega) (fun A44 c44 w hS => ?_)
          replace hS := hS.recast (show _ = rowA 5 1 A44 (m5 + (wrapL (bvi x.kind) x.body.l).length) c44 ((cat (ps ++ [(bvi x.kind, x.body.l)])).map bv) from by rw [cat_snoc, List.map_append, hWL])
          refine t_q (q_as (.slice _ _ _) rfl) ?_
          refine t_nil ?_
          refine c_region ?_
          refine t_q (q_mv (.slice _ _ _) rfl) ?_
          refine t_q (q_mv (.slice _ _ _) rfl) ?_
          refine t_q (q_cast (v' := .int .i64 ((cat (ps ++ [(bvi x.kind, x.body.l)])).length : Int)) (q_len_slice Try.runUnderlying25 rfl) (by rw [cat_snoc, List.length_append, hm5, hWL])) ?_
          refine t_build_ints [_] Try.runUnderlying26 Try.sizeOf3 Try.zeroValue3 rfl rfl (by decide) hS (fun g48 w hS => ?_)
          refine t_append_own (size := 1) (bytes := 8) Try.underlying26 (info_of Try.type3) rfl rfl rfl rfl (by decide) hS (.here _ _) (by repeat first | exact .here _ _ | assumption | apply Pick.there) rfl rfl (by first | exact allOne_bv _ | exact allOne_ints _ _ | rfl) (by unfold maxLen; omega) (by omega) (fun A49 c49 w hS => ?_)
          refine t_q (q_as (.slice _ _ _) rfl) ?_
          refine t_nil ?_
          refine c_region ?_
          refine t_q (q_add_i64 rfl rfl (by omega)) ?_
          refine t_q (q_mv (.int _ _) rfl) ?_
          refine t_nil ?_
          first
            | (have hpn : (parB (bvi x.kind) x.body.l).length ≤ 510 := by rw [par_len]; have := enc_three (n := x.body.l.length) (by omega); omega
               refine ⟨k - 1, by omega, j + 1, ps ++ [(bvi x.kind, x.body.l)], A44, _, c44, A49, c49, rfl, rfl, (show Value.slice _ _ _ = _ by rw [endsI_len, endsI_len, List.length_append]; rfl), by omega, by omega, ?_, by rw [List.length_append]; simp; omega, by rw [hWL]; omega, by rw [cat_snoc, List.length_append, hm5, hWL], ?_⟩
               · intro p hp
                 rcases List.mem_append.1 hp with hp | hp
                 · exact hps p hp
                 · rw [List.mem_singleton.1 hp]; exact ⟨by show x.body.l.length ≤ _; omega, hk0⟩
               · replace hS := (hS.pick (A := rowA 3 1 A49 _ c49 _) (by repeat first | exact .here _ _ | assumption | apply Pick.there)).recast (show _ = rowA 3 1 A49 (endsI (ps ++ [(bvi x.kind, x.body.l)])).length c49 ((endsI (ps ++ [(bvi x.kind, x.body.l)])).map (Value.int .i64)) from by rw [endsI_snoc, List.length_append, List.map_append]; rfl)
                 exact (((hS.pick (A := rowA 3 1 A49 _ c49 _) (by repeat first | exact .here _ _ | assumption | apply Pick.there)).pick (A := rowA 5 1 A44 _ c44 _) (by repeat first | exact .here _ _ | assumption | apply Pick.there))).front2)
            | exact ⟨k - 1, by omega, j + 1, ps, A5, m5, c5, A6, c6, rfl, rfl, rfl, by omega, by omega, hps, by omega, by omega, hm5, (((hS.pick (A := rowA 3 1 A6 _ c6 _) (by repeat first | exact .here _ _ | assumption | apply Pick.there)).pick (A := rowA 5 1 A5 _ c5 _) (by repeat first | exact .here _ _ | assumption | apply Pick.there))).front2⟩
        · intro hc14
          have hc14d := of_decide_eq_false hc14
          refine c_skip ?_
          refine c_region ?_
          refine t_q (q_add_i64 rfl rfl (by omega)) ?_
          refine t_q (q_mv (.int _ _) rfl) ?_
          refine t_nil ?_
          first
            | (have hpn : (parB (bvi x.kind) x.body.l).length ≤ 510 := by rw [par_len]; have := enc_three (n := x.body.l.length) (by omega); omega
               refine ⟨k - 1, by omega, j + 1, ps ++ [(bvi x.kind, x.body.l)], A44, _, c44, A49, c49, rfl, rfl, (show Value.slice _ _ _ = _ by rw [endsI_len, endsI_len, List.length_append]; rfl), by omega, by omega, ?_, by rw [List.length_append]; simp; omega, by rw [hWL]; omega, by rw [cat_snoc, List.length_append, hm5, hWL], ?_⟩
               · intro p hp
                 rcases List.mem_append.1 hp with hp | hp
                 · exact hps p hp
                 · rw [List.mem_singleton.1 hp]; exact ⟨by show x.body.l.length ≤ _; omega, hk0⟩
               · replace hS := (hS.pick (A := rowA 3 1 A49 _ c49 _) (by repeat first | exact .here _ _ | assumption | apply Pick.there)).recast (show _ = rowA 3 1 A49 (endsI (ps ++ [(bvi x.kind, x.body.l)])).length c49 ((endsI (ps ++ [(bvi x.kind, x.body.l)])).map (Value.int .i64)) from by rw [endsI_snoc, List.length_append, List.map_append]; rfl)
                 exact (((hS.pick (A := rowA 3 1 A49 _ c49 _) (by repeat first | exact .here _ _ | assumption | apply Pick.there)).pick (A := rowA 5 1 A44 _ c44 _) (by repeat first | exact .here _ _ | assumption | apply Pick.there))).front2)
            | exact ⟨k - 1, by omega, j + 1, ps, A5, m5, c5, A6, c6, rfl, rfl, rfl, by omega, by omega, hps, by omega, by omega, hm5, (((hS.pick (A := rowA 3 1 A6 _ c6 _) (by repeat first | exact .here _ _ | assumption | apply Pick.there)).pick (A := rowA 5 1 A5 _ c5 _) (by repeat first | exact .here _ _ | assumption | apply Pick.there))).front2⟩
    · intro hc5
      have hc5d := of_decide_eq_false hc5
      obtain rfl : j = l.length := by omega
      refine c_exit ?_
      refine ite_t rfl ?_
      refine c_seq ?_
      obtain ⟨ct, hct, hcl⟩ : ∃ ct : Nat, n % ((m5 : Int) + 1) = (ct : Int) ∧ ct ≤ m5 := ⟨(n % ((m5 : Int) + 1)).toNat, by have := Int.emod_nonneg n (show (m5 : Int) + 1 ≠ 0 by omega); omega, by have := Int.emod_lt_of_pos n (show 0 < (m5 : Int) + 1 by omega); omega⟩
      obtain ⟨j0, r, hj0, hcut, hr31, hmx⟩ := cut_split ps ct hps (by omega)
      refine c_region ?_
      refine t_q (q_mv (.int _ _) rfl) ?_
      refine t_q (q_conv_i64 Try.runUnderlying23 Try.runUnderlying3 rfl (by omega)) ?_
      refine t_q (q_mv (.slice _ _ _) rfl) ?_
      refine t_q (q_len_slice Try.runUnderlying25 rfl) ?_
      refine t_q (q_add_i64 rfl rfl (by omega)) ?_
      refine t_q (q_cast (v' := .int .i64 (ct : Int)) (q_rem_n rfl rfl (by omega) (by omega)) (by rw [hct])) ?_
      refine t_q (q_as (.int _ _) rfl) ?_
      refine t_nil ?_
      refine c_seq ?_
      refine c_region ?_
      refine t_q (q_assign) ?_
      refine t_nil ?_
      refine c_seq ?_
      refine c_seq ?_
      refine c_region ?_
      refine t_q (q_mv (.slice _ _ _) rfl) ?_
      refine t_q (q_len_slice Try.runUnderlying26 rfl) ?_
      refine t_q (q_move) ?_
      refine t_nil ?_
      refine c_block ?_
      refine c_loop [12, 14, 59, 60, 61, 62, 63, 64, 65, 66, 67] (fun k σ w => ∃ i : Nat, σ 59 = .int .i64 (i : Int) ∧ σ 12 = .int .i64 ((cat (ps.take (min i j0))).length : Int) ∧ i ≤ ps.length ∧ ps.length - i ≤ k ∧ St W w [rowA 5 1 A5 m5 c5 ((cat (ps)).map bv), rowA 3 1 A6 (endsI (ps)).length c6 ((endsI (ps)).map (Value.int .i64))]) (ps.length) rfl (⟨0, rfl, by rw [Nat.zero_min]; rfl, by omega, by omega, hS⟩) ?_
      skip
      rintro k σ w ⟨i, h59, h12, hi, hk2, hS⟩
      refine c_know 59 h59 ?_
      refine c_know 12 h12 ?_
      clear h59 h12
      refine c_seq ?_
      refine c_region ?_
      refine t_q (q_lss rfl rfl) ?_
      refine t_nil ?_
      refine c_seq ?_
      refine c_cond rfl ?_ ?_
      · intro hc16
        have hc16d := of_decide_eq_true hc16
        refine c_skip ?_
        refine c_seq ?_
        refine c_block ?_
        refine c_seq ?_
        refine c_region ?_
        first | refine t_index_nat Try.runUnderlying26 Try.sizeOf3 (hS.rowInts (k := .i64) (ns := endsI ps) (by repeat first | exact .here _ _ | assumption | apply Pick.there) rfl) rfl rfl (by omega) (fun ad17 hl17 hx17 => ?_) | refine t_index Try.runUnderlying26 Try.sizeOf3 (hS.rowInts (k := .i64) (ns := endsI ps) (by repeat first | exact .here _ _ | assumption | apply Pick.there) rfl) rfl rfl (by omega) (fun ad17 hl17 hx17 => ?_)
        refine t_q (q_cast (v' := .int .i64 ((cat (ps.take (i + 1))).length : Int)) (q_load1 Try.isAgg3 rfl (hx17 0 _ rfl)) (by rw [← endsI_at (by rw [endsI_len] at *; omega)])) ?_
        refine t_q (q_as (.int _ _) rfl) ?_
        refine t_nil ?_
        refine c_seq ?_
        refine c_region ?_
        refine t_q (q_mv (.int _ _) rfl) ?_
        refine t_q (q_mv (.int _ _) rfl) ?_
        refine t_q (q_leq rfl rfl) ?_
        refine t_nil ?_
        refine c_cond rfl ?_ ?_
        · intro hc19
          have hc19d := of_decide_eq_true hc19
          have hmin : min (i + 1) j0 = i + 1 := by have := (hmx (i + 1) (by omega)).1 (by omega); omega
          refine c_region ?_
          refine t_q (q_mv (.int _ _) rfl) ?_
          refine t_q (q_as (.int _ _) rfl) ?_
          refine t_nil ?_
          refine c_region ?_
          refine t_q (q_add_i64 rfl rfl (by omega)) ?_
          refine t_q (q_mv (.int _ _) rfl) ?_
          refine t_nil ?_
          first
            | exact ⟨k - 1, by omega, i + 1, rfl, (show Value.int _ _ = _ by rw [hmin]), by omega, by omega, hS⟩
        · intro hc19
          have hc19d := of_decide_eq_false hc19
          have hmin : min (i + 1) j0 = min i j0 := by have := (hmx (i + 1) (by omega)).2; omega
          refine c_skip ?_
          refine c_region ?_
          refine t_q (q_add_i64 rfl rfl (by omega)) ?_
          refine t_q (q_mv (.int _ _) rfl) ?_
          refine t_nil ?_
          first
            | exact ⟨k - 1, by omega, i + 1, rfl, (show Value.int _ _ = _ by rw [hmin]), by omega, by omega, hS⟩
      · intro hc16
        have hc16d := of_decide_eq_false hc16
        obtain rfl : i = ps.length := by omega
        have hmin : min ps.length j0 = j0 := by omega
        refine c_exit ?_
        refine ite_t rfl ?_
        refine c_seq ?_
        have hle5 := hS.row_le (t := 5) (size := 1) (A := A5) (c := c5) (by repeat first | exact .here _ _ | assumption | apply Pick.there)
        refine c_region ?_
        refine t_q (q_mv (.slice _ _ _) rfl) ?_
        refine t_q (q_mv (.int _ _) rfl) ?_
        refine t_q (q_cast (v' := .slice (if c5 = 0 then A5 else A5.map (·.add (0 * 1))) ((cat ps).take ct).length (c5 - 0)) (q_slice Try.runUnderlying25 Try.sizeOf5 rfl ⟨_, _, rfl, by omega, by omega, rfl⟩ rfl) (by rw [List.length_take, show min ct (cat ps).length = (ct : Int).toNat - 0 by omega])) ?_
        refine t_call Try.call21 (end_calls (take_rd (k := ct) (c := c5) (hS.rowRd (A := A5) (c := c5) (bs := cat ps) (by repeat first | exact .here _ _ | assumption | apply Pick.there) hm5) (by omega) ⟨by omega, by omega⟩) ⟨by rw [List.length_take]; omega, by rw [List.length_take]; omega⟩) rfl ?_
        rintro e w ⟨kq, hw, hne, rfl, hT⟩
        refine ⟨_, rfl, ?_⟩
        replace hS := hS.after hT
        obtain ⟨hpos, hEE⟩ := cut_end hps (by omega) hj0 hcut hr31 hw hne
        refine t_q (q_mv (.tuple _) rfl) ?_
        refine t_q (q_extract rfl rfl) ?_
        refine t_q (q_extract rfl rfl) ?_
        refine t_q (q_as (.int _ _) rfl) ?_
        refine t_q (q_as (.int _ _) rfl) ?_
        refine t_nil ?_
        refine c_seq ?_
        refine c_region ?_
        refine t_q (q_mv (.int _ _) rfl) ?_
        refine t_q (q_mv (.int _ _) rfl) ?_
        refine t_q (q_cast (v' := .bool true) (q_eql rfl rfl) (by rw [hpos, hmin]; simp)) ?_
        refine t_q (q_mv (.bool _) rfl) ?_
        refine t_yes rfl rfl rfl ?_
        refine t_q (q_mv (.int _ _) rfl) ?_
        refine t_yes rfl rfl rfl ?_
        refine t_q (q_eql rfl rfl) ?_
        refine t_yes rfl rfl rfl ?_
        refine t_q (q_mv (.int _ _) rfl) ?_
        refine t_yes rfl rfl rfl ?_
        refine t_q (q_mv (.int _ _) rfl) ?_
        refine t_yes rfl rfl rfl ?_
        refine t_q (q_eql rfl rfl) ?_
        refine t_yes rfl rfl rfl ?_
        refine t_q (q_cast (v' := .bool true) (q_eql_bool Try.runUnderlying4 rfl rfl) (by rw [hmin]; rcases hEE with ⟨h1, h2⟩ | ⟨h1, h2⟩ <;> first | (simp [h1, h2]; done) | (simp [h1]; omega))) ?_
        refine t_q (q_pick_t rfl rfl) ?_
        refine t_q (q_mv (.bool _) rfl) ?_
        refine t_yes rfl rfl rfl ?_
        refine t_q (q_mv (.int _ _) rfl) ?_
        refine t_yes rfl rfl rfl ?_
        refine t_q (q_eql rfl rfl) ?_
        refine t_yes rfl rfl rfl ?_
        refine t_q (q_mv (.bool _) rfl) ?_
        refine t_case 89 rfl ?_ ?_
        · intro hg28
          have hg28d := of_decide_eq_true hg28
          refine t_no rfl rfl (by rw [hg28]; decide) ?_
          refine t_no rfl rfl (by rw [hg28]; decide) ?_
          refine t_yes rfl rfl rfl ?_
          refine t_q (q_pick_t rfl hg28) ?_
          refine t_q (q_pick_t rfl rfl) ?_
          refine t_q (q_mv (.bool _) rfl) ?_
          refine t_yes rfl rfl rfl ?_
          refine t_call Try.call19 (plives_calls) rfl ?_
          rintro e w ⟨rfl, hT⟩
          refine ⟨_, rfl, ?_⟩
          replace hS := hS.after hT
          refine t_q (q_pick_t rfl rfl) ?_
          refine t_q (q_as (.bool _) rfl) ?_
          refine t_nil ?_
          refine c_ret ?_
          refine r_one rfl rfl ?_
          exact ⟨rfl, hS.nil⟩
        · intro hg28
          have hg28d := of_decide_eq_false hg28
          refine t_yes rfl rfl hg28 ?_
          refine t_q (q_mv (.int _ _) rfl) ?_
          refine t_yes rfl rfl hg28 ?_
          refine t_q (q_cast (v' := .bool true) (q_eql rfl rfl) (by rcases hEE with ⟨h1, h2⟩ | ⟨h1, h2⟩ <;> first | (simp [h1]; done) | (exfalso; simp_all))) ?_
          refine t_yes rfl rfl rfl ?_
          refine t_q (q_pick_f rfl hg28) ?_
          refine t_q (q_pick_t rfl rfl) ?_
          refine t_q (q_mv (.bool _) rfl) ?_
          refine t_yes rfl rfl rfl ?_
          refine t_call Try.call19 (plives_calls) rfl ?_
          rintro e w ⟨rfl, hT⟩
          refine ⟨_, rfl, ?_⟩
          replace hS := hS.after hT
          refine t_q (q_pick_t rfl rfl) ?_
          refine t_q (q_as (.bool _) rfl) ?_
          refine t_nil ?_
          refine c_ret ?_
          refine r_one rfl rfl ?_
          exact ⟨rfl, hS.nil⟩
end Go.Proofs.Ytlppgpidakfnlaa
