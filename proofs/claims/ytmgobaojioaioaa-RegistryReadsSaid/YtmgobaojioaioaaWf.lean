/- Registries: written. -/
import Derived.Test.YtmgobaojioaioaaWd
import Derived.Test.YtmgobaojioaioaaWe
namespace Go.Proofs.Ytmgobaojioaioaa
open Go Go.RowKit Go.Lib
variable {W : World}
theorem ver_getD {M : List RuV} {j : Nat} (hj : j < M.length) : (M.map (·.version)).getD j 0 = (M.getD j default).version := by
  rw [List.getD_eq_getElem?_getD, List.getD_eq_getElem?_getD, List.getElem?_map, List.getElem?_eq_getElem hj]
  rfl
theorem reg_lens {w : World} {L R : List Asn} {X M : List RuV} {ps : List RdP} (hk : RegOk W X M ps) (hS : St W w L) (pk : Pick L (rdsA ps) R) : ∀ r ∈ M, (ruB r).length ≤ 50000090 := fun r hr => by
  obtain ⟨x, hx, rfl⟩ := List.mem_map.1 (hk.perm.mem_iff.2 hr)
  rw [nf_ruB]
  exact (ru_lens ((hk.by_ x hx).gd hS pk)).2.2.2.2.2
theorem rd_vers {w : World} {t : TypeId} {L R : List Asn} {A : Option Addr} {c : Nat} {M : List RuV} (hS : St W w L) (pk : Pick L (rowA t 1 A M.length c ((M.map (·.version)).map (Value.int .i64))) R) : Rd w 1 A M.length (fun i => [.int .i64 ((M.map (·.version)).getD i 0)]) := by
  have h := hS.rowInts (ns := M.map (·.version)) pk (by rw [List.length_map])
  rw [RdI, List.length_map] at h
  exact h
attribute [local irreducible] blkA rowA rdsA mapA regA wrA rdrA
set_option maxHeartbeats 1000000 in
set_option maxRecDepth 100000 in
theorem rgbytes_calls {w : World} {R : List Asn} {g : Nat} {M : List RuV} {ps : List RdP} (hS : St W w (regA W g M ps :: rdsA ps :: R)) : Calls Try.prog 64 #[.pointer (some ⟨g, 0, none⟩)] w fun e w' => ∃ A c, e = .returned (.slice A (rgB M).length c) ∧ St W w' (rowA 5 1 A (rgB M).length c ((rgB M).map bv) :: regA W g M ps :: rdsA ps :: R) := by
  obtain ⟨r, X, hk, hS⟩ := hS.reg
  have hlens := reg_lens hk hS (by repeat first | exact .here _ _ | assumption | apply Pick.there)
  have hl16 := hk.good.len
  have hfl2 := rgB_len hlens
  have he1 := enc_ten (n := M.length) (by omega)
  have hrl : (rgB M).length ≤ 900000000 := by unfold rgB; rw [List.length_append]; omega
  refine calls_of_wpE (args := [_]) Try.func64 rfl rfl rfl ?_
  refine c_seq ?_
  refine c_region ?_
  refine t_q (q_assign) ?_
  refine t_nil ?_
  refine c_seq ?_
  refine c_seq ?_
  refine c_region ?_
  refine t_q (q_mv (.pointer _) rfl) ?_
  refine t_call Try.call73 (rgnone_calls hS (by repeat first | exact .here _ _ | assumption | apply Pick.there)) rfl ?_
  rintro e w ⟨rfl, hS⟩
  refine ⟨_, rfl, ?_⟩
  refine t_nil ?_
  refine c_cond_f rfl rfl ?_
  refine c_skip ?_
  refine c_seq ?_
  refine c_region ?_
  refine t_alloc Try.zeroValue76 rfl hS (fun g3 w hS => ?_)
  replace hS := hS.wr0
  refine t_nil ?_
  refine c_seq ?_
  refine c_region ?_
  refine t_q (q_mv (.pointer _) rfl) ?_
  refine t_call Try.call63 (rgver_calls (St.unreg hk ((hS.pick (A := mapA .i64 r (X.map rkv)) (by repeat first | exact .here _ _ | assumption | apply Pick.there)).pick (A := blkA g 120 [.map (some r)]) (by repeat first | exact .here _ _ | assumption | apply Pick.there)))) rfl ?_
  rintro e w ⟨A10, c10, rfl, hS⟩
  refine ⟨_, rfl, ?_⟩
  obtain ⟨r, X, hk, hS⟩ := (hS.pick (A := regA W g M ps) (by repeat first | exact .here _ _ | assumption | apply Pick.there)).reg
  refine t_q (q_as (.slice _ _ _) rfl) ?_
  refine t_nil ?_
  refine c_seq ?_
  refine c_region ?_
  refine t_q (q_mv (.slice _ _ _) rfl) ?_
  refine t_q (q_len_slice Try.runUnderlying59 rfl) ?_
  first | refine t_q (q_conv_u64 Try.runUnderlying3 Try.runUnderlying26 rfl (by omega)) ?_ | refine t_q (q_convm_u64 Try.runUnderlying3 Try.runUnderlying26 rfl) ?_
  refine t_build_ints [_] Try.runUnderlying190 Try.sizeOf26 Try.zeroValue26 rfl rfl (by decide) hS (fun g14 w hS => ?_)
  refine t_call Try.call84 (Nat_calls (ns := [(M.length : Int)]) hS (by repeat first | exact .here _ _ | assumption | apply Pick.there) (fun _ h => h.rowInts (.here _ _) rfl) (by intro m hm; simp only [List.mem_cons, List.not_mem_nil, or_false] at hm; omega) (by simp) (by simp)) rfl ?_
  rintro e w ⟨rfl, hS⟩
  refine ⟨_, rfl, ?_⟩
  replace hS := hS.swap.recast (congrArg (wrA g3) (show _ = enc M.length from by simp [encs]))
  refine t_nil ?_
  refine c_seq ?_
  refine c_seq ?_
  refine c_region ?_
  refine t_q (q_mv (.slice _ _ _) rfl) ?_
  refine t_q (q_len_slice Try.runUnderlying59 rfl) ?_
  refine t_q (q_move) ?_
  refine t_nil ?_
  refine c_block ?_
  refine c_loop [6, 18, 19, 20, 21, 22, 23, 24, 25, 26, 27, 28, 29] (fun k σ w => ∃ j : Nat, σ 18 = .int .i64 (j : Int) ∧ j ≤ M.length ∧ M.length - j ≤ k ∧ St W w (wrA g3 (enc M.length ++ (M.take j).flatMap ruB) :: rowA 3 1 A10 M.length c10 ((M.map (·.version)).map (Value.int .i64)) :: blkA g 120 [.map (some r)] :: mapA .i64 r (X.map rkv) :: rdsA ps :: R)) (M.length) rfl (⟨0, rfl, by omega, by omega, ((((((hS.pick (A := rdsA ps) (by repeat first | exact .here _ _ | assumption | apply Pick.there)).pick (A := mapA .i64 r (X.map rkv)) (by repeat first | exact .here _ _ | assumption | apply Pick.there)).pick (A := blkA g 120 [.map (some r)]) (by repeat first | exact .here _ _ | assumption | apply Pick.there)).pick (A := rowA 3 1 A10 M.length c10 ((M.map (·.version)).map (Value.int .i64))) (by repeat first | exact .here _ _ | assumption | apply Pick.there)).pick (A := wrA g3 _) (by repeat first | exact .here _ _ | assumption | apply Pick.there))).recast (congrArg (wrA g3) (by simp))⟩) ?_
  skip
  rintro k σ w ⟨j, h18, hj, hkk, hS⟩
  refine c_know 18 h18 ?_
  clear h18
  refine c_seq ?_
  refine c_region ?_
  refine t_q (q_lss rfl rfl) ?_
  refine t_nil ?_
  refine c_seq ?_
  refine c_cond rfl ?_ ?_
  · intro hc5
    have hc5d := of_decide_eq_true hc5
    have hvj := ver_getD (M := M) (j := j) (by omega)
    obtain ⟨z, hget, hsome, hnf, hbz⟩ := reg_get hk ((M.map (·.version)).getD j 0)
    have hzz : nf z = M.getD j default := by rw [hnf, hvj, rgF_some hk.good.srt (getD_mem (by omega))]; rfl
    have hfl := rgB_len (M := M.take j) (fun r hr => hlens r (List.mem_of_mem_take hr))
    rw [List.length_take] at hfl
    refine c_skip ?_
    refine c_seq ?_
    refine c_block ?_
    refine c_seq ?_
    refine c_region ?_
    first | refine t_index_nat Try.runUnderlying59 Try.sizeOf3 (rd_vers hS (by repeat first | exact .here _ _ | assumption | apply Pick.there)) rfl rfl (by omega) (fun ad6 hl6 hx6 => ?_) | refine t_index Try.runUnderlying59 Try.sizeOf3 (rd_vers hS (by repeat first | exact .here _ _ | assumption | apply Pick.there)) rfl rfl (by omega) (fun ad6 hl6 hx6 => ?_)
    refine t_q (q_load1 Try.isAgg3 rfl (hx6 0 _ rfl)) ?_
    refine t_q (q_as (.int _ _) rfl) ?_
    refine t_nil ?_
    refine c_region ?_
    refine t_q (q_mv (.pointer _) rfl) ?_
    refine t_q (q_nilCheck rfl) ?_
    refine t_q (q_fieldAddr 0 Try.runUnderlying120 rfl Try.sizeOf118 (by decide) rfl rfl) ?_
    refine t_q (q_load1 Try.isAgg118 rfl (hS.cell (by repeat first | exact .here _ _ | assumption | apply Pick.there) rfl)) ?_
    refine t_q (q_mv (.int _ _) rfl) ?_
    refine t_q (q_cast (v' := .agg z.cells.toArray) (q_lookup (ok := false) Try.underlying118 Try.underlying3 Try.zeroValue47 (hS) (by repeat first | exact .here _ _ | assumption | apply Pick.there) rfl rfl) (hget)) ?_
    refine t_call Try.call94 (rput_gen (x := z) hS (by repeat first | exact .here _ _ | assumption | apply Pick.there) (fun w' h => hbz.gd h (by repeat first | exact .here _ _ | assumption | apply Pick.there)) (by rw [List.length_append]; omega)) rfl ?_
    rintro e w ⟨rfl, hS⟩
    refine ⟨_, rfl, ?_⟩
    replace hS := hS.recast (congrArg (wrA g3) (show _ = enc M.length ++ (M.take (j + 1)).flatMap ruB from by rw [rgB_take (by omega), ← hzz, nf_ruB, List.append_assoc]))
    refine t_nil ?_
    refine c_region ?_
    refine t_q (q_add_i64 rfl rfl (by omega)) ?_
    refine t_q (q_mv (.int _ _) rfl) ?_
    refine t_nil ?_
    exact ⟨k - 1, by omega, j + 1, rfl, by omega, by omega, (((((hS.pick (A := rdsA ps) (by repeat first | exact .here _ _ | assumption | apply Pick.there)).pick (A := mapA .i64 r (X.map rkv)) (by repeat first | exact .here _ _ | assumption | apply Pick.there)).pick (A := blkA g 120 [.map (some r)]) (by repeat first | exact .here _ _ | assumption | apply Pick.there)).pick (A := rowA 3 1 A10 M.length c10 ((M.map (·.version)).map (Value.int .i64))) (by repeat first | exact .here _ _ | assumption | apply Pick.there)).pick (A := wrA g3 _) (by repeat first | exact .here _ _ | assumption | apply Pick.there))⟩
  · intro hc5
    have hc5d := of_decide_eq_false hc5
    obtain rfl : j = M.length := by omega
    replace hS := (hS.pick (A := wrA g3 _) (by repeat first | exact .here _ _ | assumption | apply Pick.there)).recast (congrArg (wrA g3) (show _ = rgB M from by rw [List.take_length]; rfl))
    refine c_exit ?_
    refine ite_t rfl ?_
    refine c_seq ?_
    refine c_region ?_
    refine t_call Try.call34 (Bytes_calls hS (by repeat first | exact .here _ _ | assumption | apply Pick.there) (by omega)) rfl ?_
    rintro e w ⟨A30, c30, rfl, hc30, hS⟩
    refine ⟨_, rfl, ?_⟩
    refine t_q (q_as (.slice _ _ _) rfl) ?_
    refine t_nil ?_
    refine c_ret ?_
    refine r_one rfl rfl ?_
    exact ⟨A30, c30, rfl, ((((St.unreg hk ((((hS.pick (A := wrA g3 _) (by repeat first | exact .here _ _ | assumption | apply Pick.there)).drop.pick (A := rowA 3 1 A10 M.length c10 ((M.map (·.version)).map (Value.int .i64))) (by repeat first | exact .here _ _ | assumption | apply Pick.there)).drop.pick (A := mapA .i64 r (X.map rkv)) (by repeat first | exact .here _ _ | assumption | apply Pick.there)).pick (A := blkA g 120 [.map (some r)]) (by repeat first | exact .here _ _ | assumption | apply Pick.there))).pick (A := rdsA ps) (by repeat first | exact .here _ _ | assumption | apply Pick.there)).pick (A := regA W g M ps) (by repeat first | exact .here _ _ | assumption | apply Pick.there)).pick (A := rowA 5 1 A30 (rgB M).length c30 ((rgB M).map bv)) (by repeat first | exact .here _ _ | assumption | apply Pick.there))⟩
end Go.Proofs.Ytmgobaojioaioaa
