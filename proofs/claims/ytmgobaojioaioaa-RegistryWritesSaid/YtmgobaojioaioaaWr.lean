/- Registries: the document's bytes. -/
import Derived.Test.YtmgobaojioaioaaWh
import Derived.Test.YtmgobaojioaioaaUe
namespace Go.Proofs.Ytmgobaojioaioaa
open Go Go.RowKit Go.Lib
variable {W : World}
attribute [local irreducible] blkA rowA rdsA mapA regA wrA rdrA
set_option maxHeartbeats 1000000 in
set_option maxRecDepth 100000 in
theorem qgbytes_calls {w : World} {R : List Asn} {q : Nat} {A : Option Addr} {c : Nat} {Y : List RuV} {ps : List RdP} (hS : St W w (blkA q 141 [.slice A Y.length c] :: rowA 47 9 A Y.length c (Y.flatMap RuV.cells) :: rdsA ps :: R)) (hD : ∀ y ∈ Y, RuBy W ps y) (hY16 : Y.length ≤ 16) : Calls Try.prog 67 #[.pointer (some ⟨q, 0, none⟩)] w fun e w' => ∃ A' c', e = .returned (.slice A' (rgB Y).length c') ∧ St W w' (rowA 5 1 A' (rgB Y).length c' ((rgB Y).map bv) :: blkA q 141 [.slice A Y.length c] :: rowA 47 9 A Y.length c (Y.flatMap RuV.cells) :: rdsA ps :: R) := by
  have hlens : ∀ r ∈ Y, (ruB r).length ≤ 50000090 := fun r hr => (ru_lens ((hD r hr).gd hS (by repeat first | exact .here _ _ | assumption | apply Pick.there))).2.2.2.2.2
  have hfl2 := rgB_len hlens
  have he1 := enc_ten (n := Y.length) (by omega)
  refine calls_of_wpE (args := [_]) Try.func67 rfl rfl rfl ?_
  refine c_seq ?_
  refine c_region ?_
  refine t_q (q_assign) ?_
  refine t_nil ?_
  refine c_seq ?_
  refine c_region ?_
  refine t_q (q_mv (.pointer _) rfl) ?_
  refine t_q (q_nilCheck rfl) ?_
  refine t_q (q_fieldAddr 0 Try.runUnderlying141 rfl Try.sizeOf139 (by decide) rfl rfl) ?_
  refine t_q (q_load1 Try.isAgg139 rfl (hS.cell (by repeat first | exact .here _ _ | assumption | apply Pick.there) rfl)) ?_
  refine t_q (q_len_slice Try.runUnderlying139 rfl) ?_
  first | refine t_q (q_conv_u64 Try.runUnderlying3 Try.runUnderlying26 rfl (by omega)) ?_ | refine t_q (q_convm_u64 Try.runUnderlying3 Try.runUnderlying26 rfl) ?_
  refine t_call Try.call86 (qwNat (n := (Y.length : Int)) hS (by omega) (by omega)) rfl ?_
  rintro e w ⟨A11, n11, c11, rfl, hn11, hS⟩
  refine ⟨_, rfl, ?_⟩
  rw [Int.toNat_natCast] at hn11 hS
  refine t_q (q_as (.slice _ _ _) rfl) ?_
  refine t_nil ?_
  refine c_seq ?_
  refine c_seq ?_
  refine c_region ?_
  refine t_q (q_assign) ?_
  refine t_nil ?_
  refine c_block ?_
  refine c_loop [3, 4, 12, 13, 14, 15, 16, 17, 18, 19, 20, 21, 22, 23, 24, 25, 26, 27, 28, 29, 30] (fun k σ w => ∃ (j : Nat) (A' : Option Addr) (m c' : Nat), σ 4 = .int .i64 (j : Int) ∧ σ 3 = .slice A' m c' ∧ m = (enc Y.length ++ (Y.take j).flatMap ruB).length ∧ j ≤ Y.length ∧ Y.length - j ≤ k ∧ St W w (rowA 5 1 A' m c' (((enc Y.length ++ (Y.take j).flatMap ruB)).map bv) :: blkA q 141 [.slice A Y.length c] :: rowA 47 9 A Y.length c (Y.flatMap RuV.cells) :: rdsA ps :: R)) (Y.length) rfl (⟨0, A11, n11, c11, rfl, rfl, (by rw [hn11]; simp), by omega, by omega, (((((hS.pick (A := rdsA ps) (by repeat first | exact .here _ _ | assumption | apply Pick.there)).pick (A := rowA 47 9 A Y.length c (Y.flatMap RuV.cells)) (by repeat first | exact .here _ _ | assumption | apply Pick.there)).pick (A := blkA q 141 [.slice A Y.length c]) (by repeat first | exact .here _ _ | assumption | apply Pick.there)).pick (A := rowA 5 1 A11 n11 c11 _) (by repeat first | exact .here _ _ | assumption | apply Pick.there))).recast (congrArg (rowA 5 1 A11 n11 c11) (by simp))⟩) ?_
  skip
  rintro k σ w ⟨j, A', m, c', h4, h3, hm, hj, hk, hS⟩
  refine c_know 4 h4 ?_
  refine c_know 3 h3 ?_
  clear h4 h3
  have hfl := rgB_len (M := Y.take j) (fun r hr => hlens r (List.mem_of_mem_take hr))
  rw [List.length_take] at hfl
  have hml : m ≤ 900000000 := by rw [hm, List.length_append]; omega
  refine c_seq ?_
  refine c_seq ?_
  refine c_region ?_
  refine t_q (q_mv (.int _ _) rfl) ?_
  refine t_q (q_mv (.pointer _) rfl) ?_
  refine t_q (q_nilCheck rfl) ?_
  refine t_q (q_fieldAddr 0 Try.runUnderlying141 rfl Try.sizeOf139 (by decide) rfl rfl) ?_
  refine t_q (q_load1 Try.isAgg139 rfl (hS.cell (by repeat first | exact .here _ _ | assumption | apply Pick.there) rfl)) ?_
  refine t_q (q_len_slice Try.runUnderlying139 rfl) ?_
  refine t_q (q_lss rfl rfl) ?_
  refine t_nil ?_
  refine c_cond rfl ?_ ?_
  · intro hc3
    have hc3d := of_decide_eq_true hc3
    have hyj := hD (Y.getD j default) (getD_mem (by omega))
    have hlj := hlens (Y.getD j default) (getD_mem (by omega))
    refine c_skip ?_
    refine c_seq ?_
    refine c_block ?_
    refine c_region ?_
    refine t_q (q_mv (.slice _ _ _) rfl) ?_
    refine t_q (q_mv (.pointer _) rfl) ?_
    refine t_q (q_nilCheck rfl) ?_
    refine t_q (q_fieldAddr 0 Try.runUnderlying141 rfl Try.sizeOf139 (by decide) rfl rfl) ?_
    refine t_q (q_load1 Try.isAgg139 rfl (hS.cell (by repeat first | exact .here _ _ | assumption | apply Pick.there) rfl)) ?_
    refine t_q (q_mv (.int _ _) rfl) ?_
    first | refine t_index_nat Try.runUnderlying139 Try.sizeOf47 (hS.rowRdL (l := Y) (A := A) (c := c) (by repeat first | exact .here _ _ | assumption | apply Pick.there) rfl (fun _ => rfl)) rfl rfl (by omega) (fun ad4 hl4 hx4 => ?_) | refine t_index Try.runUnderlying139 Try.sizeOf47 (hS.rowRdL (l := Y) (A := A) (c := c) (by repeat first | exact .here _ _ | assumption | apply Pick.there) rfl (fun _ => rfl)) rfl rfl (by omega) (fun ad4 hl4 hx4 => ?_)
    refine t_q (q_cast (v' := .agg (Y.getD j default).cells.toArray) (q_loadN Try.isAgg47 Try.sizeOf47 rfl hl4 hx4) (by rfl)) ?_
    refine t_call Try.call95 (qrbytes_calls (x := (Y.getD j default)) (hyj.gd hS (by repeat first | exact .here _ _ | assumption | apply Pick.there))) rfl ?_
    rintro e w ⟨A29, n29, c29, rfl, hn29, hT⟩
    refine ⟨_, rfl, ?_⟩
    have hS : St W w (_ :: _) := hS.lift hT
    refine t_append_own (size := 1) (bytes := 1) Try.underlying74 (info_of Try.type5) rfl rfl rfl rfl (by decide) hS (by repeat first | exact .here _ _ | assumption | apply Pick.there) (by repeat first | exact .here _ _ | assumption | apply Pick.there) rfl rfl (by first | exact allOne_bv _ | exact allOne_ints _ _ | rfl) (by unfold maxLen; omega) (by omega) (fun A30 c30 w hS => ?_)
    replace hS := (hS.pick (A := rowA 5 1 A30 _ c30 _) (by repeat first | exact .here _ _ | assumption | apply Pick.there)).recast (show _ = rowA 5 1 A30 (m + n29) c30 (((enc Y.length ++ (Y.take j).flatMap ruB) ++ ruB (Y.getD j default)).map bv) from by simp only [List.map_append])
    refine t_q (q_as (.slice _ _ _) rfl) ?_
    refine t_nil ?_
    refine c_region ?_
    refine t_q (q_mv (.int _ _) rfl) ?_
    refine t_q (q_add_i64 rfl rfl (by omega)) ?_
    refine t_q (q_as (.int _ _) rfl) ?_
    refine t_nil ?_
    replace hS := hS.recast (congrArg (rowA 5 1 A30 _ c30) (show _ = (enc Y.length ++ (Y.take (j + 1)).flatMap ruB).map bv from by rw [rgB_take (by omega), ← List.append_assoc]))
    exact ⟨k - 1, by omega, j + 1, A30, m + n29, c30, rfl, rfl, (by rw [rgB_take (by omega), ← List.append_assoc, List.length_append, hm, hn29]), by omega, by omega, ((((hS.pick (A := rdsA ps) (by repeat first | exact .here _ _ | assumption | apply Pick.there)).pick (A := rowA 47 9 A Y.length c (Y.flatMap RuV.cells)) (by repeat first | exact .here _ _ | assumption | apply Pick.there)).pick (A := blkA q 141 [.slice A Y.length c]) (by repeat first | exact .here _ _ | assumption | apply Pick.there)).pick (A := rowA 5 1 A30 _ c30 _) (by repeat first | exact .here _ _ | assumption | apply Pick.there))⟩
  · intro hc3
    have hc3d := of_decide_eq_false hc3
    have hjY : j = Y.length := by omega
    rw [hjY, List.take_length] at hm hS
    refine c_exit ?_
    refine ite_t rfl ?_
    refine c_seq ?_
    refine c_region ?_
    refine t_q (q_mv (.slice _ _ _) rfl) ?_
    refine t_q (q_as (.slice _ _ _) rfl) ?_
    refine t_nil ?_
    refine c_ret ?_
    refine r_one rfl rfl ?_
    rw [hm] at hS
    exact ⟨A', c', (by rw [hm]; rfl), ((((hS.pick (A := rdsA ps) (by repeat first | exact .here _ _ | assumption | apply Pick.there)).pick (A := rowA 47 9 A Y.length c (Y.flatMap RuV.cells)) (by repeat first | exact .here _ _ | assumption | apply Pick.there)).pick (A := blkA q 141 [.slice A Y.length c]) (by repeat first | exact .here _ _ | assumption | apply Pick.there)).pick (A := rowA 5 1 A' _ c' _) (by repeat first | exact .here _ _ | assumption | apply Pick.there))⟩
end Go.Proofs.Ytmgobaojioaioaa
