/- Texts of errors. -/
import Derived.Test.YtcgagmojgjbfpaaDoorDa
namespace Go.Proofs.YtcgagmojgjbfpaaDoor
open Go Go.RowKit Go.Lib
variable {W : World}
attribute [local irreducible] decI dig txtL blkA rowA rdsA
set_option maxRecDepth 100000 in
theorem text_nil {w : World} {R : List Asn} {ps : List RdP} (hS : St W w (rdsA ps :: R)) : Calls Tryd.prog 16 #[.nilIface] w fun e w' => e = .returned (.string ⟨(([] : List UInt8)).toArray⟩) ∧ St W w' (rdsA ps :: R) := by
  refine calls_of_wpE (args := [_]) Tryd.func16 rfl rfl rfl ?_
  refine c_seq ?_
  refine c_region ?_
  refine t_q (q_assign) ?_
  refine t_nil ?_
  refine c_seq ?_
  refine c_seq ?_
  refine c_region ?_
  refine t_q (q_mv .nilIface rfl) ?_
  refine t_q (q_eql_iface_nil Tryd.runUnderlying24 rfl (.inl rfl)) ?_
  refine t_nil ?_
  refine c_cond_t rfl rfl ?_
  refine c_seq ?_
  refine c_region ?_
  refine t_q (q_assign) ?_
  refine t_nil ?_
  refine c_ret ?_
  refine r_one rfl rfl ?_
  exact ⟨rfl, (hS.pick (A := rdsA ps) (by repeat first | exact .here _ _ | assumption | apply Pick.there))⟩
set_option maxHeartbeats 1000000 in
set_option maxRecDepth 100000 in
theorem text_if {w : World} {R : List Asn} {ps : List RdP} {t : Nat} {u : Value} {F : List (Int × Int)} (hE : EtOk W) (hS : St W w (rdsA ps :: R)) (hv : ErrL ps (.iface t u) F) (hF : F.length ≤ 1000) (hlr : ∀ x ∈ layF F, -9223372036854775808 ≤ x ∧ x ≤ 9223372036854775807) (hcr : -9223372036854775808 ≤ codeF F ∧ codeF F ≤ 9223372036854775807) : Calls Tryd.prog 16 #[.iface t u] w fun e w' => e = .returned (.string ⟨(txtL (layF F) ++ [32] ++ decI (codeF F)).toArray⟩) ∧ St W w' (rdsA ps :: R) := by
  have hll := lay_len F
  refine calls_of_wpE (args := [_]) Tryd.func16 rfl rfl rfl ?_
  refine c_seq ?_
  refine c_region ?_
  refine t_q (q_assign) ?_
  refine t_nil ?_
  refine c_seq ?_
  refine c_seq ?_
  refine c_region ?_
  refine t_q (q_mv (.iface _ _) rfl) ?_
  refine t_q (q_eql_iface_nil Tryd.runUnderlying24 rfl (.inr ⟨_, _, rfl⟩)) ?_
  refine t_nil ?_
  refine c_cond_f rfl rfl ?_
  refine c_skip ?_
  refine c_seq ?_
  refine c_region ?_
  refine t_q (q_assign) ?_
  refine t_nil ?_
  refine c_seq ?_
  refine c_seq ?_
  refine c_region ?_
  refine t_q (q_mv (.iface _ _) rfl) ?_
  refine t_call Tryd.call14 (layers_calls hE (hS.pick (A := rdsA ps) (by repeat first | exact .here _ _ | assumption | apply Pick.there)) hv hF) rfl ?_
  rintro e w ⟨A9, c9, rfl, hS⟩
  refine ⟨_, rfl, ?_⟩
  refine t_q (q_len_slice Tryd.runUnderlying22 rfl) ?_
  refine t_q (q_move) ?_
  refine t_nil ?_
  refine c_block ?_
  refine c_loop [3, 4, 5, 11, 12, 13, 14, 15, 16, 17, 18, 19, 20, 21, 22, 23, 24] (fun k σ w => ∃ j : Nat, σ 11 = .int .i64 (j : Int) ∧ σ 3 = .string ⟨(txtL ((layF F).take j)).toArray⟩ ∧ j ≤ (layF F).length ∧ (layF F).length - j ≤ k ∧ St W w (rowA 3 1 A9 (layF F).length c9 ((layF F).map (Value.int .i64)) :: rdsA ps :: R)) ((layF F).length) rfl (⟨0, rfl, (show Value.string ⟨#[]⟩ = .string ⟨(txtL ((layF F).take 0)).toArray⟩ from by rw [List.take_zero, txt_nil]), by omega, by omega, ((hS.pick (A := rdsA ps) (by repeat first | exact .here _ _ | assumption | apply Pick.there)).pick (A := rowA 3 1 A9 (layF F).length c9 ((layF F).map (Value.int .i64))) (by repeat first | exact .here _ _ | assumption | apply Pick.there))⟩) ?_
  skip
  rintro k σ w ⟨j, h11, h3, hj, hk, hS⟩
  refine c_know 11 h11 ?_
  refine c_know 3 h3 ?_
  clear h11 h3
  refine c_seq ?_
  refine c_region ?_
  refine t_q (q_lss rfl rfl) ?_
  refine t_nil ?_
  refine c_seq ?_
  refine c_cond rfl ?_ ?_
  · intro hc4
    have hc4d := of_decide_eq_true hc4
    have htl : (txtL ((layF F).take j)).length ≤ 21 * ((layF F).take j).length := txtL_len fun x hx => hlr x (List.mem_of_mem_take hx)
    rw [List.length_take] at htl
    have hdl := decI_len (hlr _ (getD_mem (l := layF F) (j := j) (d := 0) (by omega)))
    refine c_skip ?_
    refine c_seq ?_
    refine c_block ?_
    refine c_seq ?_
    refine c_region ?_
    refine t_q (q_mv (.int _ _) rfl) ?_
    first | refine t_index_nat Tryd.runUnderlying22 Tryd.sizeOf3 (hS.rowInts (ns := layF F) (A := A9) (c := c9) (by repeat first | exact .here _ _ | assumption | apply Pick.there) rfl) rfl rfl (by omega) (fun ad5 hl5 hx5 => ?_) | refine t_index Tryd.runUnderlying22 Tryd.sizeOf3 (hS.rowInts (ns := layF F) (A := A9) (c := c9) (by repeat first | exact .here _ _ | assumption | apply Pick.there) rfl) rfl rfl (by omega) (fun ad5 hl5 hx5 => ?_)
    refine t_q (q_cast (v' := .int .i64 ((layF F).getD j 0)) (q_load1 Tryd.isAgg3 rfl (hx5 0 _ rfl)) (by rfl)) ?_
    refine t_q (q_as (.int _ _) rfl) ?_
    refine t_q (q_as (.int _ _) rfl) ?_
    refine t_nil ?_
    refine c_seq ?_
    refine c_seq ?_
    refine c_region ?_
    refine t_q (q_mv (.int _ _) rfl) ?_
    refine t_q (q_gtr rfl rfl) ?_
    refine t_nil ?_
    refine c_cond rfl ?_ ?_
    · intro hc7
      have hc7d := of_decide_eq_true hc7
      have hj0 : 0 < j := by omega
      refine c_region ?_
      refine t_q (q_mv (.string _) rfl) ?_
      refine t_q (q_add_lst (a := txtL ((layF F).take j)) (b := [62]) rfl rfl (by show _ + 1 ≤ _; omega)) ?_
      refine t_q (q_as (.string _) rfl) ?_
      refine t_nil ?_
      refine c_region ?_
      refine t_q (q_mv (.string _) rfl) ?_
      refine t_q (q_mv (.int _ _) rfl) ?_
      refine t_call Tryd.call42 (fdig_calls (hlr _ (getD_mem (l := layF F) (j := j) (d := 0) (by omega)))) rfl ?_
      rintro e w ⟨rfl, hT⟩
      refine ⟨_, rfl, ?_⟩
      replace hS := hS.after hT
      refine t_q (q_cast (v' := .string ⟨(txtL ((layF F).take (j + 1))).toArray⟩) (q_add_lst (a := if 0 < j then txtL ((layF F).take j) ++ [62] else txtL ((layF F).take j)) (b := decI ((layF F).getD j 0)) (by first | (rw [if_pos hj0]; rfl) | (rw [if_neg hj0]; rfl)) rfl (by split <;> (try rw [List.length_append]) <;> (try rw [List.length_singleton]) <;> omega)) (by rw [txtL_step (by omega)])) ?_
      refine t_q (q_as (.string _) rfl) ?_
      refine t_nil ?_
      refine c_region ?_
      refine t_q (q_add_i64 rfl rfl (by omega)) ?_
      refine t_q (q_mv (.int _ _) rfl) ?_
      refine t_nil ?_
      exact ⟨k - 1, by omega, j + 1, rfl, rfl, by omega, by omega, ((hS.pick (A := rdsA ps) (by repeat first | exact .here _ _ | assumption | apply Pick.there)).pick (A := rowA 3 1 A9 (layF F).length c9 ((layF F).map (Value.int .i64))) (by repeat first | exact .here _ _ | assumption | apply Pick.there))⟩
    · intro hc7
      have hc7d := of_decide_eq_false hc7
      have hj0 : ¬ 0 < j := by omega
      refine c_skip ?_
      refine c_region ?_
      refine t_q (q_mv (.string _) rfl) ?_
      refine t_q (q_mv (.int _ _) rfl) ?_
      refine t_call Tryd.call42 (fdig_calls (hlr _ (getD_mem (l := layF F) (j := j) (d := 0) (by omega)))) rfl ?_
      rintro e w ⟨rfl, hT⟩
      refine ⟨_, rfl, ?_⟩
      replace hS := hS.after hT
      refine t_q (q_cast (v' := .string ⟨(txtL ((layF F).take (j + 1))).toArray⟩) (q_add_lst (a := if 0 < j then txtL ((layF F).take j) ++ [62] else txtL ((layF F).take j)) (b := decI ((layF F).getD j 0)) (by first | (rw [if_pos hj0]; rfl) | (rw [if_neg hj0]; rfl)) rfl (by split <;> (try rw [List.length_append]) <;> (try rw [List.length_singleton]) <;> omega)) (by rw [txtL_step (by omega)])) ?_
      refine t_q (q_as (.string _) rfl) ?_
      refine t_nil ?_
      refine c_region ?_
      refine t_q (q_add_i64 rfl rfl (by omega)) ?_
      refine t_q (q_mv (.int _ _) rfl) ?_
      refine t_nil ?_
      exact ⟨k - 1, by omega, j + 1, rfl, rfl, by omega, by omega, ((hS.pick (A := rdsA ps) (by repeat first | exact .here _ _ | assumption | apply Pick.there)).pick (A := rowA 3 1 A9 (layF F).length c9 ((layF F).map (Value.int .i64))) (by repeat first | exact .here _ _ | assumption | apply Pick.there))⟩
  · intro hc4
    have hc4d := of_decide_eq_false hc4
    obtain rfl : j = (layF F).length := by omega
    rw [List.take_length] at *
    have htl : (txtL (layF F)).length ≤ 21 * (layF F).length := txtL_len hlr
    have hdl := decI_len hcr
    refine c_exit ?_
    refine ite_t rfl ?_
    refine c_seq ?_
    refine c_region ?_
    refine t_q (q_mv (.string _) rfl) ?_
    refine t_q (q_add_lst (a := txtL (layF F)) (b := [32]) rfl rfl (by show _ + 1 ≤ _; omega)) ?_
    refine t_q (q_mv (.iface _ _) rfl) ?_
    refine t_call Tryd.call15 (code_calls hE (hS.pick (A := rdsA ps) (by repeat first | exact .here _ _ | assumption | apply Pick.there)) hv hF) rfl ?_
    rintro e w ⟨rfl, hS⟩
    refine ⟨_, rfl, ?_⟩
    refine t_call Tryd.call42 (fdig_calls hcr) rfl ?_
    rintro e w ⟨rfl, hT⟩
    refine ⟨_, rfl, ?_⟩
    replace hS := hS.after hT
    refine t_q (q_add_lst (a := txtL (layF F) ++ [32]) (b := decI (codeF F)) rfl rfl (by rw [List.length_append]; show _ + 1 + _ ≤ _; omega)) ?_
    refine t_q (q_as (.string _) rfl) ?_
    refine t_nil ?_
    refine c_ret ?_
    refine r_one rfl rfl ?_
    exact ⟨rfl, ((hS.pick (A := rowA 3 1 A9 (layF F).length c9 ((layF F).map (Value.int .i64))) (by repeat first | exact .here _ _ | assumption | apply Pick.there)).drop.pick (A := rdsA ps) (by repeat first | exact .here _ _ | assumption | apply Pick.there))⟩
def txtF (F : List (Int × Int)) : List UInt8 := if F = [] then [] else txtL (layF F) ++ [32] ++ decI (codeF F)
theorem text_calls {w : World} {R : List Asn} {ps : List RdP} {v : Value} {F : List (Int × Int)} (hE : EtOk W) (hS : St W w (rdsA ps :: R)) (hv : ErrL ps v F) (hF : F.length ≤ 1000) (hlr : ∀ x ∈ layF F, -9223372036854775808 ≤ x ∧ x ≤ 9223372036854775807) (hcr : -9223372036854775808 ≤ codeF F ∧ codeF F ≤ 9223372036854775807) : Calls Tryd.prog 16 #[v] w fun e w' => e = .returned (.string ⟨(txtF F).toArray⟩) ∧ St W w' (rdsA ps :: R) := by
  unfold txtF
  cases F with
  | nil =>
    obtain rfl : v = .nilIface := hv
    rw [if_pos rfl]
    exact text_nil hS
  | cons a F' =>
    obtain ⟨l1, c1⟩ := a
    have hv2 := hv
    obtain ⟨g, u, rfl, hm, hu⟩ := hv
    rw [if_neg (by simp)]
    exact text_if hE hS hv2 hF hlr hcr
end Go.Proofs.YtcgagmojgjbfpaaDoor
