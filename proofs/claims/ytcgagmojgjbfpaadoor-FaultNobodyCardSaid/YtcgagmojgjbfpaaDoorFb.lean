/- Faults: new ones, wrapped ones, layers, numbers; rules.Check with its error. -/
import Derived.Test.YtcgagmojgjbfpaaDoorFa
import Derived.Test.YtcgagmojgjbfpaaDoorUa
import Derived.Test.YtcgagmojgjbfpaaDoorQ
import Derived.Laws.MakeOwn
namespace Go.Proofs.YtcgagmojgjbfpaaDoor
open Go Go.RowKit Go.Lib
variable {W : World}
def newE (l c : Int) : List (Int × Int) := if c = 0 then [] else [(l, c)]
def wrE (l : Int) (F : List (Int × Int)) : List (Int × Int) := if F = [] then [] else (l, 0) :: F
def codeF (F : List (Int × Int)) : Int := (F.getD (F.length - 1) (0, 0)).2
def layF (F : List (Int × Int)) : List Int := F.map (·.1)
theorem lay_step {F : List (Int × Int)} {j : Nat} (hj : j < F.length) : (layF F).take (j + 1) = (layF F).take j ++ [(F.getD j (0, 0)).1] := by
  have h := List.take_succ_eq_append_getElem (l := F.map (·.1)) (i := j) (by rw [List.length_map]; exact hj)
  rw [List.getElem_map] at h
  unfold layF
  rw [h, List.getD_eq_getElem?_getD, List.getElem?_eq_getElem hj]
  rfl
theorem lay_len (F : List (Int × Int)) : (layF F).length = F.length := by unfold layF; rw [List.length_map]
attribute [local irreducible] blkA rowA rdsA
set_option maxRecDepth 100000 in
theorem enew_calls {w : World} {R : List Asn} {ps : List RdP} {l c : Int} (hS : St W w (rdsA ps :: R)) : Calls Tryd.prog 11 #[.int .i64 l, .int .i64 c] w fun e w' => ∃ v ps', e = .returned v ∧ ErrL ps' v (newE l c) ∧ (∀ p ∈ ps, p ∈ ps') ∧ St W w' (rdsA ps' :: R) := by
  refine calls_of_wpE (args := [_, _]) Tryd.func11 rfl rfl rfl ?_
  refine c_seq ?_
  refine c_region ?_
  refine t_q (q_assign) ?_
  refine t_nil ?_
  refine c_seq ?_
  refine c_seq ?_
  refine c_region ?_
  refine t_q (q_mv (.int _ _) rfl) ?_
  refine t_q (q_eql rfl rfl) ?_
  refine t_nil ?_
  refine c_cond rfl ?_ ?_
  · intro hc2
    have hc2d := of_decide_eq_true hc2
    have hc : c = 0 := by omega
    refine c_seq ?_
    refine c_region ?_
    refine t_q (q_assign) ?_
    refine t_nil ?_
    refine c_ret ?_
    refine r_one rfl rfl ?_
    unfold newE
    first
      | (rw [if_pos hc]
         exact ⟨_, ps, rfl, rfl, (fun _ h => h), (hS.pick (A := rdsA ps) (by repeat first | exact .here _ _ | assumption | apply Pick.there))⟩)
      | (rw [if_neg hc]
         exact ⟨_, fltP g10 l c .nilIface :: ps, rfl, ⟨g10, .nilIface, rfl, List.mem_cons_self, rfl⟩, (fun _ h => List.mem_cons_of_mem _ h), (St.rds_blk ((hS.pick (A := rdsA ps) (by repeat first | exact .here _ _ | assumption | apply Pick.there)).pick (A := blkA g10 76 (fcs l c .nilIface)) (by repeat first | exact .here _ _ | assumption | apply Pick.there))).recast rfl⟩)
  · intro hc2
    have hc2d := of_decide_eq_false hc2
    have hc : ¬ c = 0 := by omega
    refine c_skip ?_
    refine c_seq ?_
    refine c_region ?_
    refine t_q (q_mv (.int _ _) rfl) ?_
    refine t_q (q_mv (.int _ _) rfl) ?_
    refine t_q (q_build (qs := [(0, 1), (1, 1), (2, 1)]) [(.int _ _), (.int _ _), .nilIface] Tryd.zeroValue76 Tryd.runUnderlying76 ⟨rfl, Tryd.sizeOf3, rfl, Tryd.sizeOf26, rfl, Tryd.sizeOf24, trivial⟩ rfl rfl) ?_
    refine t_box (v := (.agg _)) rfl rfl hS (fun g10 w hS => ?_)
    replace hS := hS.recast (show _ = blkA g10 76 (fcs l c .nilIface) from rfl)
    refine t_q (q_iface Tryd.runUnderlying35 (fun _ h => by cases h) rfl) ?_
    refine t_q (q_as (.iface _ _) rfl) ?_
    refine t_nil ?_
    refine c_ret ?_
    refine r_one rfl rfl ?_
    unfold newE
    first
      | (rw [if_pos hc]
         exact ⟨_, ps, rfl, rfl, (fun _ h => h), (hS.pick (A := rdsA ps) (by repeat first | exact .here _ _ | assumption | apply Pick.there))⟩)
      | (rw [if_neg hc]
         exact ⟨_, fltP g10 l c .nilIface :: ps, rfl, ⟨g10, .nilIface, rfl, List.mem_cons_self, rfl⟩, (fun _ h => List.mem_cons_of_mem _ h), (St.rds_blk ((hS.pick (A := rdsA ps) (by repeat first | exact .here _ _ | assumption | apply Pick.there)).pick (A := blkA g10 76 (fcs l c .nilIface)) (by repeat first | exact .here _ _ | assumption | apply Pick.there))).recast rfl⟩)
set_option maxRecDepth 100000 in
theorem ewrap_nil {w : World} {R : List Asn} {ps : List RdP} {l : Int} (hS : St W w (rdsA ps :: R)) : Calls Tryd.prog 13 #[.int .i64 l, .nilIface] w fun e w' => e = .returned .nilIface ∧ St W w' (rdsA ps :: R) := by
  refine calls_of_wpE (args := [_, _]) Tryd.func13 rfl rfl rfl ?_
  refine c_seq ?_
  refine c_region ?_
  refine t_q (q_assign) ?_
  refine t_nil ?_
  refine c_seq ?_
  refine c_seq ?_
  refine c_region ?_
  refine t_q (q_mv .nilIface rfl) ?_
  refine t_q (q_eql_iface_nil Tryd.runUnderlying24 rfl (.inl rfl)) ?_
  refine t_nil ?_
  refine c_cond_t rfl rfl ?_
  refine c_seq ?_
  refine c_region ?_
  refine t_q (q_assign) ?_
  refine t_nil ?_
  refine c_ret ?_
  refine r_one rfl rfl ?_
  exact ⟨rfl, (hS.pick (A := rdsA ps) (by repeat first | exact .here _ _ | assumption | apply Pick.there))⟩
set_option maxRecDepth 100000 in
theorem ewrap_if {w : World} {R : List Asn} {ps : List RdP} {l : Int} {t : Nat} {u : Value} (hS : St W w (rdsA ps :: R)) : Calls Tryd.prog 13 #[.int .i64 l, .iface t u] w fun e w' => ∃ g, e = .returned (.iface 35 (.pointer (some ⟨g, 0, none⟩))) ∧ St W w' (rdsA (fltP g l 0 (.iface t u) :: ps) :: R) := by
  refine calls_of_wpE (args := [_, _]) Tryd.func13 rfl rfl rfl ?_
  refine c_seq ?_
  refine c_region ?_
  refine t_q (q_assign) ?_
  refine t_nil ?_
  refine c_seq ?_
  refine c_seq ?_
  refine c_region ?_
  refine t_q (q_mv (.iface _ _) rfl) ?_
  refine t_q (q_eql_iface_nil Tryd.runUnderlying24 rfl (.inr ⟨_, _, rfl⟩)) ?_
  refine t_nil ?_
  refine c_cond_f rfl rfl ?_
  refine c_skip ?_
  refine c_seq ?_
  refine c_region ?_
  refine t_q (q_mv (.int _ _) rfl) ?_
  refine t_q (q_mv (.iface _ _) rfl) ?_
  refine t_q (q_build (qs := [(0, 1), (1, 1), (2, 1)]) [(.int _ _), (.int _ _), (.iface _ _)] Tryd.zeroValue76 Tryd.runUnderlying76 ⟨rfl, Tryd.sizeOf3, rfl, Tryd.sizeOf26, rfl, Tryd.sizeOf24, trivial⟩ rfl rfl) ?_
  refine t_box (v := (.agg _)) rfl rfl hS (fun g10 w hS => ?_)
  replace hS := hS.recast (show _ = blkA g10 76 (fcs l 0 (.iface t u)) from rfl)
  refine t_q (q_iface Tryd.runUnderlying35 (fun _ h => by cases h) rfl) ?_
  refine t_q (q_as (.iface _ _) rfl) ?_
  refine t_nil ?_
  refine c_ret ?_
  refine r_one rfl rfl ?_
  exact ⟨g10, rfl, (St.rds_blk ((hS.pick (A := rdsA ps) (by repeat first | exact .here _ _ | assumption | apply Pick.there)).pick (A := blkA g10 76 (fcs l 0 (.iface t u))) (by repeat first | exact .here _ _ | assumption | apply Pick.there))).recast rfl⟩
theorem ewrap_calls {w : World} {R : List Asn} {ps : List RdP} {l : Int} {v : Value} {F : List (Int × Int)} (hS : St W w (rdsA ps :: R)) (hv : ErrL ps v F) : Calls Tryd.prog 13 #[.int .i64 l, v] w fun e w' => ∃ v ps', e = .returned v ∧ ErrL ps' v (wrE l F) ∧ (∀ p ∈ ps, p ∈ ps') ∧ St W w' (rdsA ps' :: R) := by
  cases F with
  | nil =>
    obtain rfl : v = .nilIface := hv
    exact (ewrap_nil hS).mono fun e w' h => ⟨.nilIface, ps, h.1, rfl, fun _ h => h, h.2⟩
  | cons a F' =>
    obtain ⟨l1, c1⟩ := a
    obtain ⟨g, u, rfl, hm, hu⟩ := hv
    refine (ewrap_if hS).mono fun e w' h => ?_
    obtain ⟨g1, h1, h2⟩ := h
    refine ⟨_, _, h1, ?_, fun _ h => List.mem_cons_of_mem _ h, h2⟩
    show ErrL _ _ (if (l1, c1) :: F' = [] then [] else (l, 0) :: (l1, c1) :: F')
    rw [if_neg (by simp)]
    exact ⟨g1, _, rfl, List.mem_cons_self, ⟨g, u, rfl, List.mem_cons_of_mem _ hm, hu.mono fun _ h => List.mem_cons_of_mem _ h⟩⟩
set_option maxHeartbeats 1000000 in
set_option maxRecDepth 100000 in
theorem layers_calls {w : World} {R : List Asn} {ps : List RdP} {v : Value} {F : List (Int × Int)} (hE : EtOk W) (hS : St W w (rdsA ps :: R)) (hv : ErrL ps v F) (hF : F.length ≤ 1000) : Calls Tryd.prog 14 #[v] w fun e w' => ∃ A c, e = .returned (.slice A (layF F).length c) ∧ St W w' (rowA 3 1 A (layF F).length c ((layF F).map (Value.int .i64)) :: rdsA ps :: R) := by
  refine calls_of_wpE (args := [_]) Tryd.func14 rfl rfl rfl ?_
  refine c_seq ?_
  refine c_region ?_
  refine t_q (q_assign) ?_
  refine t_nil ?_
  refine c_seq ?_
  refine c_seq ?_
  replace hS := hS.nilrow 3 1
  refine c_region ?_
  refine t_q (q_mv v rfl) ?_
  refine t_call Tryd.call41 (chain_calls hE (hS.pick (A := rdsA ps) (by repeat first | exact .here _ _ | assumption | apply Pick.there)) hv hF) rfl ?_
  rintro e w ⟨A, c, gs, rfl, hgl, hgs, hS⟩
  refine ⟨_, rfl, ?_⟩
  refine t_q (q_len_slice Tryd.runUnderlying77 rfl) ?_
  refine t_q (q_move) ?_
  refine t_nil ?_
  refine c_block ?_
  refine c_loop [2, 4, 8, 9, 10, 11, 12, 13, 14, 15, 16, 17, 18, 19] (fun k σ w => ∃ (j : Nat) (A2 : Option Addr) (c2 : Nat), σ 8 = .int .i64 (j : Int) ∧ σ 2 = .slice A2 j c2 ∧ j ≤ gs.length ∧ gs.length - j ≤ k ∧ St W w (rowA 3 1 A2 j c2 (((layF F).take j).map (Value.int .i64)) :: rowA 35 1 A gs.length c ((gs).flatMap pcs) :: rdsA ps :: R)) (gs.length) rfl (⟨0, none, 0, rfl, rfl, by omega, by omega, (((hS.pick (A := rdsA ps) (by repeat first | exact .here _ _ | assumption | apply Pick.there)).pick (A := rowA 35 1 A gs.length c ((gs).flatMap pcs)) (by repeat first | exact .here _ _ | assumption | apply Pick.there)).pick (A := rowA 3 1 none 0 0 []) (by repeat first | exact .here _ _ | assumption | apply Pick.there))⟩) ?_
  skip
  rintro k σ w ⟨j, A2, c2, h8, h2, hj, hk, hS⟩
  refine c_know 8 h8 ?_
  refine c_know 2 h2 ?_
  clear h8 h2
  refine c_seq ?_
  refine c_region ?_
  refine t_q (q_lss rfl rfl) ?_
  refine t_nil ?_
  refine c_seq ?_
  refine c_cond rfl ?_ ?_
  · intro hc3
    have hc3d := of_decide_eq_true hc3
    obtain ⟨u, hm, hu⟩ := hgs j (by omega)
    refine c_skip ?_
    refine c_seq ?_
    refine c_block ?_
    refine c_seq ?_
    refine c_region ?_
    first | refine t_index_nat Tryd.runUnderlying77 Tryd.sizeOf35 (hS.rowRdL (l := gs) (cells := pcs) (by repeat first | exact .here _ _ | assumption | apply Pick.there) rfl (fun _ => rfl)) rfl rfl (by omega) (fun ad4 hl4 hx4 => ?_) | refine t_index Tryd.runUnderlying77 Tryd.sizeOf35 (hS.rowRdL (l := gs) (cells := pcs) (by repeat first | exact .here _ _ | assumption | apply Pick.there) rfl (fun _ => rfl)) rfl rfl (by omega) (fun ad4 hl4 hx4 => ?_)
    refine t_q (q_cast (v' := .pointer (some ⟨(gs.getD j 0), 0, none⟩)) (q_load1 Tryd.isAgg35 rfl (hx4 0 _ rfl)) (by rfl)) ?_
    refine t_q (q_as (.pointer _) rfl) ?_
    refine t_nil ?_
    refine c_region ?_
    refine t_q (q_mv (.slice _ _ _) rfl) ?_
    refine t_q (q_mv (.pointer _) rfl) ?_
    refine t_q (q_nilCheck rfl) ?_
    refine t_q (q_fieldAddr 0 Tryd.runUnderlying76 rfl Tryd.sizeOf3 (by decide) rfl rfl) ?_
    refine t_q (q_load1 Tryd.isAgg3 rfl (flt_cell hS (by repeat first | exact .here _ _ | assumption | apply Pick.there) hm rfl)) ?_
    refine t_build_ints [_] Tryd.runUnderlying22 Tryd.sizeOf3 Tryd.zeroValue3 rfl rfl (by decide) hS (fun g17 w hS => ?_)
    refine t_append_own (size := 1) (bytes := 8) Tryd.underlying22 (info_of Tryd.type3) rfl rfl rfl rfl (by decide) hS (by repeat first | exact .here _ _ | assumption | apply Pick.there) (by repeat first | exact .here _ _ | assumption | apply Pick.there) rfl rfl (by first | exact allOne_bv _ | exact allOne_ints _ _ | rfl) (by unfold maxLen; omega) (by omega) (fun A18 c18 w hS => ?_)
    replace hS := (hS.pick (A := rowA 3 1 A18 _ c18 _) (by repeat first | exact .here _ _ | assumption | apply Pick.there)).recast (show _ = rowA 3 1 A18 (j + 1) c18 (((layF F).take (j + 1)).map (Value.int .i64)) from by rw [lay_step (by omega), List.map_append] <;> rfl)
    refine t_q (q_as (.slice _ _ _) rfl) ?_
    refine t_nil ?_
    refine c_region ?_
    refine t_q (q_add_i64 rfl rfl (by omega)) ?_
    refine t_q (q_mv (.int _ _) rfl) ?_
    refine t_nil ?_
    exact ⟨k - 1, by omega, j + 1, A18, c18, rfl, rfl, by omega, by omega, (((hS.pick (A := rdsA ps) (by repeat first | exact .here _ _ | assumption | apply Pick.there)).pick (A := rowA 35 1 A gs.length c ((gs).flatMap pcs)) (by repeat first | exact .here _ _ | assumption | apply Pick.there)).pick (A := rowA 3 1 A18 (j + 1) c18 (((layF F).take (j + 1)).map (Value.int .i64))) (by repeat first | exact .here _ _ | assumption | apply Pick.there))⟩
  · intro hc3
    have hc3d := of_decide_eq_false hc3
    refine c_exit ?_
    refine ite_t rfl ?_
    refine c_seq ?_
    refine c_region ?_
    refine t_q (q_mv (.slice _ _ _) rfl) ?_
    refine t_q (q_as (.slice _ _ _) rfl) ?_
    refine t_nil ?_
    refine c_ret ?_
    refine r_one rfl rfl ?_
    obtain rfl : j = (layF F).length := by rw [lay_len]; omega
    rw [List.take_length] at hS
    exact ⟨A2, c2, rfl, (((hS.pick (A := rowA 35 1 A gs.length c ((gs).flatMap pcs)) (by repeat first | exact .here _ _ | assumption | apply Pick.there)).drop.pick (A := rdsA ps) (by repeat first | exact .here _ _ | assumption | apply Pick.there)).pick (A := rowA 3 1 A2 (layF F).length c2 ((layF F).map (Value.int .i64))) (by repeat first | exact .here _ _ | assumption | apply Pick.there))⟩
set_option maxRecDepth 100000 in
theorem code_nil {w : World} {R : List Asn} {ps : List RdP} (hS : St W w (rdsA ps :: R)) : Calls Tryd.prog 15 #[.nilIface] w fun e w' => e = .returned (.int .i64 0) ∧ St W w' (rdsA ps :: R) := by
  refine calls_of_wpE (args := [_]) Tryd.func15 rfl rfl rfl ?_
  refine c_seq ?_
  refine c_region ?_
  refine t_q (q_assign) ?_
  refine t_nil ?_
  refine c_seq ?_
  refine c_seq ?_
  refine c_region ?_
  refine t_q (q_mv .nilIface rfl) ?_
  refine t_q (q_eql_iface_nil Tryd.runUnderlying24 rfl (.inl rfl)) ?_
  refine t_nil ?_
  refine c_cond_t rfl rfl ?_
  refine c_seq ?_
  refine c_region ?_
  refine t_q (q_assign) ?_
  refine t_nil ?_
  refine c_ret ?_
  refine r_one rfl rfl ?_
  exact ⟨rfl, (hS.pick (A := rdsA ps) (by repeat first | exact .here _ _ | assumption | apply Pick.there))⟩
set_option maxHeartbeats 1000000 in
set_option maxRecDepth 100000 in
theorem code_if {w : World} {R : List Asn} {ps : List RdP} {t : Nat} {x : Value} {F : List (Int × Int)} (hE : EtOk W) (hS : St W w (rdsA ps :: R)) (hv : ErrL ps (.iface t x) F) (hF : F.length ≤ 1000) (hF1 : 1 ≤ F.length) : Calls Tryd.prog 15 #[.iface t x] w fun e w' => e = .returned (.int .i64 (codeF F)) ∧ St W w' (rdsA ps :: R) := by
  refine calls_of_wpE (args := [_]) Tryd.func15 rfl rfl rfl ?_
  refine c_seq ?_
  refine c_region ?_
  refine t_q (q_assign) ?_
  refine t_nil ?_
  refine c_seq ?_
  refine c_seq ?_
  refine c_region ?_
  refine t_q (q_mv (.iface _ _) rfl) ?_
  refine t_q (q_eql_iface_nil Tryd.runUnderlying24 rfl (.inr ⟨_, _, rfl⟩)) ?_
  refine t_nil ?_
  refine c_cond_f rfl rfl ?_
  refine c_skip ?_
  refine c_seq ?_
  refine c_region ?_
  refine t_q (q_mv (.iface _ _) rfl) ?_
  refine t_call Tryd.call41 (chain_calls hE (hS.pick (A := rdsA ps) (by repeat first | exact .here _ _ | assumption | apply Pick.there)) hv hF) rfl ?_
  rintro e w ⟨A, c, gs, rfl, hgl, hgs, hS⟩
  refine ⟨_, rfl, ?_⟩
  obtain ⟨u, hm, hu⟩ := hgs (gs.length - 1) (by omega)
  rw [show gs.length - 1 + 1 = F.length by omega, List.drop_length] at hu
  obtain rfl : u = .nilIface := hu
  refine t_q (q_as (.slice _ _ _) rfl) ?_
  refine t_nil ?_
  refine c_seq ?_
  refine c_seq ?_
  refine c_region ?_
  refine t_q (q_mv (.slice _ _ _) rfl) ?_
  refine t_q (q_len_slice Tryd.runUnderlying77 rfl) ?_
  refine t_q (q_cast (v' := .bool false) (q_eql rfl rfl) (congrArg Value.bool (decide_eq_false (by omega)))) ?_
  refine t_q (q_mv (.bool _) rfl) ?_
  refine t_yes rfl rfl rfl ?_
  refine t_q (q_mv (.slice _ _ _) rfl) ?_
  refine t_yes rfl rfl rfl ?_
  refine t_q (q_mv (.slice _ _ _) rfl) ?_
  refine t_yes rfl rfl rfl ?_
  refine t_q (q_len_slice Tryd.runUnderlying77 rfl) ?_
  refine t_yes rfl rfl rfl ?_
  refine t_q (q_cast (v' := .int .i64 ((gs.length - 1 : Nat) : Int)) (q_sub_i64 rfl rfl (by omega)) (by first | (rw [hgl]; rfl) | (congr 1; omega))) ?_
  refine t_yes rfl rfl rfl ?_
  first | refine t_index_nat Tryd.runUnderlying77 Tryd.sizeOf35 (hS.rowRdL (l := gs) (cells := pcs) (by repeat first | exact .here _ _ | assumption | apply Pick.there) rfl (fun _ => rfl)) rfl rfl (by omega) (fun ad4 hl4 hx4 => ?_) | refine t_index Tryd.runUnderlying77 Tryd.sizeOf35 (hS.rowRdL (l := gs) (cells := pcs) (by repeat first | exact .here _ _ | assumption | apply Pick.there) rfl (fun _ => rfl)) rfl rfl (by omega) (fun ad4 hl4 hx4 => ?_)
  refine t_yes rfl rfl rfl ?_
  refine t_q (q_cast (v' := .pointer (some ⟨(gs.getD (gs.length - 1) 0), 0, none⟩)) (q_load1 Tryd.isAgg35 rfl (hx4 0 _ rfl)) (by rfl)) ?_
  refine t_yes rfl rfl rfl ?_
  refine t_q (q_nilCheck rfl) ?_
  refine t_yes rfl rfl rfl ?_
  refine t_q (q_fieldAddr 2 Tryd.runUnderlying76 rfl Tryd.sizeOf24 (by decide) rfl rfl) ?_
  refine t_yes rfl rfl rfl ?_
  refine t_q (q_load1 Tryd.isAgg24 rfl (flt_cell hS (by repeat first | exact .here _ _ | assumption | apply Pick.there) hm rfl)) ?_
  refine t_yes rfl rfl rfl ?_
  refine t_q (q_cast (v' := .bool false) (q_neq_iface_nil Tryd.runUnderlying24 rfl (.inl rfl)) (by rfl)) ?_
  refine t_q (q_pick_f rfl rfl) ?_
  refine t_nil ?_
  refine c_cond_f rfl rfl ?_
  refine c_skip ?_
  refine c_seq ?_
  refine c_region ?_
  refine t_q (q_mv (.slice _ _ _) rfl) ?_
  refine t_q (q_mv (.slice _ _ _) rfl) ?_
  refine t_q (q_len_slice Tryd.runUnderlying77 rfl) ?_
  refine t_q (q_cast (v' := .int .i64 ((gs.length - 1 : Nat) : Int)) (q_sub_i64 rfl rfl (by omega)) (by first | (rw [hgl]; rfl) | (congr 1; omega))) ?_
  first | refine t_index_nat Tryd.runUnderlying77 Tryd.sizeOf35 (hS.rowRdL (l := gs) (cells := pcs) (by repeat first | exact .here _ _ | assumption | apply Pick.there) rfl (fun _ => rfl)) rfl rfl (by omega) (fun ad6 hl6 hx6 => ?_) | refine t_index Tryd.runUnderlying77 Tryd.sizeOf35 (hS.rowRdL (l := gs) (cells := pcs) (by repeat first | exact .here _ _ | assumption | apply Pick.there) rfl (fun _ => rfl)) rfl rfl (by omega) (fun ad6 hl6 hx6 => ?_)
  refine t_q (q_cast (v' := .pointer (some ⟨(gs.getD (gs.length - 1) 0), 0, none⟩)) (q_load1 Tryd.isAgg35 rfl (hx6 0 _ rfl)) (by rfl)) ?_
  refine t_q (q_nilCheck rfl) ?_
  refine t_q (q_fieldAddr 1 Tryd.runUnderlying76 rfl Tryd.sizeOf26 (by decide) rfl rfl) ?_
  refine t_q (q_load1 Tryd.isAgg26 rfl (flt_cell hS (by repeat first | exact .here _ _ | assumption | apply Pick.there) hm rfl)) ?_
  refine t_q (q_as (.int _ _) rfl) ?_
  refine t_nil ?_
  refine c_ret ?_
  refine r_one rfl rfl ?_
  unfold codeF
  rw [← hgl]
  exact ⟨rfl, ((hS.pick (A := rowA 35 1 A gs.length c ((gs).flatMap pcs)) (by repeat first | exact .here _ _ | assumption | apply Pick.there)).drop.pick (A := rdsA ps) (by repeat first | exact .here _ _ | assumption | apply Pick.there))⟩
theorem code_calls {w : World} {R : List Asn} {ps : List RdP} {v : Value} {F : List (Int × Int)} (hE : EtOk W) (hS : St W w (rdsA ps :: R)) (hv : ErrL ps v F) (hF : F.length ≤ 1000) : Calls Tryd.prog 15 #[v] w fun e w' => e = .returned (.int .i64 (codeF F)) ∧ St W w' (rdsA ps :: R) := by
  cases F with
  | nil =>
    obtain rfl : v = .nilIface := hv
    exact code_nil hS
  | cons a F' =>
    obtain ⟨l1, c1⟩ := a
    have hv2 := hv
    obtain ⟨g, u, rfl, hm, hu⟩ := hv
    exact code_if hE hS hv2 hF (by simp)
end Go.Proofs.YtcgagmojgjbfpaaDoor
