/- Disks: copies, and crashes. -/
import Derived.Test.YtlppgpidakfnlaaDe
namespace Go.Proofs.Ytlppgpidakfnlaa
open Go Go.RowKit Go.Lib
variable {W : World}
def crS (ns : List Int) (i : Nat) (f : List UInt8 × Nat) : Nat := if ns.length = 0 then f.2 else f.2 + (min (max (ns.getD (i % ns.length) 0) 0) ((f.1.length : Int) - f.2)).toNat
def crV (ns : List Int) (i : Nat) (f : List UInt8 × Nat) : List UInt8 × Nat := (f.1.take (crS ns i f), crS ns i f)
def crF (ns : List Int) (F : Nat → List UInt8 × Nat) (j : Nat) : Nat → List UInt8 × Nat := fun x => if x < j then crV ns x (F x) else F x
def crD (ns : List Int) (d : Dk) : Dk := ⟨crF ns d.F 32, -1, false, d.calls⟩
theorem crF_zero (ns : List Int) (F : Nat → List UInt8 × Nat) : crF ns F 0 = F := by funext x; unfold crF; rw [if_neg (by omega)]
theorem crF_at (ns : List Int) (F : Nat → List UInt8 × Nat) (j : Nat) : crF ns F j j = F j := by unfold crF; rw [if_neg (by omega)]
theorem crF_succ (ns : List Int) (F : Nat → List UInt8 × Nat) (j : Nat) : updF (crF ns F j) j (crV ns j (F j)) = crF ns F (j + 1) := by
  funext x
  unfold updF crF
  by_cases h : x = j
  · rw [if_pos h, if_pos (by omega), h]
  · rw [if_neg h]
    by_cases h2 : x < j
    · rw [if_pos h2, if_pos (by omega)]
    · rw [if_neg h2, if_neg (by omega)]
theorem crS_no {ns : List Int} {i : Nat} {f : List UInt8 × Nat} (h : ns.length = 0) : crS ns i f = f.2 := by unfold crS; rw [if_pos h]
theorem crS_yes {ns : List Int} {i q : Nat} {f : List UInt8 × Nat} (h : ns.length ≠ 0) (hq : q = i % ns.length) (hf : f.2 ≤ f.1.length) : (f.2 : Int) + min (max (ns.getD q 0) 0) ((f.1.length : Int) - f.2) = ((crS ns i f : Nat) : Int) := by
  unfold crS
  rw [if_neg h, hq]
  omega
theorem crS_le {ns : List Int} {i : Nat} {f : List UInt8 × Nat} (hf : f.2 ≤ f.1.length) : f.2 ≤ crS ns i f ∧ crS ns i f ≤ f.1.length := by
  unfold crS
  split <;> omega
theorem DGood.crash {d : Dk} (h : DGood d) (ns : List Int) : DGood (crD ns d) := by
  have hv : ∀ i, (crF ns d.F 32 i).2 ≤ (crF ns d.F 32 i).1.length ∧ (crF ns d.F 32 i).1.length ≤ 1048576 := fun i => by
    have h1 := h.sync i
    have h2 := h.len i
    unfold crF
    split
    · have h3 := crS_le (ns := ns) (i := i) h1
      show crS ns i (d.F i) ≤ ((d.F i).1.take _).length ∧ ((d.F i).1.take _).length ≤ _
      rw [List.length_take]
      omega
    · exact ⟨h1, h2⟩
  exact ⟨fun i => (hv i).1, fun i => (hv i).2, (show (-9223372036854775808 : Int) ≤ -1 ∧ (-1 : Int) ≤ 9223372036854775807 by decide), h.calls⟩
def mixR (rw rw2 : Rws) (j : Nat) : Rws := fun i => if i < j then rw2 i else rw i
theorem mixR_zero (rw rw2 : Rws) : mixR rw rw2 0 = rw := by funext i; unfold mixR; rw [if_neg (by omega)]
theorem mixR_succ (rw rw2 : Rws) (j : Nat) (p : Option Addr × Nat) : updR (mixR rw rw2 j) j p = mixR rw (updR rw2 j p) (j + 1) := by
  funext i
  show (if i = j then p else if i < j then rw2 i else rw i) = (if i < j + 1 then (if i = j then p else rw2 i) else rw i)
  by_cases h : i = j
  · rw [if_pos h, if_pos (by omega), if_pos h]
  · rw [if_neg h]
    by_cases h2 : i < j
    · rw [if_pos h2, if_pos (by omega), if_neg h]
    · rw [if_neg h2, if_neg (by omega)]
theorem fcells_mix (F : Nat → List UInt8 × Nat) (rw rw2 : Rws) : fcells F (mixR rw rw2 32) = fcells F rw2 := by
  unfold fcells
  apply List.map_congr_left
  intro k hk
  have := List.mem_range.1 hk
  have h : mixR rw rw2 32 (k / 2) = rw2 (k / 2) := by unfold mixR; rw [if_pos (by omega)]
  unfold fcell
  rw [h]
theorem setN_at : ∀ (vs pre cs : List Value), cs.length = vs.length → setN (pre ++ cs) pre.length vs = pre ++ vs
  | [], pre, cs, h => by
    have : cs = [] := List.eq_nil_of_length_eq_zero h
    rw [this]
    rfl
  | v :: vs, pre, c :: cs, h => by
    show setN ((pre ++ c :: cs).set pre.length v) (pre.length + 1) vs = _
    rw [List.set_append_right _ _ (Nat.le_refl _), Nat.sub_self]
    show setN (pre ++ v :: cs) (pre.length + 1) vs = _
    have h2 := setN_at vs (pre ++ [v]) cs (by simpa using h)
    rw [List.length_append, List.append_assoc, List.append_assoc] at h2
    exact h2
theorem setN_all {vs cs : List Value} (h : cs.length = vs.length) : setN cs 0 vs = vs := setN_at vs [] cs h
theorem dcs_len (d : Dk) (rw : Rws) : (fcells d.F rw ++ dtl d).length = 68 := by rw [List.length_append, fcells_len]; rfl
theorem dcs_one (d : Dk) (rw : Rws) : allOne (fcells d.F rw ++ dtl d) = true := by
  unfold allOne
  rw [List.all_eq_true]
  intro v hv
  rcases List.mem_append.1 hv with h | h
  · unfold fcells at h
    obtain ⟨k, _, rfl⟩ := List.mem_map.1 h
    unfold fcell
    split <;> rfl
  · unfold dtl at h
    simp only [List.mem_cons, List.not_mem_nil, or_false] at h
    rcases h with rfl | rfl | rfl | rfl <;> rfl
theorem St.pack_snoc {w : World} {R L : List Asn} {A : Asn} (h : St W w (A :: packA L :: R)) : St W w (packA (L ++ [A]) :: R) := by
  have h1 := (h.pick (.there (.here _ _))).unpack
  refine St.pack ?_
  rw [List.append_assoc]
  exact h1
def newL (F : Nat → List UInt8 × Nat) (rw2 : Rws) (j : Nat) : List Asn := (List.range j).map fun i => fileA (rw2 i) (F i)
theorem newL_succ (F : Nat → List UInt8 × Nat) (rw2 : Rws) (j : Nat) (p : Option Addr × Nat) : newL F rw2 j ++ [fileA p (F j)] = newL F (updR rw2 j p) (j + 1) := by
  unfold newL
  rw [List.range_succ, List.map_append]
  congr 1
  · apply List.map_congr_left
    intro i hi
    have := List.mem_range.1 hi
    unfold updR
    rw [if_neg (by omega)]
  · unfold updR
    simp
attribute [local irreducible] blkA rowA rdrA rowC packA fcells dtl dskA
-- clon_nil: no such function here
-- clon_calls: no such function here
set_option maxRecDepth 100000 in
theorem crash_nil {K : Option Addr} {m c : Nat} : Calls Try.prog 45 #[.pointer none, .slice K m c] W fun e w' => e = .returned (.tuple #[]) ∧ St W w' [] := by
  have hS := St.init W
  refine calls_of_wpE (args := [_, _]) Try.func45 rfl rfl rfl ?_
  refine c_seq ?_
  refine c_seq ?_
  refine c_region ?_
  refine t_q (q_mv (.pointer _) rfl) ?_
  refine t_q (q_eql_ptr_nil Try.runUnderlying58 rfl rfl) ?_
  refine t_nil ?_
  refine c_cond_t rfl rfl ?_
  refine c_ret ?_
  refine r_none rfl  ?_
  exact ⟨rfl, hS⟩
set_option maxHeartbeats 1000000 in
set_option maxRecDepth 100000 in
theorem crash_calls {w : World} {L R : List Asn} {g : Nat} {d : Dk} (hS : St W w L) (pk : Pick L (dskA g d) R) {K : Option Addr} {c : Nat} {ns : List Int} (hG : DGood d) (hK : ∀ w', St W w' R → RdI w' .i64 K ns) (hml : ns.length ≤ 1000000) : Calls Try.prog 45 #[.pointer (some ⟨g, 0, none⟩), .slice K ns.length c] w fun e w' => e = .returned (.tuple #[]) ∧ St W w' (dskA g (crD ns d) :: R) := by
  replace hS := hS.pick pk
  clear pk
  obtain ⟨rw, hS⟩ := hS.dsk
  refine calls_of_wpE (args := [_, _]) Try.func45 rfl rfl rfl ?_
  refine c_seq ?_
  refine c_seq ?_
  refine c_region ?_
  refine t_q (q_mv (.pointer _) rfl) ?_
  refine t_q (q_eql_ptr_nil Try.runUnderlying58 rfl rfl) ?_
  refine t_nil ?_
  refine c_cond_f rfl rfl ?_
  refine c_skip ?_
  refine c_seq ?_
  refine c_seq ?_
  refine c_region ?_
  refine t_q (q_move) ?_
  refine t_nil ?_
  refine c_block ?_
  refine c_loop [4, 5, 6, 9, 10, 11, 12, 13, 14, 15, 16, 17, 18, 19, 20, 21, 22, 23, 24, 25, 26, 27, 28, 29, 30, 31, 32, 33, 34, 35, 36, 37, 38, 39, 40, 41, 42, 43, 44, 45, 46, 47, 48, 49, 50, 51, 52, 53, 54, 55, 56, 57, 58, 59] (fun k σ w => ∃ (i : Nat) (rw : Rws), σ 9 = .int .i64 (i : Int) ∧ i ≤ 32 ∧ 32 - i ≤ k ∧ St W w (blkA g 157 (fcells (crF ns d.F i) rw ++ dtl d) :: packA (filesL (crF ns d.F i) rw) :: R)) (32) rfl (⟨0, rw, rfl, by omega, by omega, by rw [crF_zero]; exact hS⟩) ?_
  skip
  rintro k σ w ⟨i, rw, h9, hi0, hk, hS⟩
  refine c_know 9 h9 ?_
  clear h9
  have hFi := crF_at ns d.F i
  have hs1 := hG.sync i
  have hs2 := hG.len i
  have hcl := crS_le (ns := ns) (i := i) hs1
  refine c_seq ?_
  refine c_region ?_
  refine t_q (q_lss rfl rfl) ?_
  refine t_nil ?_
  refine c_seq ?_
  refine c_cond rfl ?_ ?_
  · intro hc2
    have hc2d := of_decide_eq_true hc2
    refine c_skip ?_
    refine c_seq ?_
    refine c_block ?_
    refine c_seq ?_
    refine c_region ?_
    refine t_q (q_mv (.int _ _) rfl) ?_
    refine t_q (q_as (.int _ _) rfl) ?_
    refine t_nil ?_
    refine c_seq ?_
    have hi : i < 32 := by omega
    replace hS := (hS.pick (A := packA (filesL (crF ns d.F i) rw)) (by repeat first | exact .here _ _ | assumption | apply Pick.there)).file hi
    rw [hFi] at hS
    have hle := (hS.rowC_le (.here _ _)).1
    have hAd := hS.rowC_add (.here _ _)
    refine c_region ?_
    refine t_q (q_mv (.pointer _) rfl) ?_
    refine t_q (q_mv (.int _ _) rfl) ?_
    refine t_q (q_nilCheck rfl) ?_
    refine t_q (q_fieldAddr 0 Try.runUnderlying157 rfl Try.sizeOf155 (by decide) rfl rfl) ?_
    first | refine t_q (q_arr_nat Try.runUnderlying155 Try.sizeOf154 rfl rfl (by omega)) ?_ | refine t_q (q_arr Try.runUnderlying155 Try.sizeOf154 rfl rfl (by omega)) ?_
    refine t_q (q_as (.pointer _) rfl) ?_
    refine t_nil ?_
    refine c_seq ?_
    refine c_region ?_
    refine t_q (q_mv (.pointer _) rfl) ?_
    refine t_q (q_nilCheck rfl) ?_
    refine t_q (q_fieldAddr 1 Try.runUnderlying154 rfl Try.sizeOf3 (by decide) rfl rfl) ?_
    refine t_q (q_cast (v' := .int .i64 ((d.F i).2 : Int)) (q_load1 Try.isAgg3 rfl (hS.cell (by repeat first | exact .here _ _ | assumption | apply Pick.there) (fc_s hi))) (by rw [hFi])) ?_
    refine t_q (q_as (.int _ _) rfl) ?_
    refine t_nil ?_
    refine c_seq ?_
    refine c_seq ?_
    refine c_region ?_
    refine t_q (q_mv (.slice _ _ _) rfl) ?_
    refine t_q (q_len_slice Try.runUnderlying26 rfl) ?_
    refine t_q (q_gtr rfl rfl) ?_
    refine t_nil ?_
    refine c_cond rfl ?_ ?_
    · intro hc5
      have hc5d := of_decide_eq_true hc5
      have hnl : ns.length ≠ 0 := by omega
      obtain ⟨q, hqq, hql, hq3⟩ : ∃ q : Nat, (i : Int) % (ns.length : Int) = (q : Int) ∧ q < ns.length ∧ q = i % ns.length := ⟨i % ns.length, rfl, Nat.mod_lt _ (by omega), rfl⟩
      have hcr := crS_yes (f := d.F i) hnl hq3 hs1
      refine c_draw ?_
      refine d_quiet 22 [0, 1, 2, 3, 4, 5, 6, 7, 8, 9, 10, 11, 12, 13, 14, 15, 16, 17, 18, 19, 20, 21] [0, 1, 2, 3, 4, 5, 6, 7, 8, 9, 10, 11, 12, 13, 14, 15, 16, 17, 18, 19, 20, 21] hS rfl (by kernel_rfl) (by kernel_rfl) (by kernel_rfl) (by kernel_rfl) (fun hap hsel w hS => ?_)
      refine p_q hap hsel 0 rfl rfl hS (fun w hS => q_mv (.int _ _) rfl) ?_
      refine p_q hap hsel 1 rfl rfl hS (fun w hS => q_mv (.slice _ _ _) rfl) ?_
      refine p_q hap hsel 2 rfl rfl hS (fun w hS => q_mv (.int _ _) rfl) ?_
      refine p_q hap hsel 3 rfl rfl hS (fun w hS => q_mv (.slice _ _ _) rfl) ?_
      refine p_q hap hsel 4 rfl rfl hS (fun w hS => q_len_slice Try.runUnderlying26 rfl) ?_
      refine p_q hap hsel 5 rfl rfl hS (fun w hS => (q_cast (v' := .int .i64 (q : Int)) (q_rem_n rfl rfl (by omega) (by omega)) (by rw [hqq]))) ?_
      refine p_index hap hsel 6 rfl rfl hS Try.runUnderlying26 Try.sizeOf3 (fun w hS => hK _ hS.drop.drop.drop) rfl rfl (by omega) (fun ad6 hl6 hx6 => ?_)
      refine p_q hap hsel 7 rfl rfl hS (fun w hS => q_load1 Try.isAgg3 rfl ((hx6 w hS) 0 _ rfl)) ?_
      refine p_q hap hsel 8 rfl rfl hS (fun w hS => q_max rfl rfl) ?_
      refine p_q hap hsel 9 rfl rfl hS (fun w hS => q_mv (.pointer _) rfl) ?_
      refine p_q hap hsel 10 rfl rfl hS (fun w hS => q_nilCheck rfl) ?_
      refine p_q hap hsel 11 rfl rfl hS (fun w hS => q_fieldAddr 0 Try.runUnderlying154 rfl Try.sizeOf25 (by decide) rfl rfl) ?_
      refine p_q hap hsel 12 rfl rfl hS (fun w hS => (q_cast (v' := .slice (rw i).1 (d.F i).1.length (rw i).2) (q_load1 Try.isAgg25 rfl (hS.cell (by repeat first | exact .here _ _ | assumption | apply Pick.there) (fc_b hi))) (by rw [hFi]))) ?_
      refine p_q hap hsel 13 rfl rfl hS (fun w hS => q_len_slice Try.runUnderlying25 rfl) ?_
      refine p_q hap hsel 14 rfl rfl hS (fun w hS => q_mv (.pointer _) rfl) ?_
      refine p_q hap hsel 15 rfl rfl hS (fun w hS => q_nilCheck rfl) ?_
      refine p_q hap hsel 16 rfl rfl hS (fun w hS => q_fieldAddr 1 Try.runUnderlying154 rfl Try.sizeOf3 (by decide) rfl rfl) ?_
      refine p_q hap hsel 17 rfl rfl hS (fun w hS => (q_cast (v' := .int .i64 ((d.F i).2 : Int)) (q_load1 Try.isAgg3 rfl (hS.cell (by repeat first | exact .here _ _ | assumption | apply Pick.there) (fc_s hi))) (by rw [hFi]))) ?_
      refine p_q hap hsel 18 rfl rfl hS (fun w hS => q_sub_i64 rfl rfl (by omega)) ?_
      refine p_q hap hsel 19 rfl rfl hS (fun w hS => q_min rfl rfl) ?_
      refine p_q hap hsel 20 rfl rfl hS (fun w hS => q_add_i64 rfl rfl (by omega)) ?_
      refine p_q hap hsel 21 rfl rfl hS (fun w hS => q_as (.int _ _) rfl) ?_
      refine p_end (by kernel_rfl) ?_
      refine c_region ?_
      refine t_q (q_mv (.pointer _) rfl) ?_
      refine t_q (q_mv (.pointer _) rfl) ?_
      refine t_q (q_mv (.pointer _) rfl) ?_
      refine t_q (q_nilCheck rfl) ?_
      refine t_q (q_fieldAddr 0 Try.runUnderlying154 rfl Try.sizeOf25 (by decide) rfl rfl) ?_
      refine t_q (q_cast (v' := .slice (rw i).1 (d.F i).1.length (rw i).2) (q_load1 Try.isAgg25 rfl (hS.cell (by repeat first | exact .here _ _ | assumption | apply Pick.there) (fc_b hi))) (by rw [hFi])) ?_
      refine t_q (q_cast (v' := .int .i64 ((crS ns i (d.F i) : Nat) : Int)) (q_mv (.int _ _) rfl) (congrArg (Value.int .i64) hcr)) ?_
      refine t_q (q_cast (v' := .int .i64 ((crS ns i (d.F i) : Nat) : Int)) (q_mv (.int _ _) rfl) (congrArg (Value.int .i64) hcr)) ?_
      refine t_q (q_cast (v' := .slice (rw i).1 (crS ns i (d.F i)) (crS ns i (d.F i))) (q_slice3 Try.runUnderlying25 Try.sizeOf5 rfl rfl rfl (by omega) (by omega) hAd) (by rw [Int.toNat_natCast])) ?_
      refine t_q (q_cast (v' := .int .i64 ((crS ns i (d.F i) : Nat) : Int)) (q_mv (.int _ _) rfl) (congrArg (Value.int .i64) hcr)) ?_
      refine t_q (q_nilCheck rfl) ?_
      refine t_q (q_fieldAddr 0 Try.runUnderlying154 rfl Try.sizeOf25 (by decide) rfl rfl) ?_
      refine t_store (v := (.slice _ _ _)) Try.sizeOf25 hS (by repeat first | exact .here _ _ | assumption | apply Pick.there) rfl rfl rfl rfl rfl (Nat.ble_eq_true_of_le (by show 0 + i * 2 + 0 + 1 ≤ (fcells _ _ ++ _).length; rw [List.length_append, fcells_len]; omega)) (fun w hS => ?_)
      refine t_q (q_nilCheck rfl) ?_
      refine t_q (q_fieldAddr 1 Try.runUnderlying154 rfl Try.sizeOf3 (by decide) rfl rfl) ?_
      refine t_store (v := (.int _ _)) Try.sizeOf3 hS (by repeat first | exact .here _ _ | assumption | apply Pick.there) rfl rfl rfl rfl rfl (Nat.ble_eq_true_of_le (by show 0 + i * 2 + 1 + 1 ≤ (setN _ _ _).length; rw [setN_length, List.length_append, fcells_len]; omega)) (fun w hS => ?_)
      refine t_nil ?_
      refine c_region ?_
      refine t_q (q_add_i64 rfl rfl (by omega)) ?_
      refine t_q (q_mv (.int _ _) rfl) ?_
      refine t_nil ?_
      have hl1 : (crS ns i (d.F i)) = ((d.F i).1.take (crS ns i (d.F i))).length := by rw [List.length_take]; omega
      replace hS := (hS.pick (A := blkA g 157 _) (by repeat first | exact .here _ _ | assumption | apply Pick.there)).recast (congrArg (blkA g 157 ·) (show _ = fcells (crF ns d.F (i + 1)) (updR rw i ((rw i).1, crS ns i (d.F i))) ++ dtl d from by rw [← crF_succ]; exact st_2 hi hl1 rfl))
      have hcut := (((hS.pick (A := packA _) (by repeat first | exact .here _ _ | assumption | apply Pick.there)).pick (A := rowC 5 _ _ _) (by repeat first | exact .here _ _ | assumption | apply Pick.there))).rowC_cut (m := crS ns i (d.F i)) (by omega)
      have hun := hcut.unfile hi (crS ns i (d.F i))
      rw [show ((d.F i).1.take (crS ns i (d.F i)), crS ns i (d.F i)) = crV ns i (d.F i) from rfl, crF_succ] at hun
      exact ⟨k - 1, by omega, i + 1, _, rfl, by omega, by omega, hun.pick (A := blkA g 157 _) (by repeat first | exact .here _ _ | assumption | apply Pick.there)⟩
    · intro hc5
      have hc5d := of_decide_eq_false hc5
      have hcr : (((d.F i).2 : Nat) : Int) = ((crS ns i (d.F i) : Nat) : Int) := by rw [crS_no (by omega)]
      refine c_skip ?_
      refine c_region ?_
      refine t_q (q_mv (.pointer _) rfl) ?_
      refine t_q (q_mv (.pointer _) rfl) ?_
      refine t_q (q_mv (.pointer _) rfl) ?_
      refine t_q (q_nilCheck rfl) ?_
      refine t_q (q_fieldAddr 0 Try.runUnderlying154 rfl Try.sizeOf25 (by decide) rfl rfl) ?_
      refine t_q (q_cast (v' := .slice (rw i).1 (d.F i).1.length (rw i).2) (q_load1 Try.isAgg25 rfl (hS.cell (by repeat first | exact .here _ _ | assumption | apply Pick.there) (fc_b hi))) (by rw [hFi])) ?_
      refine t_q (q_cast (v' := .int .i64 ((crS ns i (d.F i) : Nat) : Int)) (q_mv (.int _ _) rfl) (congrArg (Value.int .i64) hcr)) ?_
      refine t_q (q_cast (v' := .int .i64 ((crS ns i (d.F i) : Nat) : Int)) (q_mv (.int _ _) rfl) (congrArg (Value.int .i64) hcr)) ?_
      refine t_q (q_cast (v' := .slice (rw i).1 (crS ns i (d.F i)) (crS ns i (d.F i))) (q_slice3 Try.runUnderlying25 Try.sizeOf5 rfl rfl rfl (by omega) (by omega) hAd) (by rw [Int.toNat_natCast])) ?_
      refine t_q (q_cast (v' := .int .i64 ((crS ns i (d.F i) : Nat) : Int)) (q_mv (.int _ _) rfl) (congrArg (Value.int .i64) hcr)) ?_
      refine t_q (q_nilCheck rfl) ?_
      refine t_q (q_fieldAddr 0 Try.runUnderlying154 rfl Try.sizeOf25 (by decide) rfl rfl) ?_
      refine t_store (v := (.slice _ _ _)) Try.sizeOf25 hS (by repeat first | exact .here _ _ | assumption | apply Pick.there) rfl rfl rfl rfl rfl (Nat.ble_eq_true_of_le (by show 0 + i * 2 + 0 + 1 ≤ (fcells _ _ ++ _).length; rw [List.length_append, fcells_len]; omega)) (fun w hS => ?_)
      refine t_q (q_nilCheck rfl) ?_
      refine t_q (q_fieldAddr 1 Try.runUnderlying154 rfl Try.sizeOf3 (by decide) rfl rfl) ?_
      refine t_store (v := (.int _ _)) Try.sizeOf3 hS (by repeat first | exact .here _ _ | assumption | apply Pick.there) rfl rfl rfl rfl rfl (Nat.ble_eq_true_of_le (by show 0 + i * 2 + 1 + 1 ≤ (setN _ _ _).length; rw [setN_length, List.length_append, fcells_len]; omega)) (fun w hS => ?_)
      refine t_nil ?_
      refine c_region ?_
      refine t_q (q_add_i64 rfl rfl (by omega)) ?_
      refine t_q (q_mv (.int _ _) rfl) ?_
      refine t_nil ?_
      have hl1 : (crS ns i (d.F i)) = ((d.F i).1.take (crS ns i (d.F i))).length := by rw [List.length_take]; omega
      replace hS := (hS.pick (A := blkA g 157 _) (by repeat first | exact .here _ _ | assumption | apply Pick.there)).recast (congrArg (blkA g 157 ·) (show _ = fcells (crF ns d.F (i + 1)) (updR rw i ((rw i).1, crS ns i (d.F i))) ++ dtl d from by rw [← crF_succ]; exact st_2 hi hl1 rfl))
      have hcut := (((hS.pick (A := packA _) (by repeat first | exact .here _ _ | assumption | apply Pick.there)).pick (A := rowC 5 _ _ _) (by repeat first | exact .here _ _ | assumption | apply Pick.there))).rowC_cut (m := crS ns i (d.F i)) (by omega)
      have hun := hcut.unfile hi (crS ns i (d.F i))
      rw [show ((d.F i).1.take (crS ns i (d.F i)), crS ns i (d.F i)) = crV ns i (d.F i) from rfl, crF_succ] at hun
      exact ⟨k - 1, by omega, i + 1, _, rfl, by omega, by omega, hun.pick (A := blkA g 157 _) (by repeat first | exact .here _ _ | assumption | apply Pick.there)⟩
  · intro hc2
    have hc2d := of_decide_eq_false hc2
    refine c_exit ?_
    refine ite_t rfl ?_
    obtain rfl : i = 32 := by omega
    rw [dtl_eq] at hS
    refine c_region ?_
    refine t_q (q_mv (.pointer _) rfl) ?_
    refine t_q (q_mv (.pointer _) rfl) ?_
    refine t_q (q_mv (.pointer _) rfl) ?_
    refine t_q (q_nilCheck rfl) ?_
    refine t_q (q_fieldAddr 66 Try.runUnderlying157 rfl Try.sizeOf4 (by decide) rfl rfl) ?_
    refine t_store (v := (.bool _)) Try.sizeOf4 hS (by repeat first | exact .here _ _ | assumption | apply Pick.there) rfl rfl rfl rfl rfl (Nat.ble_eq_true_of_le (by show 0 + 66 + 1 ≤ (fcells (crF ns d.F 32) rw ++ _).length; rw [List.length_append, fcells_len]; show _ ≤ 64 + 4; omega)) (fun w hS => ?_)
    replace hS := hS.recast (show _ = blkA g 157 (fcells (crF ns d.F 32) rw ++ [.bool (decide (0 ≤ d.fuse)), .int .i64 (d.fuse.toNat : Int), .bool false, .int .i64 d.calls]) from congrArg (blkA g 157 ·) (st_tl 2 _))
    refine t_q (q_nilCheck rfl) ?_
    refine t_q (q_fieldAddr 64 Try.runUnderlying157 rfl Try.sizeOf4 (by decide) rfl rfl) ?_
    refine t_store (v := (.bool _)) Try.sizeOf4 hS (by repeat first | exact .here _ _ | assumption | apply Pick.there) rfl rfl rfl rfl rfl (Nat.ble_eq_true_of_le (by show 0 + 64 + 1 ≤ (fcells (crF ns d.F 32) rw ++ _).length; rw [List.length_append, fcells_len]; show _ ≤ 64 + 4; omega)) (fun w hS => ?_)
    replace hS := hS.recast (show _ = blkA g 157 (fcells (crF ns d.F 32) rw ++ [.bool false, .int .i64 (d.fuse.toNat : Int), .bool false, .int .i64 d.calls]) from congrArg (blkA g 157 ·) (st_tl 0 _))
    refine t_q (q_nilCheck rfl) ?_
    refine t_q (q_fieldAddr 65 Try.runUnderlying157 rfl Try.sizeOf3 (by decide) rfl rfl) ?_
    refine t_store (v := (.int _ _)) Try.sizeOf3 hS (by repeat first | exact .here _ _ | assumption | apply Pick.there) rfl rfl rfl rfl rfl (Nat.ble_eq_true_of_le (by show 0 + 65 + 1 ≤ (fcells (crF ns d.F 32) rw ++ _).length; rw [List.length_append, fcells_len]; show _ ≤ 64 + 4; omega)) (fun w hS => ?_)
    replace hS := hS.recast (show _ = blkA g 157 (fcells (crF ns d.F 32) rw ++ [.bool false, .int .i64 0, .bool false, .int .i64 d.calls]) from congrArg (blkA g 157 ·) (st_tl 1 _))
    refine t_nil ?_
    refine r_none rfl  ?_
    exact ⟨rfl, St.undsk (d := crD ns d) (rw := rw) (by rw [dtl_eq]; exact hS)⟩
end Go.Proofs.Ytlppgpidakfnlaa
