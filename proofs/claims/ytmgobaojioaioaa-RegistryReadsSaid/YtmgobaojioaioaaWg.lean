/- Registries: read. -/
import Derived.Test.YtmgobaojioaioaaWd
import Derived.Test.YtmgobaojioaioaaWe
namespace Go.Proofs.Ytmgobaojioaioaa
open Go Go.RowKit Go.Lib
variable {W : World}
theorem rgn_calls {V w : World} {L R : List Asn} {gd : Nat} {s : Rs} (hS : St V w L) (pk : Pick L (rdrA V 149 gd s) R) : Calls Try.prog 89 #[.pointer (some ⟨gd, 0, none⟩), .int .u64 16] w fun e w' => e = .returned (.int .u64 ((gN s : Nat) : Int)) ∧ St V w' (rdrA V 149 gd (gk s 0).s :: R) := rNat (most := 16) hS pk (by decide) (by decide)
theorem reg_new1 {s : Rs} {i : Nat} {X : List RuV} {ps : List RdP} {y : RuV} (hk : RegOk W X (gk s i).M ps) (ho : GkOk s i (gk s i)) (hg : (gk s i).good = true) (hy : ∃ A c B d, y = ruT (gk s i).s A c B d) (u : Value) : mset (X.map rkv) y.version u = X.map rkv ++ [(y.version, u)] := by
  refine mset_new _ _ _ fun x hx h => ?_
  have h1 := (ho.reg (nf x) (hk.perm.subset (List.mem_map.2 ⟨x, hx, rfl⟩))).2.2
  have h2 := (Gk.good_iff.1 hg).2
  rw [← ruN_of hy] at h2
  rw [nf_ver] at h1 h2
  omega
theorem reg_next {s : Rs} {i : Nat} {X : List RuV} {ps : List RdP} {y : RuV} (hk : RegOk W X (gk s i).M ps) (ho : GkOk s (i + 1) (gk s (i + 1))) (hi : i + 1 ≤ 16) (hy : ∃ A c B d, y = ruT (gk s i).s A c B d) : RegOk W (X ++ [y]) (gk s (i + 1)).M (ruP y ++ ps) := by
  refine ⟨?_, ho.good hi, fun x hx => ?_⟩
  · show ((X ++ [y]).map nf).Perm ((gk s i).M ++ [ruN (gk s i).s])
    rw [List.map_append, List.map_cons, List.map_nil, ruN_of hy]
    exact hk.perm.append (List.Perm.refl _)
  · rcases List.mem_append.1 hx with hx | hx
    · exact (hk.by_ x hx).mono fun p hp => List.mem_append_right _ hp
    · rw [List.mem_singleton.1 hx]
      exact RuBy.read hy fun p hp => List.mem_append_left _ hp
attribute [local irreducible] blkA rowA rdsA mapA mapS regA wrA rdrA gk gN Rs.nat Rs.int ruT ruS ruOk ruN
set_option maxHeartbeats 2000000 in
set_option maxRecDepth 100000 in
theorem rgread_calls {V w : World} {R : List Asn} {gd : Nat} {s : Rs} {ps : List RdP} (hS : St V w (rdrA V 149 gd s :: rdsA ps :: R)) : Calls Try.prog 65 #[.pointer (some ⟨gd, 0, none⟩)] w fun e w' => ∃ p ps', e = .returned (.pointer p) ∧ (∀ q ∈ ps, q ∈ ps') ∧ ((rgOk s = true ∧ ∃ g, p = some ⟨g, 0, none⟩ ∧ St V w' (regA W g (rgM s) ps' :: rdrA V 149 gd (rgS s) :: rdsA ps' :: R)) ∨ (rgOk s = false ∧ p = none ∧ St V w' (rdrA V 149 gd s.fail :: rdsA ps' :: R))) := by
  have hN16 := gN_le s
  refine calls_of_wpE (args := [_]) Try.func65 rfl rfl rfl ?_
  refine c_seq ?_
  refine c_region ?_
  refine t_q (q_assign) ?_
  refine t_nil ?_
  refine c_seq ?_
  refine c_region ?_
  refine t_makeMap (k := .i64) hS (fun r7 w hS => ?_)
  refine t_q (q_build (qs := [(0, 1)]) [(.map _)] Try.zeroValue120 Try.runUnderlying120 ⟨rfl, Try.sizeOf118, trivial⟩ rfl rfl) ?_
  refine t_box (v := (.agg _)) rfl rfl hS (fun g9 w hS => ?_)
  replace hS := hS.recast (show _ = blkA g9 120 [.map (some r7)] from rfl)
  refine t_q (q_as (.pointer _) rfl) ?_
  refine t_nil ?_
  refine c_seq ?_
  refine c_region ?_
  refine t_q (q_assign) ?_
  refine t_nil ?_
  refine c_seq ?_
  refine c_seq ?_
  refine c_region ?_
  refine t_q (q_mv (.pointer _) rfl) ?_
  refine t_call Try.call89 (rgn_calls hS (by repeat first | exact .here _ _ | assumption | apply Pick.there)) rfl ?_
  rintro e w ⟨rfl, hS⟩
  refine ⟨_, rfl, ?_⟩
  refine t_q (q_move) ?_
  refine t_nil ?_
  refine c_block ?_
  refine c_loop [2, 4, 5, 6, 12, 13, 14, 15, 16, 17, 18, 19, 20, 21, 22, 23, 24, 25, 26, 27, 28, 29, 30, 31, 32, 33, 34, 35, 36, 37, 38, 39, 40] (fun k σ w => ∃ (i : Nat) (ps' : List RdP) (X : List RuV), σ 12 = .int .u64 (i : Int) ∧ σ 4 = .int .i64 (gk s i).last ∧ i ≤ gN s ∧ gN s - i ≤ k ∧ gAll s i = true ∧ (∀ q ∈ ps, q ∈ ps') ∧ RegOk W X (gk s i).M ps' ∧ St V w (rdrA V 149 gd (gk s i).s :: blkA g9 120 [.map (some r7)] :: mapA .i64 r7 (X.map rkv) :: rdsA ps' :: R)) (gN s) rfl (⟨0, ps, [], rfl, (by unfold gk; rfl), by omega, by omega, rfl, (fun _ h => h), (by unfold gk; exact ⟨List.Perm.refl _, GReg.nil, fun _ h => by cases h⟩), ((((hS.pick (A := rdsA ps) (by repeat first | exact .here _ _ | assumption | apply Pick.there)).pick (A := mapA .i64 r7 []) (by repeat first | exact .here _ _ | assumption | apply Pick.there)).pick (A := blkA g9 120 [.map (some r7)]) (by repeat first | exact .here _ _ | assumption | apply Pick.there)).pick (A := rdrA V 149 gd (gk s 0).s) (by repeat first | exact .here _ _ | assumption | apply Pick.there))⟩) ?_
  skip
  rintro k σ w ⟨i, ps', X, h12, h4, hi, hkk, hall, hsub, hk, hS⟩
  refine c_know 12 h12 ?_
  refine c_know 4 h4 ?_
  clear h12 h4
  have hko := gk_ok s i hall
  refine c_seq ?_
  refine c_region ?_
  refine t_q (q_lss rfl rfl) ?_
  refine t_nil ?_
  refine c_seq ?_
  refine c_cond rfl ?_ ?_
  · intro hc3
    have hc3d := of_decide_eq_true hc3
    refine c_skip ?_
    refine c_seq ?_
    refine c_block ?_
    refine c_seq ?_
    refine c_region ?_
    refine t_q (q_mv (.pointer _) rfl) ?_
    refine t_call Try.call97 (rread_calls (s := (gk s i).s) hS (by repeat first | exact .here _ _ | assumption | apply Pick.there)) rfl ?_
    rintro e w ⟨y, rfl, hy, hS⟩
    refine ⟨_, rfl, ?_⟩
    have hyv : y.version = (ruN (gk s i).s).version := by rw [← ruN_of hy]; rfl
    replace hS := rows_rds (y := y) (((hS.pick (A := rdsA _) (by repeat first | exact .here _ _ | assumption | apply Pick.there)).pick (A := rowA 170 3 y.fees.A y.fees.l.length y.fees.c (y.fees.l.flatMap Tr.cells)) (by repeat first | exact .here _ _ | assumption | apply Pick.there)).pick (A := rowA 168 2 y.ticks.A y.ticks.l.length y.ticks.c (y.ticks.l.flatMap Tk.cells)) (by repeat first | exact .here _ _ | assumption | apply Pick.there))
    refine t_q (q_mv (.tuple _) rfl) ?_
    refine t_q (q_extract rfl rfl) ?_
    refine t_q (q_extract rfl rfl) ?_
    refine t_alloc Try.zeroValue47 rfl hS (fun g5 w hS => ?_)
    refine t_store (v := (.agg _)) Try.sizeOf47 hS (by repeat first | exact .here _ _ | assumption | apply Pick.there) rfl rfl rfl rfl rfl rfl (fun w hS => ?_)
    replace hS := hS.recast (congrArg (blkA g5 47) (rset_full (vs := y.cells) rfl))
    replace hS := hS.recast (show _ = blkA g5 47 [.int .i64 y.version, .slice y.ticks.A y.ticks.l.length y.ticks.c, .int .i64 y.lot, .int .i64 y.band, .slice y.fees.A y.fees.l.length y.fees.c, .int .i64 y.round, .int .i64 y.priority, .int .i64 y.self, .int .i64 y.layout] from rfl)
    refine t_q (q_as (.bool _) rfl) ?_
    refine t_nil ?_
    refine c_seq ?_
    refine c_seq ?_
    refine c_region ?_
    refine t_q (q_mv (.bool _) rfl) ?_
    refine t_q (q_not rfl) ?_
    refine t_q (q_mv (.bool _) rfl) ?_
    refine t_case 21 rfl ?_ ?_
    · intro hg7
      refine t_no rfl rfl (by rw [(congrArg not (not_back hg7))]; decide) ?_
      refine t_no rfl rfl (by rw [(congrArg not (not_back hg7))]; decide) ?_
      refine t_no rfl rfl (by rw [(congrArg not (not_back hg7))]; decide) ?_
      refine t_no rfl rfl (by rw [(congrArg not (not_back hg7))]; decide) ?_
      refine t_q (q_pick_t rfl (congrArg not (not_back hg7))) ?_
      refine t_nil ?_
      refine c_cond_t rfl rfl ?_
      have hng : (gk s i).good = false := by
        first
          | (have h1 : ruOk (gk s i).s = false := bnt (by assumption : (!ruOk (gk s i).s) = true)
             unfold Gk.good; rw [h1]; rfl)
          | (unfold Gk.good; rw [Bool.and_eq_false_iff]; right; exact decide_eq_false (by rw [← hyv]; omega))
      obtain ⟨e1, e2⟩ := rgOk_no (s := s) (i := i) (by omega) hng
      refine c_seq ?_
      refine c_region ?_
      refine t_q (q_mv (.pointer _) rfl) ?_
      refine t_call Try.call107 (rFail hS (by repeat first | exact .here _ _ | assumption | apply Pick.there)) rfl ?_
      rintro e w ⟨rfl, hS⟩
      refine ⟨_, rfl, ?_⟩
      replace hS := hS.recast (show _ = rdrA V 149 gd s.fail from rfl)
      refine t_nil ?_
      refine c_seq ?_
      refine c_region ?_
      refine t_q (q_assign) ?_
      refine t_nil ?_
      refine c_ret ?_
      refine r_one rfl rfl ?_
      first
        | exact ⟨none, _, rfl, (fun q hq => List.mem_append_right _ (hsub q hq)), .inr ⟨e1, rfl, (((((hS.pick (A := blkA g5 47 _) (by repeat first | exact .here _ _ | assumption | apply Pick.there)).drop.pick (A := blkA g9 120 [.map (some r7)]) (by repeat first | exact .here _ _ | assumption | apply Pick.there)).drop.pick (A := mapA .i64 r7 _) (by repeat first | exact .here _ _ | assumption | apply Pick.there)).drop.pick (A := rdsA _) (by repeat first | exact .here _ _ | assumption | apply Pick.there)).pick (A := rdrA V 149 gd _) (by repeat first | exact .here _ _ | assumption | apply Pick.there))⟩⟩
        | exact ⟨none, _, rfl, hsub, .inr ⟨e1, rfl, ((((hS.pick (A := blkA g9 120 [.map (some r7)]) (by repeat first | exact .here _ _ | assumption | apply Pick.there)).drop.pick (A := mapA .i64 r7 _) (by repeat first | exact .here _ _ | assumption | apply Pick.there)).drop.pick (A := rdsA _) (by repeat first | exact .here _ _ | assumption | apply Pick.there)).pick (A := rdrA V 149 gd _) (by repeat first | exact .here _ _ | assumption | apply Pick.there))⟩⟩
        | (rw [hiN] at hS hk
           rw [e2]
           exact ⟨_, ps', rfl, hsub, .inl ⟨e1, g9, rfl, ((((St.unreg (M := rgM s) hk ((hS.pick (A := mapA .i64 r7 (X.map rkv)) (by repeat first | exact .here _ _ | assumption | apply Pick.there)).pick (A := blkA g9 120 [.map (some r7)]) (by repeat first | exact .here _ _ | assumption | apply Pick.there))).pick (A := rdsA _) (by repeat first | exact .here _ _ | assumption | apply Pick.there)).pick (A := rdrA V 149 gd _) (by repeat first | exact .here _ _ | assumption | apply Pick.there)).pick (A := regA W g9 _ _) (by repeat first | exact .here _ _ | assumption | apply Pick.there))⟩⟩)
    · intro hg7
      refine t_yes rfl rfl (congrArg not (not_back hg7)) ?_
      refine t_q (q_fieldAddr 0 Try.runUnderlying47 rfl Try.sizeOf3 (by decide) rfl rfl) ?_
      refine t_yes rfl rfl (congrArg not (not_back hg7)) ?_
      refine t_q (q_load1 Try.isAgg3 rfl (hS.cell (by repeat first | exact .here _ _ | assumption | apply Pick.there) rfl)) ?_
      refine t_yes rfl rfl (congrArg not (not_back hg7)) ?_
      refine t_q (q_mv (.int _ _) rfl) ?_
      refine t_yes rfl rfl (congrArg not (not_back hg7)) ?_
      refine t_q (q_leq rfl rfl) ?_
      refine t_q (q_pick_f rfl (congrArg not (not_back hg7))) ?_
      refine t_nil ?_
      refine c_cond rfl ?_ ?_
      · intro hc10
        have hc10d := of_decide_eq_true hc10
        have hng : (gk s i).good = false := by
          first
            | (have h1 : ruOk (gk s i).s = false := bnt (by assumption : (!ruOk (gk s i).s) = true)
               unfold Gk.good; rw [h1]; rfl)
            | (unfold Gk.good; rw [Bool.and_eq_false_iff]; right; exact decide_eq_false (by rw [← hyv]; omega))
        obtain ⟨e1, e2⟩ := rgOk_no (s := s) (i := i) (by omega) hng
        refine c_seq ?_
        refine c_region ?_
        refine t_q (q_mv (.pointer _) rfl) ?_
        refine t_call Try.call107 (rFail hS (by repeat first | exact .here _ _ | assumption | apply Pick.there)) rfl ?_
        rintro e w ⟨rfl, hS⟩
        refine ⟨_, rfl, ?_⟩
        replace hS := hS.recast (show _ = rdrA V 149 gd s.fail from rfl)
        refine t_nil ?_
        refine c_seq ?_
        refine c_region ?_
        refine t_q (q_assign) ?_
        refine t_nil ?_
        refine c_ret ?_
        refine r_one rfl rfl ?_
        first
          | exact ⟨none, _, rfl, (fun q hq => List.mem_append_right _ (hsub q hq)), .inr ⟨e1, rfl, (((((hS.pick (A := blkA g5 47 _) (by repeat first | exact .here _ _ | assumption | apply Pick.there)).drop.pick (A := blkA g9 120 [.map (some r7)]) (by repeat first | exact .here _ _ | assumption | apply Pick.there)).drop.pick (A := mapA .i64 r7 _) (by repeat first | exact .here _ _ | assumption | apply Pick.there)).drop.pick (A := rdsA _) (by repeat first | exact .here _ _ | assumption | apply Pick.there)).pick (A := rdrA V 149 gd _) (by repeat first | exact .here _ _ | assumption | apply Pick.there))⟩⟩
          | exact ⟨none, _, rfl, hsub, .inr ⟨e1, rfl, ((((hS.pick (A := blkA g9 120 [.map (some r7)]) (by repeat first | exact .here _ _ | assumption | apply Pick.there)).drop.pick (A := mapA .i64 r7 _) (by repeat first | exact .here _ _ | assumption | apply Pick.there)).drop.pick (A := rdsA _) (by repeat first | exact .here _ _ | assumption | apply Pick.there)).pick (A := rdrA V 149 gd _) (by repeat first | exact .here _ _ | assumption | apply Pick.there))⟩⟩
          | (rw [hiN] at hS hk
             rw [e2]
             exact ⟨_, ps', rfl, hsub, .inl ⟨e1, g9, rfl, ((((St.unreg (M := rgM s) hk ((hS.pick (A := mapA .i64 r7 (X.map rkv)) (by repeat first | exact .here _ _ | assumption | apply Pick.there)).pick (A := blkA g9 120 [.map (some r7)]) (by repeat first | exact .here _ _ | assumption | apply Pick.there))).pick (A := rdsA _) (by repeat first | exact .here _ _ | assumption | apply Pick.there)).pick (A := rdrA V 149 gd _) (by repeat first | exact .here _ _ | assumption | apply Pick.there)).pick (A := regA W g9 _ _) (by repeat first | exact .here _ _ | assumption | apply Pick.there))⟩⟩)
      · intro hc10
        have hc10d := of_decide_eq_false hc10
        have hg : (gk s i).good = true := Gk.good_iff.2 ⟨bnf (by assumption : (!ruOk (gk s i).s) = false), by rw [← hyv]; omega⟩
        have hall2 : gAll s (i + 1) = true := by unfold gAll; rw [hall, hg]; rfl
        replace hS := (hS.pick (A := rdrA V 149 gd (ruS (gk s i).s)) (by repeat first | exact .here _ _ | assumption | apply Pick.there)).recast (show _ = rdrA V 149 gd (gk s (i + 1)).s from by rw [gk_s])
        refine c_skip ?_
        refine c_draw ?_
        refine d_keep2 (blkA g9 120 [.map (some r7)]) (blkA g5 47 [.int .i64 y.version, .slice y.ticks.A y.ticks.l.length y.ticks.c, .int .i64 y.lot, .int .i64 y.band, .slice y.fees.A y.fees.l.length y.fees.c, .int .i64 y.round, .int .i64 y.priority, .int .i64 y.self, .int .i64 y.layout]) 13 [0, 1, 2, 3, 4, 5, 6, 7, 8, 9, 10, 11, 12] [0, 1, 2, 3, 4, 5, 9, 6, 10, 11, 7, 8, 12] hS rfl (by kernel_rfl) (by kernel_rfl) (by kernel_rfl) (by kernel_rfl) (fun hap hsel w hS => ?_)
        refine p_q hap hsel 0 rfl rfl ⟨_, ((hS.pick (A := blkA g5 47 [.int .i64 y.version, .slice y.ticks.A y.ticks.l.length y.ticks.c, .int .i64 y.lot, .int .i64 y.band, .slice y.fees.A y.fees.l.length y.fees.c, .int .i64 y.round, .int .i64 y.priority, .int .i64 y.self, .int .i64 y.layout]) (by repeat first | exact .here _ _ | assumption | apply Pick.there)).pick (A := blkA g9 120 [.map (some r7)]) (by repeat first | exact .here _ _ | assumption | apply Pick.there))⟩ (fun w hI => q_mv (.pointer _) rfl) ?_
        refine p_q hap hsel 1 rfl rfl ⟨_, ((hS.pick (A := blkA g5 47 [.int .i64 y.version, .slice y.ticks.A y.ticks.l.length y.ticks.c, .int .i64 y.lot, .int .i64 y.band, .slice y.fees.A y.fees.l.length y.fees.c, .int .i64 y.round, .int .i64 y.priority, .int .i64 y.self, .int .i64 y.layout]) (by repeat first | exact .here _ _ | assumption | apply Pick.there)).pick (A := blkA g9 120 [.map (some r7)]) (by repeat first | exact .here _ _ | assumption | apply Pick.there))⟩ (fun w hI => q_nilCheck rfl) ?_
        refine p_q hap hsel 2 rfl rfl ⟨_, ((hS.pick (A := blkA g5 47 [.int .i64 y.version, .slice y.ticks.A y.ticks.l.length y.ticks.c, .int .i64 y.lot, .int .i64 y.band, .slice y.fees.A y.fees.l.length y.fees.c, .int .i64 y.round, .int .i64 y.priority, .int .i64 y.self, .int .i64 y.layout]) (by repeat first | exact .here _ _ | assumption | apply Pick.there)).pick (A := blkA g9 120 [.map (some r7)]) (by repeat first | exact .here _ _ | assumption | apply Pick.there))⟩ (fun w hI => q_fieldAddr 0 Try.runUnderlying120 rfl Try.sizeOf118 (by decide) rfl rfl) ?_
        refine p_q hap hsel 3 rfl rfl ⟨_, ((hS.pick (A := blkA g5 47 [.int .i64 y.version, .slice y.ticks.A y.ticks.l.length y.ticks.c, .int .i64 y.lot, .int .i64 y.band, .slice y.fees.A y.fees.l.length y.fees.c, .int .i64 y.round, .int .i64 y.priority, .int .i64 y.self, .int .i64 y.layout]) (by repeat first | exact .here _ _ | assumption | apply Pick.there)).pick (A := blkA g9 120 [.map (some r7)]) (by repeat first | exact .here _ _ | assumption | apply Pick.there))⟩ (fun w hI => q_load1 Try.isAgg118 rfl (hI.choose_spec.cell (by repeat first | exact .here _ _ | assumption | apply Pick.there) rfl)) ?_
        refine p_q hap hsel 4 rfl rfl ⟨_, ((hS.pick (A := blkA g5 47 [.int .i64 y.version, .slice y.ticks.A y.ticks.l.length y.ticks.c, .int .i64 y.lot, .int .i64 y.band, .slice y.fees.A y.fees.l.length y.fees.c, .int .i64 y.round, .int .i64 y.priority, .int .i64 y.self, .int .i64 y.layout]) (by repeat first | exact .here _ _ | assumption | apply Pick.there)).pick (A := blkA g9 120 [.map (some r7)]) (by repeat first | exact .here _ _ | assumption | apply Pick.there))⟩ (fun w hI => q_fieldAddr 0 Try.runUnderlying47 rfl Try.sizeOf3 (by decide) rfl rfl) ?_
        refine p_q hap hsel 5 rfl rfl ⟨_, ((hS.pick (A := blkA g5 47 [.int .i64 y.version, .slice y.ticks.A y.ticks.l.length y.ticks.c, .int .i64 y.lot, .int .i64 y.band, .slice y.fees.A y.fees.l.length y.fees.c, .int .i64 y.round, .int .i64 y.priority, .int .i64 y.self, .int .i64 y.layout]) (by repeat first | exact .here _ _ | assumption | apply Pick.there)).pick (A := blkA g9 120 [.map (some r7)]) (by repeat first | exact .here _ _ | assumption | apply Pick.there))⟩ (fun w hI => q_load1 Try.isAgg3 rfl (hI.choose_spec.cell (by repeat first | exact .here _ _ | assumption | apply Pick.there) rfl)) ?_
        refine p_q hap hsel 6 rfl rfl ⟨_, ((hS.pick (A := blkA g5 47 [.int .i64 y.version, .slice y.ticks.A y.ticks.l.length y.ticks.c, .int .i64 y.lot, .int .i64 y.band, .slice y.fees.A y.fees.l.length y.fees.c, .int .i64 y.round, .int .i64 y.priority, .int .i64 y.self, .int .i64 y.layout]) (by repeat first | exact .here _ _ | assumption | apply Pick.there)).pick (A := blkA g9 120 [.map (some r7)]) (by repeat first | exact .here _ _ | assumption | apply Pick.there))⟩ (fun w hI => (q_cast (v' := .agg y.cells.toArray) (q_load_blk Try.isAgg47 Try.sizeOf47 rfl (hI.choose_spec.blk (by repeat first | exact .here _ _ | assumption | apply Pick.there)) rfl) (by rfl))) ?_
        refine p_q hap hsel 7 rfl rfl ⟨_, ((hS.pick (A := blkA g5 47 [.int .i64 y.version, .slice y.ticks.A y.ticks.l.length y.ticks.c, .int .i64 y.lot, .int .i64 y.band, .slice y.fees.A y.fees.l.length y.fees.c, .int .i64 y.round, .int .i64 y.priority, .int .i64 y.self, .int .i64 y.layout]) (by repeat first | exact .here _ _ | assumption | apply Pick.there)).pick (A := blkA g9 120 [.map (some r7)]) (by repeat first | exact .here _ _ | assumption | apply Pick.there))⟩ (fun w hI => q_fieldAddr 0 Try.runUnderlying47 rfl Try.sizeOf3 (by decide) rfl rfl) ?_
        refine p_q hap hsel 8 rfl rfl ⟨_, ((hS.pick (A := blkA g5 47 [.int .i64 y.version, .slice y.ticks.A y.ticks.l.length y.ticks.c, .int .i64 y.lot, .int .i64 y.band, .slice y.fees.A y.fees.l.length y.fees.c, .int .i64 y.round, .int .i64 y.priority, .int .i64 y.self, .int .i64 y.layout]) (by repeat first | exact .here _ _ | assumption | apply Pick.there)).pick (A := blkA g9 120 [.map (some r7)]) (by repeat first | exact .here _ _ | assumption | apply Pick.there))⟩ (fun w hI => q_load1 Try.isAgg3 rfl (hI.choose_spec.cell (by repeat first | exact .here _ _ | assumption | apply Pick.there) rfl)) ?_
        refine p_one 9 rfl (by kernel_rfl) ?_
        refine t_mapEntry Try.underlying118 Try.underlying3 Try.zeroValue47 hS (by repeat first | exact .here _ _ | assumption | apply Pick.there) rfl rfl (fun s38 w hS => ?_)
        refine t_nil ?_
        refine ⟨.inr ⟨_, ((hS.pick (A := blkA g5 47 [.int .i64 y.version, .slice y.ticks.A y.ticks.l.length y.ticks.c, .int .i64 y.lot, .int .i64 y.band, .slice y.fees.A y.fees.l.length y.fees.c, .int .i64 y.round, .int .i64 y.priority, .int .i64 y.self, .int .i64 y.layout]) (by repeat first | exact .here _ _ | assumption | apply Pick.there)).pick (A := blkA g9 120 [.map (some r7)]) (by repeat first | exact .here _ _ | assumption | apply Pick.there))⟩, ?_⟩
        refine p_q hap hsel 10 rfl rfl ⟨_, ((hS.pick (A := blkA g5 47 [.int .i64 y.version, .slice y.ticks.A y.ticks.l.length y.ticks.c, .int .i64 y.lot, .int .i64 y.band, .slice y.fees.A y.fees.l.length y.fees.c, .int .i64 y.round, .int .i64 y.priority, .int .i64 y.self, .int .i64 y.layout]) (by repeat first | exact .here _ _ | assumption | apply Pick.there)).pick (A := blkA g9 120 [.map (some r7)]) (by repeat first | exact .here _ _ | assumption | apply Pick.there))⟩ (fun w hI => q_extract rfl rfl) ?_
        refine p_one 11 rfl (by kernel_rfl) ?_
        refine t_entryStore hS (by repeat first | exact .here _ _ | assumption | apply Pick.there) rfl rfl rfl (fun w hS => ?_)
        replace hS := hS.recast (congrArg (mapA .i64 r7) (show _ = (X ++ [y]).map rkv from by rw [reg_new1 hk hko hg hy, List.map_append]; rfl))
        refine t_nil ?_
        refine ⟨.inr ⟨_, ((hS.pick (A := blkA g5 47 [.int .i64 y.version, .slice y.ticks.A y.ticks.l.length y.ticks.c, .int .i64 y.lot, .int .i64 y.band, .slice y.fees.A y.fees.l.length y.fees.c, .int .i64 y.round, .int .i64 y.priority, .int .i64 y.self, .int .i64 y.layout]) (by repeat first | exact .here _ _ | assumption | apply Pick.there)).pick (A := blkA g9 120 [.map (some r7)]) (by repeat first | exact .here _ _ | assumption | apply Pick.there))⟩, ?_⟩
        refine p_q hap hsel 12 rfl rfl ⟨_, ((hS.pick (A := blkA g5 47 [.int .i64 y.version, .slice y.ticks.A y.ticks.l.length y.ticks.c, .int .i64 y.lot, .int .i64 y.band, .slice y.fees.A y.fees.l.length y.fees.c, .int .i64 y.round, .int .i64 y.priority, .int .i64 y.self, .int .i64 y.layout]) (by repeat first | exact .here _ _ | assumption | apply Pick.there)).pick (A := blkA g9 120 [.map (some r7)]) (by repeat first | exact .here _ _ | assumption | apply Pick.there))⟩ (fun w hI => q_as (.int _ _) rfl) ?_
        refine p_end (by kernel_rfl) ?_
        refine c_region ?_
        refine t_q (q_add_u64 rfl rfl (by omega)) ?_
        refine t_q (q_mv (.int _ _) rfl) ?_
        refine t_nil ?_
        exact ⟨k - 1, by omega, i + 1, ruP y ++ ps', X ++ [y], rfl, (congrArg (Value.int .i64) (hyv.trans (gk_last s i).symm)), by omega, by omega, hall2, (fun q hq => List.mem_append_right _ (hsub q hq)), reg_next hk (gk_ok s (i + 1) hall2) (by omega) hy, (((((hS.pick (A := blkA g5 47 _) (by repeat first | exact .here _ _ | assumption | apply Pick.there)).drop.pick (A := rdsA _) (by repeat first | exact .here _ _ | assumption | apply Pick.there)).pick (A := mapA .i64 r7 _) (by repeat first | exact .here _ _ | assumption | apply Pick.there)).pick (A := blkA g9 120 [.map (some r7)]) (by repeat first | exact .here _ _ | assumption | apply Pick.there)).pick (A := rdrA V 149 gd _) (by repeat first | exact .here _ _ | assumption | apply Pick.there))⟩
  · intro hc3
    have hc3d := of_decide_eq_false hc3
    have hiN : i = gN s := by omega
    refine c_exit ?_
    refine ite_t rfl ?_
    refine c_seq ?_
    refine c_seq ?_
    refine c_region ?_
    refine t_q (q_mv (.pointer _) rfl) ?_
    refine t_q (q_nilCheck rfl) ?_
    refine t_q (q_fieldAddr 0 Try.runUnderlying120 rfl Try.sizeOf118 (by decide) rfl rfl) ?_
    refine t_q (q_load1 Try.isAgg118 rfl (hS.cell (by repeat first | exact .here _ _ | assumption | apply Pick.there) rfl)) ?_
    refine t_q (q_len_map Try.underlying118 (hS) (by repeat first | exact .here _ _ | assumption | apply Pick.there) rfl) ?_
    refine t_q (q_eql rfl rfl) ?_
    refine t_nil ?_
    refine c_cond rfl ?_ ?_
    · intro hc14
      have hc14d := of_decide_eq_true hc14
      obtain ⟨e1, e2⟩ := rgOk_z (s := s) (by have h4 := hc14d; have h5 := hk.len; have h6 := hko.cnt; rw [List.length_map] at h4; omega)
      refine c_seq ?_
      refine c_region ?_
      refine t_q (q_mv (.pointer _) rfl) ?_
      refine t_call Try.call107 (rFail hS (by repeat first | exact .here _ _ | assumption | apply Pick.there)) rfl ?_
      rintro e w ⟨rfl, hS⟩
      refine ⟨_, rfl, ?_⟩
      replace hS := hS.recast (show _ = rdrA V 149 gd s.fail from rfl)
      refine t_nil ?_
      refine c_seq ?_
      refine c_region ?_
      refine t_q (q_assign) ?_
      refine t_nil ?_
      refine c_ret ?_
      refine r_one rfl rfl ?_
      first
        | exact ⟨none, _, rfl, (fun q hq => List.mem_append_right _ (hsub q hq)), .inr ⟨e1, rfl, (((((hS.pick (A := blkA g5 47 _) (by repeat first | exact .here _ _ | assumption | apply Pick.there)).drop.pick (A := blkA g9 120 [.map (some r7)]) (by repeat first | exact .here _ _ | assumption | apply Pick.there)).drop.pick (A := mapA .i64 r7 _) (by repeat first | exact .here _ _ | assumption | apply Pick.there)).drop.pick (A := rdsA _) (by repeat first | exact .here _ _ | assumption | apply Pick.there)).pick (A := rdrA V 149 gd _) (by repeat first | exact .here _ _ | assumption | apply Pick.there))⟩⟩
        | exact ⟨none, _, rfl, hsub, .inr ⟨e1, rfl, ((((hS.pick (A := blkA g9 120 [.map (some r7)]) (by repeat first | exact .here _ _ | assumption | apply Pick.there)).drop.pick (A := mapA .i64 r7 _) (by repeat first | exact .here _ _ | assumption | apply Pick.there)).drop.pick (A := rdsA _) (by repeat first | exact .here _ _ | assumption | apply Pick.there)).pick (A := rdrA V 149 gd _) (by repeat first | exact .here _ _ | assumption | apply Pick.there))⟩⟩
        | (rw [hiN] at hS hk
           rw [e2]
           exact ⟨_, ps', rfl, hsub, .inl ⟨e1, g9, rfl, ((((St.unreg (M := rgM s) hk ((hS.pick (A := mapA .i64 r7 (X.map rkv)) (by repeat first | exact .here _ _ | assumption | apply Pick.there)).pick (A := blkA g9 120 [.map (some r7)]) (by repeat first | exact .here _ _ | assumption | apply Pick.there))).pick (A := rdsA _) (by repeat first | exact .here _ _ | assumption | apply Pick.there)).pick (A := rdrA V 149 gd _) (by repeat first | exact .here _ _ | assumption | apply Pick.there)).pick (A := regA W g9 _ _) (by repeat first | exact .here _ _ | assumption | apply Pick.there))⟩⟩)
    · intro hc14
      have hc14d := of_decide_eq_false hc14
      obtain ⟨e1, e2⟩ := rgOk_yes (s := s) (by rw [← hiN]; exact hall) (by have h4 := hc14d; have h5 := hk.len; have h6 := hko.cnt; rw [List.length_map] at h4; omega)
      refine c_skip ?_
      refine c_seq ?_
      refine c_region ?_
      refine t_q (q_mv (.pointer _) rfl) ?_
      refine t_q (q_as (.pointer _) rfl) ?_
      refine t_nil ?_
      refine c_ret ?_
      refine r_one rfl rfl ?_
      first
        | exact ⟨none, _, rfl, (fun q hq => List.mem_append_right _ (hsub q hq)), .inr ⟨e1, rfl, (((((hS.pick (A := blkA g5 47 _) (by repeat first | exact .here _ _ | assumption | apply Pick.there)).drop.pick (A := blkA g9 120 [.map (some r7)]) (by repeat first | exact .here _ _ | assumption | apply Pick.there)).drop.pick (A := mapA .i64 r7 _) (by repeat first | exact .here _ _ | assumption | apply Pick.there)).drop.pick (A := rdsA _) (by repeat first | exact .here _ _ | assumption | apply Pick.there)).pick (A := rdrA V 149 gd _) (by repeat first | exact .here _ _ | assumption | apply Pick.there))⟩⟩
        | exact ⟨none, _, rfl, hsub, .inr ⟨e1, rfl, ((((hS.pick (A := blkA g9 120 [.map (some r7)]) (by repeat first | exact .here _ _ | assumption | apply Pick.there)).drop.pick (A := mapA .i64 r7 _) (by repeat first | exact .here _ _ | assumption | apply Pick.there)).drop.pick (A := rdsA _) (by repeat first | exact .here _ _ | assumption | apply Pick.there)).pick (A := rdrA V 149 gd _) (by repeat first | exact .here _ _ | assumption | apply Pick.there))⟩⟩
        | (rw [hiN] at hS hk
           rw [e2]
           exact ⟨_, ps', rfl, hsub, .inl ⟨e1, g9, rfl, ((((St.unreg (M := rgM s) hk ((hS.pick (A := mapA .i64 r7 (X.map rkv)) (by repeat first | exact .here _ _ | assumption | apply Pick.there)).pick (A := blkA g9 120 [.map (some r7)]) (by repeat first | exact .here _ _ | assumption | apply Pick.there))).pick (A := rdsA _) (by repeat first | exact .here _ _ | assumption | apply Pick.there)).pick (A := rdrA V 149 gd _) (by repeat first | exact .here _ _ | assumption | apply Pick.there)).pick (A := regA W g9 _ _) (by repeat first | exact .here _ _ | assumption | apply Pick.there))⟩⟩)
end Go.Proofs.Ytmgobaojioaioaa
