/- Whatever is saved, and opened anew, each call tells what the document says: the walk. -/
import Derived.Test.YtlppgpidakfnlaaAu
namespace Go.Proofs.Ytlppgpidakfnlaa
open Go Go.RowKit Go.Lib
variable {W : World}
theorem op_start (n : Nat) (hn : n ≤ 30) : opC D0 n 2 = (-1, sn0) ∧ ∃ d, opD D0 n (-1) 2 = d ∧ DGood d ∧ d.gone = false ∧ d.fuse = -1 ∧ d.calls ≤ 2 ∧ AFiles d n (-1) sn0 := by
  obtain ⟨h1, h2, h3, h4⟩ := opD_ok (n := n) (c := -1) D0_ok.1 D0_ok.2.1 D0_ok.2.2 2
  exact ⟨D0_files.opens, _, rfl, h1, h2, h3, h4, D0_files.opened D0_ok.1 D0_ok.2.1 D0_ok.2.2 hn⟩
theorem op_again {d : Dk} {n : Nat} {c : Int} {s : Sn} (h : AFiles d n c s) (hG : DGood d) (hg : d.gone = false) (hf : d.fuse < 0) (hn : n ≤ 30) : opC d n 2 = (c, s) ∧ ∃ d2, opD d n c 2 = d2 ∧ DGood d2 ∧ d2.gone = false ∧ d2.fuse < 0 ∧ d2.calls ≤ d.calls + 2 ∧ AFiles d2 n c s := by
  obtain ⟨h1, h2, h3, h4⟩ := opD_ok (n := n) (c := c) hG hg hf 2
  exact ⟨h.opens, _, rfl, h1, h2, by omega, h4, h.opened hG hg hf hn⟩
/-- what Save tells, and what then is -/
theorem sv_play {d : Dk} {n : Nat} {c : Int} {s x : Sn} (h : AFiles d n c s) (hG : DGood d) (hg : d.gone = false) (hf : d.fuse < 0) (hn : n ≤ 30) :
    (snE x.i x.t x.b ≠ 0 → saE ⟨(n : Int), c, s, false⟩ d x = snE x.i x.t x.b ∧ saA ⟨(n : Int), c, s, false⟩ d x = ⟨(n : Int), c, s, false⟩ ∧ saD ⟨(n : Int), c, s, false⟩ d x = d) ∧
    (snE x.i x.t x.b = 0 → (0 ≤ c ∧ x.i ≤ s.i) → saE ⟨(n : Int), c, s, false⟩ d x = 55 ∧ saA ⟨(n : Int), c, s, false⟩ d x = ⟨(n : Int), c, s, false⟩ ∧ saD ⟨(n : Int), c, s, false⟩ d x = d) ∧
    (snE x.i x.t x.b = 0 → ¬ (0 ≤ c ∧ x.i ≤ s.i) → saE ⟨(n : Int), c, s, false⟩ d x = 0 ∧ ∃ c2 d2, saA ⟨(n : Int), c, s, false⟩ d x = ⟨(n : Int), c2, x, false⟩ ∧ saD ⟨(n : Int), c, s, false⟩ d x = d2 ∧ DGood d2 ∧ d2.gone = false ∧ d2.fuse < 0 ∧ d2.calls ≤ d.calls + 4 ∧ AFiles d2 n c2 x ∧ 0 ≤ c2) := by
  refine ⟨fun h1 => sa_2 rfl h1, fun h1 h2 => sa_3 rfl h1 h2, fun h1 h2 => ?_⟩
  obtain ⟨r1, r2, r3, r4, r5, r6⟩ := h.saved hg hf hn h1
  obtain ⟨e1, e2, e3⟩ := sa_5 (a := ⟨(n : Int), c, s, false⟩) (d := d) (s := x) rfl h1 h2 r1
  exact ⟨e1, _, _, e2, e3, r6 hG, r2, by omega, r5, r4, by unfold saTo; split <;> decide⟩
attribute [local irreducible] blkA rowA rdrA rdO dskA arA
set_option maxHeartbeats 2000000 in
set_option maxRecDepth 100000 in
theorem ArchivePlays_calls {A : Option Addr} {c0 : Nat} {l : List AOp} (hl : RdAO W A l) (hok : ∀ x ∈ l, x.Ok W) (hm : l.length ≤ maxLen) : Calls Try.prog 7 #[.slice A l.length c0] W fun e w' => e = .returned (.bool true) ∧ St W w' [] := by
  have hS := St.init W
  refine calls_of_wpE (args := [_]) Try.func7 rfl rfl rfl ?_
  refine c_seq ?_
  refine c_region ?_
  refine t_q (q_assign) ?_
  refine t_nil ?_
  refine c_seq ?_
  refine c_seq ?_
  refine c_region ?_
  refine t_q (q_mv (.slice _ _ _) rfl) ?_
  refine t_call Try.call31 (few_calls (hl.st hS) hm) rfl ?_
  rintro e w ⟨rfl, hT⟩
  refine ⟨_, rfl, ?_⟩
  replace hS := hS.after hT
  refine t_q (q_not rfl) ?_
  refine t_nil ?_
  refine c_cond rfl ?_ ?_
  · intro hc2
    refine c_seq ?_
    refine c_region ?_
    refine t_call Try.call26 (alives_calls) rfl ?_
    rintro e w ⟨rfl, hT⟩
    refine ⟨_, rfl, ?_⟩
    replace hS := hS.after hT
    refine t_q (q_as (.bool _) rfl) ?_
    refine t_nil ?_
    refine c_ret ?_
    refine r_one rfl rfl ?_
    exact ⟨rfl, hS.nil⟩
  · intro hc2
    have hfb : fewB l = true := not_back hc2
    have h40 := few_len hfb
    refine c_skip ?_
    refine c_seq ?_
    refine c_region ?_
    refine t_call Try.call32 (dnew_calls hS) rfl ?_
    rintro e w ⟨gd, rfl, hS⟩
    refine ⟨_, rfl, ?_⟩
    refine t_q (q_as (.pointer _) rfl) ?_
    refine t_nil ?_
    refine c_seq ?_
    refine c_region ?_
    refine t_q (q_mv (.pointer _) rfl) ?_
    refine t_call Try.call33 (open_calls (d := D0) (n := 4) hS (by decide) D0_ok.1 D0_ok.2.1 D0_ok.2.2 (by decide)) rfl ?_
    rintro e w ⟨ga0, rfl, hS⟩
    refine ⟨_, rfl, ?_⟩
    obtain ⟨hO, d1, hd1, hG1, hg1, hf1, hc1, hF1⟩ := op_start 4 (by decide)
    rw [hO] at hS
    rw [hd1] at hS
    refine t_q (q_mv (.tuple _) rfl) ?_
    refine t_q (q_extract rfl rfl) ?_
    refine t_q (q_extract rfl rfl) ?_
    refine t_q (q_as (.pointer _) rfl) ?_
    refine t_q (q_as (.int _ _) rfl) ?_
    refine t_nil ?_
    refine c_seq ?_
    refine c_seq ?_
    refine c_region ?_
    refine t_q (q_mv (.int _ _) rfl) ?_
    refine t_q (q_cast (v' := .bool false) (q_neq rfl rfl) (by rfl)) ?_
    refine t_nil ?_
    refine c_cond_f rfl rfl ?_
    refine c_skip ?_
    refine c_seq ?_
    refine c_region ?_
    refine t_alloc Try.zeroValue50 rfl hS (fun g6 w hS => ?_)
    refine t_nil ?_
    refine c_seq ?_
    refine c_region ?_
    refine t_q (q_assign) ?_
    refine t_nil ?_
    refine c_seq ?_
    refine c_seq ?_
    refine c_region ?_
    refine t_q (q_mv (.slice _ _ _) rfl) ?_
    refine t_q (q_len_slice Try.runUnderlying56 rfl) ?_
    refine t_q (q_move) ?_
    refine t_nil ?_
    refine c_block ?_
    refine c_loop [2, 4, 5, 7, 9, 10, 11, 12, 13, 14, 29, 30, 31, 32, 33, 34, 35, 36, 37, 38, 39, 40, 41, 42, 43, 44, 45, 46, 47, 48, 49, 50, 51, 52, 53, 54, 55, 56, 57, 58, 59, 60, 61, 62, 63, 64, 65, 66, 67, 68, 69, 70, 71, 72, 73, 74, 75, 76, 77, 78, 79, 80, 81, 82, 83, 84, 85, 86, 87, 88, 89, 90] (fun k σ w => ∃ (j : Nat) (ga : Nat) (c : Int) (s : Sn) (d : Dk) (Bn : Option Addr) (cn : Nat), σ 29 = .int .i64 (j : Int) ∧ j ≤ l.length ∧ l.length - j ≤ k ∧ σ 4 = .pointer (some ⟨ga, 0, none⟩) ∧ σ 7 = .bool (decide (0 ≤ c)) ∧ DGood d ∧ d.gone = false ∧ d.fuse < 0 ∧ d.calls ≤ 8 * (j : Int) + 2 ∧ AFiles d 4 c s ∧ RdB W Bn s.b ∧ s.i < 18446744073709551616 ∧ St W w [arA ga gd ⟨((4 : Nat) : Int), c, s, false⟩, dskA gd d, blkA g6 50 [.int .u64 (s.i : Int), .int .u64 (s.t : Int), .slice Bn s.b.length cn]]) (l.length) rfl (⟨0, ga0, -1, sn0, d1, none, 0, rfl, by omega, by omega, rfl, rfl, hG1, hg1, by omega, by omega, hF1, Rd.none_ _ _ _ _, by decide, ((((hS.pick (A := blkA g6 50 _) (by repeat first | exact .here _ _ | assumption | apply Pick.there)).pick (A := dskA gd d1) (by repeat first | exact .here _ _ | assumption | apply Pick.there)).pick (A := arA ga0 gd _) (by repeat first | exact .here _ _ | assumption | apply Pick.there)))⟩) ?_
    skip
    rintro k σ w ⟨j, ga, c, s, d, Bn, cn, h29, hj, hk, h4, h7, hG, hg, hfu, hdc, hF, hBn, hsi, hS⟩
    refine c_know 29 h29 ?_
    refine c_know 4 h4 ?_
    refine c_know 7 h7 ?_
    clear h29 h4 h7
    refine c_seq ?_
    refine c_region ?_
    refine t_q (q_lss rfl rfl) ?_
    refine t_nil ?_
    refine c_seq ?_
    refine c_cond rfl ?_ ?_
    · intro hc10
      have hc10d := of_decide_eq_true hc10
      refine c_skip ?_
      refine c_seq ?_
      refine c_block ?_
      refine c_seq ?_
      refine c_region ?_
      first | refine t_index_nat Try.runUnderlying56 Try.sizeOf64 (hl.st hS) rfl rfl (by omega) (fun ad11 hl11 hx11 => ?_) | refine t_index Try.runUnderlying56 Try.sizeOf64 (hl.st hS) rfl rfl (by omega) (fun ad11 hl11 hx11 => ?_)
      refine t_q (q_loadN Try.isAgg64 Try.sizeOf64 rfl hl11 hx11) ?_
      refine t_alloc Try.zeroValue64 rfl hS (fun g9 w hS => ?_)
      refine t_store (v := (.agg _)) Try.sizeOf64 hS (by repeat first | exact .here _ _ | assumption | apply Pick.there) rfl rfl rfl rfl rfl rfl (fun w hS => ?_)
      obtain ⟨x, hx⟩ : ∃ x, x = (l.getD j default) := ⟨_, rfl⟩
      replace hS := hS.recast (show blkA g9 64 _ = blkA g9 64 x.cells from by rw [hx]; rfl)
      have hxo : x.Ok W := by rw [hx]; exact hok _ (getD_mem (by omega))
      have hxb : RdB W x.s.body.A x.s.body.l := hxo.s.body.rd
      have hx5 : x.s.body.l.length ≤ 5000 := by rw [hx]; exact few_at hfb (by omega)
      have hxc : x.s.body.l.length ≤ x.s.body.c ∧ x.s.body.l.length ≤ 9223372036854775807 := ⟨hxo.s.body.le.1, by omega⟩
      obtain ⟨hv1, hv2, hv3⟩ := sv_play (x := (⟨opI x s.i, opT x, x.s.body.l⟩ : Sn)) hF hG hg hfu (show 4 ≤ 30 by decide)
      dsimp only at hv1 hv2 hv3
      refine t_nil ?_
      refine c_cut [2, 4, 5, 7, 10, 11, 12, 33, 34, 35, 36, 37, 38, 39, 40, 41, 42, 43, 44, 45, 46, 47, 48, 49, 50, 51, 52, 53, 54, 55, 56, 57, 58, 59, 60, 61, 62, 63, 64, 65, 66, 67, 68, 69, 70, 71] (fun σ w => ∃ (ga : Nat) (c : Int) (s : Sn) (d : Dk) (Bn : Option Addr) (cn : Nat), σ 4 = .pointer (some ⟨ga, 0, none⟩) ∧ σ 7 = .bool (decide (0 ≤ c)) ∧ DGood d ∧ d.gone = false ∧ d.fuse < 0 ∧ d.calls ≤ 8 * (j : Int) + 8 ∧ AFiles d 4 c s ∧ RdB W Bn s.b ∧ s.i < 18446744073709551616 ∧ St W w [arA ga gd ⟨((4 : Nat) : Int), c, s, false⟩, dskA gd d, blkA g6 50 [.int .u64 (s.i : Int), .int .u64 (s.t : Int), .slice Bn s.b.length cn]]) rfl ?_ ?_
      ·
        refine c_seq ?_
        refine c_region ?_
        refine t_q (q_fieldAddr 0 Try.runUnderlying64 rfl Try.sizeOf3 (by decide) rfl rfl) ?_
        refine t_q (q_load1 Try.isAgg3 rfl (hS.cell (by repeat first | exact .here _ _ | assumption | apply Pick.there) rfl)) ?_
        refine t_q (q_eql rfl rfl) ?_
        refine t_nil ?_
        refine c_cond rfl ?_ ?_
        · intro hc13
          have hc13d := of_decide_eq_true hc13
          refine c_seq ?_
          refine c_region ?_
          refine t_q (q_mv (.pointer _) rfl) ?_
          obtain ⟨hO, d2, hd2, hG2, hg2, hf2, hc2, hF2⟩ := op_again hF hG hg hfu (by decide)
          refine t_call Try.call33 (open_calls (d := d) (n := 4) ((hS.pick (A := dskA gd d) (by repeat first | exact .here _ _ | assumption | apply Pick.there))) (by decide) hG hg hfu (by omega)) rfl ?_
          rintro e w ⟨ga1, rfl, hS⟩
          refine ⟨_, rfl, ?_⟩
          rw [hO] at hS
          rw [hd2] at hS
          refine t_q (q_mv (.tuple _) rfl) ?_
          refine t_q (q_extract rfl rfl) ?_
          refine t_q (q_extract rfl rfl) ?_
          refine t_q (q_as (.pointer _) rfl) ?_
          refine t_q (q_as (.int _ _) rfl) ?_
          refine t_nil ?_
          refine c_seq ?_
          refine c_region ?_
          refine t_q (q_mv (.int _ _) rfl) ?_
          refine t_q (q_cast (v' := .bool false) (q_neq rfl rfl) (by rfl)) ?_
          refine t_nil ?_
          refine c_cond_f rfl rfl ?_
          refine c_skip ?_
          first
            | exact ⟨ga1, c, s, d2, Bn, cn, rfl, rfl, hG2, hg2, hf2, by omega, hF2, hBn, hsi, ((((hS.pick (A := blkA g6 50 [.int .u64 (s.i : Int), .int .u64 (s.t : Int), .slice Bn s.b.length cn]) (by repeat first | exact .here _ _ | assumption | apply Pick.there)).pick (A := dskA gd d2) (by repeat first | exact .here _ _ | assumption | apply Pick.there)).pick (A := arA ga1 gd _) (by repeat first | exact .here _ _ | assumption | apply Pick.there))).front3⟩
            | (obtain ⟨_, c2, d2, e2, e3, hG2, hg2, hf2, hc2, hF2, hp2⟩ := hv3 hE0 hno
               rw [e2, e3] at hS
               exact ⟨ga, c2, (⟨opI x s.i, opT x, x.s.body.l⟩ : Sn), d2, x.s.body.A, x.s.body.c, rfl, (congrArg Value.bool (decide_eq_true hp2)).symm, hG2, hg2, hf2, by omega, hF2, hxb, (op_good (now := s.i) hxo).1, ((((hS.pick (A := blkA g6 50 [.int .u64 ((⟨opI x s.i, opT x, x.s.body.l⟩ : Sn).i : Int), .int .u64 ((⟨opI x s.i, opT x, x.s.body.l⟩ : Sn).t : Int), .slice x.s.body.A (⟨opI x s.i, opT x, x.s.body.l⟩ : Sn).b.length x.s.body.c]) (by repeat first | exact .here _ _ | assumption | apply Pick.there)).pick (A := dskA gd d2) (by repeat first | exact .here _ _ | assumption | apply Pick.there)).pick (A := arA ga gd _) (by repeat first | exact .here _ _ | assumption | apply Pick.there))).front3⟩)
            | (rw [hv.2.1, hv.2.2] at hS
               exact ⟨ga, c, s, d, Bn, cn, rfl, rfl, hG, hg, hfu, by omega, hF, hBn, hsi, ((((hS.pick (A := blkA g6 50 [.int .u64 (s.i : Int), .int .u64 (s.t : Int), .slice Bn s.b.length cn]) (by repeat first | exact .here _ _ | assumption | apply Pick.there)).pick (A := dskA gd d) (by repeat first | exact .here _ _ | assumption | apply Pick.there)).pick (A := arA ga gd _) (by repeat first | exact .here _ _ | assumption | apply Pick.there))).front3⟩)
            | (have hw := hv1 (by show snE (opI x s.i) (opT x) x.s.body.l ≠ 0; omega)
               rw [hw.2.1, hw.2.2] at hS
               exact ⟨ga, c, s, d, Bn, cn, rfl, rfl, hG, hg, hfu, by omega, hF, hBn, hsi, ((((hS.pick (A := blkA g6 50 [.int .u64 (s.i : Int), .int .u64 (s.t : Int), .slice Bn s.b.length cn]) (by repeat first | exact .here _ _ | assumption | apply Pick.there)).pick (A := dskA gd d) (by repeat first | exact .here _ _ | assumption | apply Pick.there)).pick (A := arA ga gd _) (by repeat first | exact .here _ _ | assumption | apply Pick.there))).front3⟩)
        · intro hc13
          have hc13d := of_decide_eq_false hc13
          refine c_seq ?_
          refine c_region ?_
          refine t_q (q_load_blk Try.isAgg64 Try.sizeOf64 rfl (hS.blk (by repeat first | exact .here _ _ | assumption | apply Pick.there)) rfl) ?_
          refine t_q (q_fieldAddr 0 Try.runUnderlying50 rfl Try.sizeOf43 (by decide) rfl rfl) ?_
          refine t_q (q_load1 Try.isAgg43 rfl (hS.cell (by repeat first | exact .here _ _ | assumption | apply Pick.there) rfl)) ?_
          refine t_call Try.call34 (snap_calls hxo hsi) rfl ?_
          rintro e w ⟨rfl, hT⟩
          refine ⟨_, rfl, ?_⟩
          replace hS := hS.after hT
          refine t_alloc Try.zeroValue45 rfl hS (fun g10 w hS => ?_)
          refine t_store (v := (.agg _)) Try.sizeOf45 hS (by repeat first | exact .here _ _ | assumption | apply Pick.there) rfl rfl rfl rfl rfl rfl (fun w hS => ?_)
          replace hS := hS.recast (show blkA g10 45 _ = blkA g10 45 [.int .u64 (opI x s.i : Int), .int .u64 (opT x : Int), .slice x.s.body.A x.s.body.l.length x.s.body.c] from rfl)
          refine t_nil ?_
          refine c_seq ?_
          refine c_region ?_
          refine t_q (q_load_blk Try.isAgg45 Try.sizeOf45 rfl (hS.blk (by repeat first | exact .here _ _ | assumption | apply Pick.there)) rfl) ?_
          refine t_call Try.call28 (qabytes_calls (i := opI x s.i) (t := opT x) (bs := x.s.body.l) (Rd.st hxb hS) hxc (op_good (now := s.i) hxo).1 (op_good (now := s.i) hxo).2) rfl ?_
          rintro e w ⟨A47, m47, c47, rfl, hm47, hT⟩
          refine ⟨_, rfl, ?_⟩
          have hS : St W w (_ :: _) := hS.lift hT
          refine t_q (q_mv (.tuple _) rfl) ?_
          refine t_q (q_extract rfl rfl) ?_
          refine t_q (q_extract rfl rfl) ?_
          refine t_q (q_as (.slice _ _ _) rfl) ?_
          refine t_q (q_as (.int _ _) rfl) ?_
          refine t_nil ?_
          refine c_seq ?_
          refine c_seq ?_
          refine c_region ?_
          refine t_q (q_mv (.int _ _) rfl) ?_
          refine t_q (q_eql rfl rfl) ?_
          refine t_q (q_mv (.bool _) rfl) ?_
          refine t_case 54 rfl ?_ ?_
          · intro hg23
            have hg23d := of_decide_eq_true hg23
            refine t_yes rfl rfl hg23 ?_
            refine t_q (q_mv (.bool _) rfl) ?_
            refine t_q (q_pick_t rfl hg23) ?_
            refine t_q (q_mv (.bool _) rfl) ?_
            refine t_case 57 rfl ?_ ?_
            · intro hg25
              refine t_yes rfl rfl hg25 ?_
              refine t_q (q_fieldAddr 0 Try.runUnderlying45 rfl Try.sizeOf43 (by decide) rfl rfl) ?_
              refine t_yes rfl rfl hg25 ?_
              refine t_q (q_load1 Try.isAgg43 rfl (hS.cell (by repeat first | exact .here _ _ | assumption | apply Pick.there) rfl)) ?_
              refine t_yes rfl rfl hg25 ?_
              refine t_q (q_fieldAddr 0 Try.runUnderlying50 rfl Try.sizeOf43 (by decide) rfl rfl) ?_
              refine t_yes rfl rfl hg25 ?_
              refine t_q (q_load1 Try.isAgg43 rfl (hS.cell (by repeat first | exact .here _ _ | assumption | apply Pick.there) rfl)) ?_
              refine t_yes rfl rfl hg25 ?_
              refine t_q (q_leq rfl rfl) ?_
              refine t_q (q_pick_t rfl hg25) ?_
              refine t_nil ?_
              refine c_cond rfl ?_ ?_
              · intro hc27
                have hc27d := of_decide_eq_true hc27
                have hv := hv2 (by omega) ⟨by first | omega | exact of_decide_eq_true (by assumption), by omega⟩
                refine c_region ?_
                refine t_q (q_assign) ?_
                refine t_nil ?_
                refine c_seq ?_
                refine c_seq ?_
                refine c_region ?_
                refine t_q (q_mv (.pointer _) rfl) ?_
                refine t_q (q_load_blk Try.isAgg45 Try.sizeOf45 rfl (hS.blk (by repeat first | exact .here _ _ | assumption | apply Pick.there)) rfl) ?_
                refine t_call Try.call35 (save_calls (a := ⟨((4 : Nat) : Int), c, s, false⟩) (d := d) (i := opI x s.i) (t := opT x) (bs := x.s.body.l) (((hS.pick (A := dskA gd d) (by repeat first | exact .here _ _ | assumption | apply Pick.there)).pick (A := arA ga gd ⟨((4 : Nat) : Int), c, s, false⟩) (by repeat first | exact .here _ _ | assumption | apply Pick.there))) (fun w h => Rd.st hxb h) hxc (op_good (now := s.i) hxo).1 (op_good (now := s.i) hxo).2 hG (by omega) ⟨by show (0 : Int) ≤ ((4 : Nat) : Int); decide, by show ((4 : Nat) : Int) ≤ 30; decide⟩) rfl ?_
                rintro e w ⟨rfl, hS⟩
                refine ⟨_, rfl, ?_⟩
                replace hS : St W w (arA ga gd (saA ⟨((4 : Nat) : Int), c, s, false⟩ d (⟨opI x s.i, opT x, x.s.body.l⟩ : Sn)) :: dskA gd (saD ⟨((4 : Nat) : Int), c, s, false⟩ d (⟨opI x s.i, opT x, x.s.body.l⟩ : Sn)) :: _) := hS
                refine t_q (q_mv (.int _ _) rfl) ?_
                refine t_q (q_cast (v' := .bool false) (q_neq rfl rfl) (by
  first
    | (rw [hv.1]; rfl)
    | (have hu : saE ⟨((4 : Nat) : Int), c, s, false⟩ d (⟨opI x s.i, opT x, x.s.body.l⟩ : Sn) = snE (opI x s.i) (opT x) x.s.body.l := by
         by_cases hz : snE (opI x s.i) (opT x) x.s.body.l = 0
         · rw [(hv3 hz (by
             first
               | exact fun hh => absurd hz (by omega)
               | exact fun hh => absurd hh.1 (of_decide_eq_false (by assumption))
               | exact fun hh => by have h2 := hh.2; omega)).1, hz]
         · exact (hv1 hz).1
       rw [hu]; simp))) ?_
                refine t_nil ?_
                refine c_cond_f rfl rfl ?_
                refine c_skip ?_
                refine c_seq ?_
                refine c_region ?_
                refine t_q (q_mv (.int _ _) rfl) ?_
                refine t_q (q_eql rfl rfl) ?_
                refine t_nil ?_
                refine c_cond rfl ?_ ?_
                · intro hc31
                  have hc31d := of_decide_eq_true hc31
                  have hE0 : snE (opI x s.i) (opT x) x.s.body.l = 0 := by omega
                  have hno : ¬ (0 ≤ c ∧ opI x s.i ≤ s.i) := by
                    first
                      | omega
                      | exact fun hh => absurd hh.1 (of_decide_eq_false (by assumption))
                      | exact fun hh => by have h2 := hh.2; omega
                  refine c_region ?_
                  refine t_q (q_load_blk Try.isAgg45 Try.sizeOf45 rfl (hS.blk (by repeat first | exact .here _ _ | assumption | apply Pick.there)) rfl) ?_
                  refine t_store (v := (.agg _)) Try.sizeOf50 hS (by repeat first | exact .here _ _ | assumption | apply Pick.there) rfl rfl rfl rfl rfl rfl (fun w hS => ?_)
                  replace hS := hS.recast (show blkA g6 50 _ = blkA g6 50 [.int .u64 ((⟨opI x s.i, opT x, x.s.body.l⟩ : Sn).i : Int), .int .u64 ((⟨opI x s.i, opT x, x.s.body.l⟩ : Sn).t : Int), .slice x.s.body.A (⟨opI x s.i, opT x, x.s.body.l⟩ : Sn).b.length x.s.body.c] from rfl)
                  refine t_q (q_assign) ?_
                  refine t_nil ?_
                  first
                    | exact ⟨ga1, c, s, d2, Bn, cn, rfl, rfl, hG2, hg2, hf2, by omega, hF2, hBn, hsi, ((((hS.pick (A := blkA g6 50 [.int .u64 (s.i : Int), .int .u64 (s.t : Int), .slice Bn s.b.length cn]) (by repeat first | exact .here _ _ | assumption | apply Pick.there)).pick (A := dskA gd d2) (by repeat first | exact .here _ _ | assumption | apply Pick.there)).pick (A := arA ga1 gd _) (by repeat first | exact .here _ _ | assumption | apply Pick.there))).front3⟩
                    | (obtain ⟨_, c2, d2, e2, e3, hG2, hg2, hf2, hc2, hF2, hp2⟩ := hv3 hE0 hno
                       rw [e2, e3] at hS
                       exact ⟨ga, c2, (⟨opI x s.i, opT x, x.s.body.l⟩ : Sn), d2, x.s.body.A, x.s.body.c, rfl, (congrArg Value.bool (decide_eq_true hp2)).symm, hG2, hg2, hf2, by omega, hF2, hxb, (op_good (now := s.i) hxo).1, ((((hS.pick (A := blkA g6 50 [.int .u64 ((⟨opI x s.i, opT x, x.s.body.l⟩ : Sn).i : Int), .int .u64 ((⟨opI x s.i, opT x, x.s.body.l⟩ : Sn).t : Int), .slice x.s.body.A (⟨opI x s.i, opT x, x.s.body.l⟩ : Sn).b.length x.s.body.c]) (by repeat first | exact .here _ _ | assumption | apply Pick.there)).pick (A := dskA gd d2) (by repeat first | exact .here _ _ | assumption | apply Pick.there)).pick (A := arA ga gd _) (by repeat first | exact .here _ _ | assumption | apply Pick.there))).front3⟩)
                    | (rw [hv.2.1, hv.2.2] at hS
                       exact ⟨ga, c, s, d, Bn, cn, rfl, rfl, hG, hg, hfu, by omega, hF, hBn, hsi, ((((hS.pick (A := blkA g6 50 [.int .u64 (s.i : Int), .int .u64 (s.t : Int), .slice Bn s.b.length cn]) (by repeat first | exact .here _ _ | assumption | apply Pick.there)).pick (A := dskA gd d) (by repeat first | exact .here _ _ | assumption | apply Pick.there)).pick (A := arA ga gd _) (by repeat first | exact .here _ _ | assumption | apply Pick.there))).front3⟩)
                    | (have hw := hv1 (by show snE (opI x s.i) (opT x) x.s.body.l ≠ 0; omega)
                       rw [hw.2.1, hw.2.2] at hS
                       exact ⟨ga, c, s, d, Bn, cn, rfl, rfl, hG, hg, hfu, by omega, hF, hBn, hsi, ((((hS.pick (A := blkA g6 50 [.int .u64 (s.i : Int), .int .u64 (s.t : Int), .slice Bn s.b.length cn]) (by repeat first | exact .here _ _ | assumption | apply Pick.there)).pick (A := dskA gd d) (by repeat first | exact .here _ _ | assumption | apply Pick.there)).pick (A := arA ga gd _) (by repeat first | exact .here _ _ | assumption | apply Pick.there))).front3⟩)
                · intro hc31
                  have hc31d := of_decide_eq_false hc31
                  refine c_skip ?_
                  first
                    | exact ⟨ga1, c, s, d2, Bn, cn, rfl, rfl, hG2, hg2, hf2, by omega, hF2, hBn, hsi, ((((hS.pick (A := blkA g6 50 [.int .u64 (s.i : Int), .int .u64 (s.t : Int), .slice Bn s.b.length cn]) (by repeat first | exact .here _ _ | assumption | apply Pick.there)).pick (A := dskA gd d2) (by repeat first | exact .here _ _ | assumption | apply Pick.there)).pick (A := arA ga1 gd _) (by repeat first | exact .here _ _ | assumption | apply Pick.there))).front3⟩
                    | (obtain ⟨_, c2, d2, e2, e3, hG2, hg2, hf2, hc2, hF2, hp2⟩ := hv3 hE0 hno
                       rw [e2, e3] at hS
                       exact ⟨ga, c2, (⟨opI x s.i, opT x, x.s.body.l⟩ : Sn), d2, x.s.body.A, x.s.body.c, rfl, (congrArg Value.bool (decide_eq_true hp2)).symm, hG2, hg2, hf2, by omega, hF2, hxb, (op_good (now := s.i) hxo).1, ((((hS.pick (A := blkA g6 50 [.int .u64 ((⟨opI x s.i, opT x, x.s.body.l⟩ : Sn).i : Int), .int .u64 ((⟨opI x s.i, opT x, x.s.body.l⟩ : Sn).t : Int), .slice x.s.body.A (⟨opI x s.i, opT x, x.s.body.l⟩ : Sn).b.length x.s.body.c]) (by repeat first | exact .here _ _ | assumption | apply Pick.there)).pick (A := dskA gd d2) (by repeat first | exact .here _ _ | assumption | apply Pick.there)).pick (A := arA ga gd _) (by repeat first | exact .here _ _ | assumption | apply Pick.there))).front3⟩)
                    | (rw [hv.2.1, hv.2.2] at hS
                       exact ⟨ga, c, s, d, Bn, cn, rfl, rfl, hG, hg, hfu, by omega, hF, hBn, hsi, ((((hS.pick (A := blkA g6 50 [.int .u64 (s.i : Int), .int .u64 (s.t : Int), .slice Bn s.b.length cn]) (by repeat first | exact .here _ _ | assumption | apply Pick.there)).pick (A := dskA gd d) (by repeat first | exact .here _ _ | assumption | apply Pick.there)).pick (A := arA ga gd _) (by repeat first | exact .here _ _ | assumption | apply Pick.there))).front3⟩)
                    | (have hw := hv1 (by show snE (opI x s.i) (opT x) x.s.body.l ≠ 0; omega)
                       rw [hw.2.1, hw.2.2] at hS
                       exact ⟨ga, c, s, d, Bn, cn, rfl, rfl, hG, hg, hfu, by omega, hF, hBn, hsi, ((((hS.pick (A := blkA g6 50 [.int .u64 (s.i : Int), .int .u64 (s.t : Int), .slice Bn s.b.length cn]) (by repeat first | exact .here _ _ | assumption | apply Pick.there)).pick (A := dskA gd d) (by repeat first | exact .here _ _ | assumption | apply Pick.there)).pick (A := arA ga gd _) (by repeat first | exact .here _ _ | assumption | apply Pick.there))).front3⟩)
              · intro hc27
                have hc27d := of_decide_eq_false hc27
                skip
                refine c_skip ?_
                refine c_seq ?_
                refine c_seq ?_
                refine c_region ?_
                refine t_q (q_mv (.pointer _) rfl) ?_
                refine t_q (q_load_blk Try.isAgg45 Try.sizeOf45 rfl (hS.blk (by repeat first | exact .here _ _ | assumption | apply Pick.there)) rfl) ?_
                refine t_call Try.call35 (save_calls (a := ⟨((4 : Nat) : Int), c, s, false⟩) (d := d) (i := opI x s.i) (t := opT x) (bs := x.s.body.l) (((hS.pick (A := dskA gd d) (by repeat first | exact .here _ _ | assumption | apply Pick.there)).pick (A := arA ga gd ⟨((4 : Nat) : Int), c, s, false⟩) (by repeat first | exact .here _ _ | assumption | apply Pick.there))) (fun w h => Rd.st hxb h) hxc (op_good (now := s.i) hxo).1 (op_good (now := s.i) hxo).2 hG (by omega) ⟨by show (0 : Int) ≤ ((4 : Nat) : Int); decide, by show ((4 : Nat) : Int) ≤ 30; decide⟩) rfl ?_
                rintro e w ⟨rfl, hS⟩
                refine ⟨_, rfl, ?_⟩
                replace hS : St W w (arA ga gd (saA ⟨((4 : Nat) : Int), c, s, false⟩ d (⟨opI x s.i, opT x, x.s.body.l⟩ : Sn)) :: dskA gd (saD ⟨((4 : Nat) : Int), c, s, false⟩ d (⟨opI x s.i, opT x, x.s.body.l⟩ : Sn)) :: _) := hS
                refine t_q (q_mv (.int _ _) rfl) ?_
                refine t_q (q_cast (v' := .bool false) (q_neq rfl rfl) (by
  first
    | (rw [hv.1]; rfl)
    | (have hu : saE ⟨((4 : Nat) : Int), c, s, false⟩ d (⟨opI x s.i, opT x, x.s.body.l⟩ : Sn) = snE (opI x s.i) (opT x) x.s.body.l := by
         by_cases hz : snE (opI x s.i) (opT x) x.s.body.l = 0
         · rw [(hv3 hz (by
             first
               | exact fun hh => absurd hz (by omega)
               | exact fun hh => absurd hh.1 (of_decide_eq_false (by assumption))
               | exact fun hh => by have h2 := hh.2; omega)).1, hz]
         · exact (hv1 hz).1
       rw [hu]; simp))) ?_
                refine t_nil ?_
                refine c_cond_f rfl rfl ?_
                refine c_skip ?_
                refine c_seq ?_
                refine c_region ?_
                refine t_q (q_mv (.int _ _) rfl) ?_
                refine t_q (q_eql rfl rfl) ?_
                refine t_nil ?_
                refine c_cond rfl ?_ ?_
                · intro hc35
                  have hc35d := of_decide_eq_true hc35
                  have hE0 : snE (opI x s.i) (opT x) x.s.body.l = 0 := by omega
                  have hno : ¬ (0 ≤ c ∧ opI x s.i ≤ s.i) := by
                    first
                      | omega
                      | exact fun hh => absurd hh.1 (of_decide_eq_false (by assumption))
                      | exact fun hh => by have h2 := hh.2; omega
                  refine c_region ?_
                  refine t_q (q_load_blk Try.isAgg45 Try.sizeOf45 rfl (hS.blk (by repeat first | exact .here _ _ | assumption | apply Pick.there)) rfl) ?_
                  refine t_store (v := (.agg _)) Try.sizeOf50 hS (by repeat first | exact .here _ _ | assumption | apply Pick.there) rfl rfl rfl rfl rfl rfl (fun w hS => ?_)
                  replace hS := hS.recast (show blkA g6 50 _ = blkA g6 50 [.int .u64 ((⟨opI x s.i, opT x, x.s.body.l⟩ : Sn).i : Int), .int .u64 ((⟨opI x s.i, opT x, x.s.body.l⟩ : Sn).t : Int), .slice x.s.body.A (⟨opI x s.i, opT x, x.s.body.l⟩ : Sn).b.length x.s.body.c] from rfl)
                  refine t_q (q_assign) ?_
                  refine t_nil ?_
                  first
                    | exact ⟨ga1, c, s, d2, Bn, cn, rfl, rfl, hG2, hg2, hf2, by omega, hF2, hBn, hsi, ((((hS.pick (A := blkA g6 50 [.int .u64 (s.i : Int), .int .u64 (s.t : Int), .slice Bn s.b.length cn]) (by repeat first | exact .here _ _ | assumption | apply Pick.there)).pick (A := dskA gd d2) (by repeat first | exact .here _ _ | assumption | apply Pick.there)).pick (A := arA ga1 gd _) (by repeat first | exact .here _ _ | assumption | apply Pick.there))).front3⟩
                    | (obtain ⟨_, c2, d2, e2, e3, hG2, hg2, hf2, hc2, hF2, hp2⟩ := hv3 hE0 hno
                       rw [e2, e3] at hS
                       exact ⟨ga, c2, (⟨opI x s.i, opT x, x.s.body.l⟩ : Sn), d2, x.s.body.A, x.s.body.c, rfl, (congrArg Value.bool (decide_eq_true hp2)).symm, hG2, hg2, hf2, by omega, hF2, hxb, (op_good (now := s.i) hxo).1, ((((hS.pick (A := blkA g6 50 [.int .u64 ((⟨opI x s.i, opT x, x.s.body.l⟩ : Sn).i : Int), .int .u64 ((⟨opI x s.i, opT x, x.s.body.l⟩ : Sn).t : Int), .slice x.s.body.A (⟨opI x s.i, opT x, x.s.body.l⟩ : Sn).b.length x.s.body.c]) (by repeat first | exact .here _ _ | assumption | apply Pick.there)).pick (A := dskA gd d2) (by repeat first | exact .here _ _ | assumption | apply Pick.there)).pick (A := arA ga gd _) (by repeat first | exact .here _ _ | assumption | apply Pick.there))).front3⟩)
                    | (rw [hv.2.1, hv.2.2] at hS
                       exact ⟨ga, c, s, d, Bn, cn, rfl, rfl, hG, hg, hfu, by omega, hF, hBn, hsi, ((((hS.pick (A := blkA g6 50 [.int .u64 (s.i : Int), .int .u64 (s.t : Int), .slice Bn s.b.length cn]) (by repeat first | exact .here _ _ | assumption | apply Pick.there)).pick (A := dskA gd d) (by repeat first | exact .here _ _ | assumption | apply Pick.there)).pick (A := arA ga gd _) (by repeat first | exact .here _ _ | assumption | apply Pick.there))).front3⟩)
                    | (have hw := hv1 (by show snE (opI x s.i) (opT x) x.s.body.l ≠ 0; omega)
                       rw [hw.2.1, hw.2.2] at hS
                       exact ⟨ga, c, s, d, Bn, cn, rfl, rfl, hG, hg, hfu, by omega, hF, hBn, hsi, ((((hS.pick (A := blkA g6 50 [.int .u64 (s.i : Int), .int .u64 (s.t : Int), .slice Bn s.b.length cn]) (by repeat first | exact .here _ _ | assumption | apply Pick.there)).pick (A := dskA gd d) (by repeat first | exact .here _ _ | assumption | apply Pick.there)).pick (A := arA ga gd _) (by repeat first | exact .here _ _ | assumption | apply Pick.there))).front3⟩)
                · intro hc35
                  have hc35d := of_decide_eq_false hc35
                  refine c_skip ?_
                  first
                    | exact ⟨ga1, c, s, d2, Bn, cn, rfl, rfl, hG2, hg2, hf2, by omega, hF2, hBn, hsi, ((((hS.pick (A := blkA g6 50 [.int .u64 (s.i : Int), .int .u64 (s.t : Int), .slice Bn s.b.length cn]) (by repeat first | exact .here _ _ | assumption | apply Pick.there)).pick (A := dskA gd d2) (by repeat first | exact .here _ _ | assumption | apply Pick.there)).pick (A := arA ga1 gd _) (by repeat first | exact .here _ _ | assumption | apply Pick.there))).front3⟩
                    | (obtain ⟨_, c2, d2, e2, e3, hG2, hg2, hf2, hc2, hF2, hp2⟩ := hv3 hE0 hno
                       rw [e2, e3] at hS
                       exact ⟨ga, c2, (⟨opI x s.i, opT x, x.s.body.l⟩ : Sn), d2, x.s.body.A, x.s.body.c, rfl, (congrArg Value.bool (decide_eq_true hp2)).symm, hG2, hg2, hf2, by omega, hF2, hxb, (op_good (now := s.i) hxo).1, ((((hS.pick (A := blkA g6 50 [.int .u64 ((⟨opI x s.i, opT x, x.s.body.l⟩ : Sn).i : Int), .int .u64 ((⟨opI x s.i, opT x, x.s.body.l⟩ : Sn).t : Int), .slice x.s.body.A (⟨opI x s.i, opT x, x.s.body.l⟩ : Sn).b.length x.s.body.c]) (by repeat first | exact .here _ _ | assumption | apply Pick.there)).pick (A := dskA gd d2) (by repeat first | exact .here _ _ | assumption | apply Pick.there)).pick (A := arA ga gd _) (by repeat first | exact .here _ _ | assumption | apply Pick.there))).front3⟩)
                    | (rw [hv.2.1, hv.2.2] at hS
                       exact ⟨ga, c, s, d, Bn, cn, rfl, rfl, hG, hg, hfu, by omega, hF, hBn, hsi, ((((hS.pick (A := blkA g6 50 [.int .u64 (s.i : Int), .int .u64 (s.t : Int), .slice Bn s.b.length cn]) (by repeat first | exact .here _ _ | assumption | apply Pick.there)).pick (A := dskA gd d) (by repeat first | exact .here _ _ | assumption | apply Pick.there)).pick (A := arA ga gd _) (by repeat first | exact .here _ _ | assumption | apply Pick.there))).front3⟩)
                    | (have hw := hv1 (by show snE (opI x s.i) (opT x) x.s.body.l ≠ 0; omega)
                       rw [hw.2.1, hw.2.2] at hS
                       exact ⟨ga, c, s, d, Bn, cn, rfl, rfl, hG, hg, hfu, by omega, hF, hBn, hsi, ((((hS.pick (A := blkA g6 50 [.int .u64 (s.i : Int), .int .u64 (s.t : Int), .slice Bn s.b.length cn]) (by repeat first | exact .here _ _ | assumption | apply Pick.there)).pick (A := dskA gd d) (by repeat first | exact .here _ _ | assumption | apply Pick.there)).pick (A := arA ga gd _) (by repeat first | exact .here _ _ | assumption | apply Pick.there))).front3⟩)
            · intro hg25
              refine t_no rfl rfl (by rw [hg25]; decide) ?_
              refine t_no rfl rfl (by rw [hg25]; decide) ?_
              refine t_no rfl rfl (by rw [hg25]; decide) ?_
              refine t_no rfl rfl (by rw [hg25]; decide) ?_
              refine t_no rfl rfl (by rw [hg25]; decide) ?_
              refine t_q (q_pick_f rfl hg25) ?_
              refine t_nil ?_
              refine c_cond_f rfl rfl ?_
              skip
              refine c_skip ?_
              refine c_seq ?_
              refine c_seq ?_
              refine c_region ?_
              refine t_q (q_mv (.pointer _) rfl) ?_
              refine t_q (q_load_blk Try.isAgg45 Try.sizeOf45 rfl (hS.blk (by repeat first | exact .here _ _ | assumption | apply Pick.there)) rfl) ?_
              refine t_call Try.call35 (save_calls (a := ⟨((4 : Nat) : Int), c, s, false⟩) (d := d) (i := opI x s.i) (t := opT x) (bs := x.s.body.l) (((hS.pick (A := dskA gd d) (by repeat first | exact .here _ _ | assumption | apply Pick.there)).pick (A := arA ga gd ⟨((4 : Nat) : Int), c, s, false⟩) (by repeat first | exact .here _ _ | assumption | apply Pick.there))) (fun w h => Rd.st hxb h) hxc (op_good (now := s.i) hxo).1 (op_good (now := s.i) hxo).2 hG (by omega) ⟨by show (0 : Int) ≤ ((4 : Nat) : Int); decide, by show ((4 : Nat) : Int) ≤ 30; decide⟩) rfl ?_
              rintro e w ⟨rfl, hS⟩
              refine ⟨_, rfl, ?_⟩
              replace hS : St W w (arA ga gd (saA ⟨((4 : Nat) : Int), c, s, false⟩ d (⟨opI x s.i, opT x, x.s.body.l⟩ : Sn)) :: dskA gd (saD ⟨((4 : Nat) : Int), c, s, false⟩ d (⟨opI x s.i, opT x, x.s.body.l⟩ : Sn)) :: _) := hS
              refine t_q (q_mv (.int _ _) rfl) ?_
              refine t_q (q_cast (v' := .bool false) (q_neq rfl rfl) (by
  first
    | (rw [hv.1]; rfl)
    | (have hu : saE ⟨((4 : Nat) : Int), c, s, false⟩ d (⟨opI x s.i, opT x, x.s.body.l⟩ : Sn) = snE (opI x s.i) (opT x) x.s.body.l := by
         by_cases hz : snE (opI x s.i) (opT x) x.s.body.l = 0
         · rw [(hv3 hz (by
             first
               | exact fun hh => absurd hz (by omega)
               | exact fun hh => absurd hh.1 (of_decide_eq_false (by assumption))
               | exact fun hh => by have h2 := hh.2; omega)).1, hz]
         · exact (hv1 hz).1
       rw [hu]; simp))) ?_
              refine t_nil ?_
              refine c_cond_f rfl rfl ?_
              refine c_skip ?_
              refine c_seq ?_
              refine c_region ?_
              refine t_q (q_mv (.int _ _) rfl) ?_
              refine t_q (q_eql rfl rfl) ?_
              refine t_nil ?_
              refine c_cond rfl ?_ ?_
              · intro hc39
                have hc39d := of_decide_eq_true hc39
                have hE0 : snE (opI x s.i) (opT x) x.s.body.l = 0 := by omega
                have hno : ¬ (0 ≤ c ∧ opI x s.i ≤ s.i) := by
                  first
                    | omega
                    | exact fun hh => absurd hh.1 (of_decide_eq_false (by assumption))
                    | exact fun hh => by have h2 := hh.2; omega
                refine c_region ?_
                refine t_q (q_load_blk Try.isAgg45 Try.sizeOf45 rfl (hS.blk (by repeat first | exact .here _ _ | assumption | apply Pick.there)) rfl) ?_
                refine t_store (v := (.agg _)) Try.sizeOf50 hS (by repeat first | exact .here _ _ | assumption | apply Pick.there) rfl rfl rfl rfl rfl rfl (fun w hS => ?_)
                replace hS := hS.recast (show blkA g6 50 _ = blkA g6 50 [.int .u64 ((⟨opI x s.i, opT x, x.s.body.l⟩ : Sn).i : Int), .int .u64 ((⟨opI x s.i, opT x, x.s.body.l⟩ : Sn).t : Int), .slice x.s.body.A (⟨opI x s.i, opT x, x.s.body.l⟩ : Sn).b.length x.s.body.c] from rfl)
                refine t_q (q_assign) ?_
                refine t_nil ?_
                first
                  | exact ⟨ga1, c, s, d2, Bn, cn, rfl, rfl, hG2, hg2, hf2, by omega, hF2, hBn, hsi, ((((hS.pick (A := blkA g6 50 [.int .u64 (s.i : Int), .int .u64 (s.t : Int), .slice Bn s.b.length cn]) (by repeat first | exact .here _ _ | assumption | apply Pick.there)).pick (A := dskA gd d2) (by repeat first | exact .here _ _ | assumption | apply Pick.there)).pick (A := arA ga1 gd _) (by repeat first | exact .here _ _ | assumption | apply Pick.there))).front3⟩
                  | (obtain ⟨_, c2, d2, e2, e3, hG2, hg2, hf2, hc2, hF2, hp2⟩ := hv3 hE0 hno
                     rw [e2, e3] at hS
                     exact ⟨ga, c2, (⟨opI x s.i, opT x, x.s.body.l⟩ : Sn), d2, x.s.body.A, x.s.body.c, rfl, (congrArg Value.bool (decide_eq_true hp2)).symm, hG2, hg2, hf2, by omega, hF2, hxb, (op_good (now := s.i) hxo).1, ((((hS.pick (A := blkA g6 50 [.int .u64 ((⟨opI x s.i, opT x, x.s.body.l⟩ : Sn).i : Int), .int .u64 ((⟨opI x s.i, opT x, x.s.body.l⟩ : Sn).t : Int), .slice x.s.body.A (⟨opI x s.i, opT x, x.s.body.l⟩ : Sn).b.length x.s.body.c]) (by repeat first | exact .here _ _ | assumption | apply Pick.there)).pick (A := dskA gd d2) (by repeat first | exact .here _ _ | assumption | apply Pick.there)).pick (A := arA ga gd _) (by repeat first | exact .here _ _ | assumption | apply Pick.there))).front3⟩)
                  | (rw [hv.2.1, hv.2.2] at hS
                     exact ⟨ga, c, s, d, Bn, cn, rfl, rfl, hG, hg, hfu, by omega, hF, hBn, hsi, ((((hS.pick (A := blkA g6 50 [.int .u64 (s.i : Int), .int .u64 (s.t : Int), .slice Bn s.b.length cn]) (by repeat first | exact .here _ _ | assumption | apply Pick.there)).pick (A := dskA gd d) (by repeat first | exact .here _ _ | assumption | apply Pick.there)).pick (A := arA ga gd _) (by repeat first | exact .here _ _ | assumption | apply Pick.there))).front3⟩)
                  | (have hw := hv1 (by show snE (opI x s.i) (opT x) x.s.body.l ≠ 0; omega)
                     rw [hw.2.1, hw.2.2] at hS
                     exact ⟨ga, c, s, d, Bn, cn, rfl, rfl, hG, hg, hfu, by omega, hF, hBn, hsi, ((((hS.pick (A := blkA g6 50 [.int .u64 (s.i : Int), .int .u64 (s.t : Int), .slice Bn s.b.length cn]) (by repeat first | exact .here _ _ | assumption | apply Pick.there)).pick (A := dskA gd d) (by repeat first | exact .here _ _ | assumption | apply Pick.there)).pick (A := arA ga gd _) (by repeat first | exact .here _ _ | assumption | apply Pick.there))).front3⟩)
              · intro hc39
                have hc39d := of_decide_eq_false hc39
                refine c_skip ?_
                first
                  | exact ⟨ga1, c, s, d2, Bn, cn, rfl, rfl, hG2, hg2, hf2, by omega, hF2, hBn, hsi, ((((hS.pick (A := blkA g6 50 [.int .u64 (s.i : Int), .int .u64 (s.t : Int), .slice Bn s.b.length cn]) (by repeat first | exact .here _ _ | assumption | apply Pick.there)).pick (A := dskA gd d2) (by repeat first | exact .here _ _ | assumption | apply Pick.there)).pick (A := arA ga1 gd _) (by repeat first | exact .here _ _ | assumption | apply Pick.there))).front3⟩
                  | (obtain ⟨_, c2, d2, e2, e3, hG2, hg2, hf2, hc2, hF2, hp2⟩ := hv3 hE0 hno
                     rw [e2, e3] at hS
                     exact ⟨ga, c2, (⟨opI x s.i, opT x, x.s.body.l⟩ : Sn), d2, x.s.body.A, x.s.body.c, rfl, (congrArg Value.bool (decide_eq_true hp2)).symm, hG2, hg2, hf2, by omega, hF2, hxb, (op_good (now := s.i) hxo).1, ((((hS.pick (A := blkA g6 50 [.int .u64 ((⟨opI x s.i, opT x, x.s.body.l⟩ : Sn).i : Int), .int .u64 ((⟨opI x s.i, opT x, x.s.body.l⟩ : Sn).t : Int), .slice x.s.body.A (⟨opI x s.i, opT x, x.s.body.l⟩ : Sn).b.length x.s.body.c]) (by repeat first | exact .here _ _ | assumption | apply Pick.there)).pick (A := dskA gd d2) (by repeat first | exact .here _ _ | assumption | apply Pick.there)).pick (A := arA ga gd _) (by repeat first | exact .here _ _ | assumption | apply Pick.there))).front3⟩)
                  | (rw [hv.2.1, hv.2.2] at hS
                     exact ⟨ga, c, s, d, Bn, cn, rfl, rfl, hG, hg, hfu, by omega, hF, hBn, hsi, ((((hS.pick (A := blkA g6 50 [.int .u64 (s.i : Int), .int .u64 (s.t : Int), .slice Bn s.b.length cn]) (by repeat first | exact .here _ _ | assumption | apply Pick.there)).pick (A := dskA gd d) (by repeat first | exact .here _ _ | assumption | apply Pick.there)).pick (A := arA ga gd _) (by repeat first | exact .here _ _ | assumption | apply Pick.there))).front3⟩)
                  | (have hw := hv1 (by show snE (opI x s.i) (opT x) x.s.body.l ≠ 0; omega)
                     rw [hw.2.1, hw.2.2] at hS
                     exact ⟨ga, c, s, d, Bn, cn, rfl, rfl, hG, hg, hfu, by omega, hF, hBn, hsi, ((((hS.pick (A := blkA g6 50 [.int .u64 (s.i : Int), .int .u64 (s.t : Int), .slice Bn s.b.length cn]) (by repeat first | exact .here _ _ | assumption | apply Pick.there)).pick (A := dskA gd d) (by repeat first | exact .here _ _ | assumption | apply Pick.there)).pick (A := arA ga gd _) (by repeat first | exact .here _ _ | assumption | apply Pick.there))).front3⟩)
          · intro hg23
            have hg23d := of_decide_eq_false hg23
            refine t_no rfl rfl (by rw [hg23]; decide) ?_
            refine t_q (q_pick_f rfl hg23) ?_
            refine t_q (q_mv (.bool _) rfl) ?_
            refine t_no rfl rfl (by decide) ?_
            refine t_no rfl rfl (by decide) ?_
            refine t_no rfl rfl (by decide) ?_
            refine t_no rfl rfl (by decide) ?_
            refine t_no rfl rfl (by decide) ?_
            refine t_q (q_pick_f rfl rfl) ?_
            refine t_nil ?_
            refine c_cond_f rfl rfl ?_
            skip
            refine c_skip ?_
            refine c_seq ?_
            refine c_seq ?_
            refine c_region ?_
            refine t_q (q_mv (.pointer _) rfl) ?_
            refine t_q (q_load_blk Try.isAgg45 Try.sizeOf45 rfl (hS.blk (by repeat first | exact .here _ _ | assumption | apply Pick.there)) rfl) ?_
            refine t_call Try.call35 (save_calls (a := ⟨((4 : Nat) : Int), c, s, false⟩) (d := d) (i := opI x s.i) (t := opT x) (bs := x.s.body.l) (((hS.pick (A := dskA gd d) (by repeat first | exact .here _ _ | assumption | apply Pick.there)).pick (A := arA ga gd ⟨((4 : Nat) : Int), c, s, false⟩) (by repeat first | exact .here _ _ | assumption | apply Pick.there))) (fun w h => Rd.st hxb h) hxc (op_good (now := s.i) hxo).1 (op_good (now := s.i) hxo).2 hG (by omega) ⟨by show (0 : Int) ≤ ((4 : Nat) : Int); decide, by show ((4 : Nat) : Int) ≤ 30; decide⟩) rfl ?_
            rintro e w ⟨rfl, hS⟩
            refine ⟨_, rfl, ?_⟩
            replace hS : St W w (arA ga gd (saA ⟨((4 : Nat) : Int), c, s, false⟩ d (⟨opI x s.i, opT x, x.s.body.l⟩ : Sn)) :: dskA gd (saD ⟨((4 : Nat) : Int), c, s, false⟩ d (⟨opI x s.i, opT x, x.s.body.l⟩ : Sn)) :: _) := hS
            refine t_q (q_mv (.int _ _) rfl) ?_
            refine t_q (q_cast (v' := .bool false) (q_neq rfl rfl) (by
  first
    | (rw [hv.1]; rfl)
    | (have hu : saE ⟨((4 : Nat) : Int), c, s, false⟩ d (⟨opI x s.i, opT x, x.s.body.l⟩ : Sn) = snE (opI x s.i) (opT x) x.s.body.l := by
         by_cases hz : snE (opI x s.i) (opT x) x.s.body.l = 0
         · rw [(hv3 hz (by
             first
               | exact fun hh => absurd hz (by omega)
               | exact fun hh => absurd hh.1 (of_decide_eq_false (by assumption))
               | exact fun hh => by have h2 := hh.2; omega)).1, hz]
         · exact (hv1 hz).1
       rw [hu]; simp))) ?_
            refine t_nil ?_
            refine c_cond_f rfl rfl ?_
            refine c_skip ?_
            refine c_seq ?_
            refine c_region ?_
            refine t_q (q_mv (.int _ _) rfl) ?_
            refine t_q (q_eql rfl rfl) ?_
            refine t_nil ?_
            refine c_cond rfl ?_ ?_
            · intro hc43
              have hc43d := of_decide_eq_true hc43
              have hE0 : snE (opI x s.i) (opT x) x.s.body.l = 0 := by omega
              have hno : ¬ (0 ≤ c ∧ opI x s.i ≤ s.i) := by
                first
                  | omega
                  | exact fun hh => absurd hh.1 (of_decide_eq_false (by assumption))
                  | exact fun hh => by have h2 := hh.2; omega
              refine c_region ?_
              refine t_q (q_load_blk Try.isAgg45 Try.sizeOf45 rfl (hS.blk (by repeat first | exact .here _ _ | assumption | apply Pick.there)) rfl) ?_
              refine t_store (v := (.agg _)) Try.sizeOf50 hS (by repeat first | exact .here _ _ | assumption | apply Pick.there) rfl rfl rfl rfl rfl rfl (fun w hS => ?_)
              replace hS := hS.recast (show blkA g6 50 _ = blkA g6 50 [.int .u64 ((⟨opI x s.i, opT x, x.s.body.l⟩ : Sn).i : Int), .int .u64 ((⟨opI x s.i, opT x, x.s.body.l⟩ : Sn).t : Int), .slice x.s.body.A (⟨opI x s.i, opT x, x.s.body.l⟩ : Sn).b.length x.s.body.c] from rfl)
              refine t_q (q_assign) ?_
              refine t_nil ?_
              first
                | exact ⟨ga1, c, s, d2, Bn, cn, rfl, rfl, hG2, hg2, hf2, by omega, hF2, hBn, hsi, ((((hS.pick (A := blkA g6 50 [.int .u64 (s.i : Int), .int .u64 (s.t : Int), .slice Bn s.b.length cn]) (by repeat first | exact .here _ _ | assumption | apply Pick.there)).pick (A := dskA gd d2) (by repeat first | exact .here _ _ | assumption | apply Pick.there)).pick (A := arA ga1 gd _) (by repeat first | exact .here _ _ | assumption | apply Pick.there))).front3⟩
                | (obtain ⟨_, c2, d2, e2, e3, hG2, hg2, hf2, hc2, hF2, hp2⟩ := hv3 hE0 hno
                   rw [e2, e3] at hS
                   exact ⟨ga, c2, (⟨opI x s.i, opT x, x.s.body.l⟩ : Sn), d2, x.s.body.A, x.s.body.c, rfl, (congrArg Value.bool (decide_eq_true hp2)).symm, hG2, hg2, hf2, by omega, hF2, hxb, (op_good (now := s.i) hxo).1, ((((hS.pick (A := blkA g6 50 [.int .u64 ((⟨opI x s.i, opT x, x.s.body.l⟩ : Sn).i : Int), .int .u64 ((⟨opI x s.i, opT x, x.s.body.l⟩ : Sn).t : Int), .slice x.s.body.A (⟨opI x s.i, opT x, x.s.body.l⟩ : Sn).b.length x.s.body.c]) (by repeat first | exact .here _ _ | assumption | apply Pick.there)).pick (A := dskA gd d2) (by repeat first | exact .here _ _ | assumption | apply Pick.there)).pick (A := arA ga gd _) (by repeat first | exact .here _ _ | assumption | apply Pick.there))).front3⟩)
                | (rw [hv.2.1, hv.2.2] at hS
                   exact ⟨ga, c, s, d, Bn, cn, rfl, rfl, hG, hg, hfu, by omega, hF, hBn, hsi, ((((hS.pick (A := blkA g6 50 [.int .u64 (s.i : Int), .int .u64 (s.t : Int), .slice Bn s.b.length cn]) (by repeat first | exact .here _ _ | assumption | apply Pick.there)).pick (A := dskA gd d) (by repeat first | exact .here _ _ | assumption | apply Pick.there)).pick (A := arA ga gd _) (by repeat first | exact .here _ _ | assumption | apply Pick.there))).front3⟩)
                | (have hw := hv1 (by show snE (opI x s.i) (opT x) x.s.body.l ≠ 0; omega)
                   rw [hw.2.1, hw.2.2] at hS
                   exact ⟨ga, c, s, d, Bn, cn, rfl, rfl, hG, hg, hfu, by omega, hF, hBn, hsi, ((((hS.pick (A := blkA g6 50 [.int .u64 (s.i : Int), .int .u64 (s.t : Int), .slice Bn s.b.length cn]) (by repeat first | exact .here _ _ | assumption | apply Pick.there)).pick (A := dskA gd d) (by repeat first | exact .here _ _ | assumption | apply Pick.there)).pick (A := arA ga gd _) (by repeat first | exact .here _ _ | assumption | apply Pick.there))).front3⟩)
            · intro hc43
              have hc43d := of_decide_eq_false hc43
              refine c_skip ?_
              first
                | exact ⟨ga1, c, s, d2, Bn, cn, rfl, rfl, hG2, hg2, hf2, by omega, hF2, hBn, hsi, ((((hS.pick (A := blkA g6 50 [.int .u64 (s.i : Int), .int .u64 (s.t : Int), .slice Bn s.b.length cn]) (by repeat first | exact .here _ _ | assumption | apply Pick.there)).pick (A := dskA gd d2) (by repeat first | exact .here _ _ | assumption | apply Pick.there)).pick (A := arA ga1 gd _) (by repeat first | exact .here _ _ | assumption | apply Pick.there))).front3⟩
                | (obtain ⟨_, c2, d2, e2, e3, hG2, hg2, hf2, hc2, hF2, hp2⟩ := hv3 hE0 hno
                   rw [e2, e3] at hS
                   exact ⟨ga, c2, (⟨opI x s.i, opT x, x.s.body.l⟩ : Sn), d2, x.s.body.A, x.s.body.c, rfl, (congrArg Value.bool (decide_eq_true hp2)).symm, hG2, hg2, hf2, by omega, hF2, hxb, (op_good (now := s.i) hxo).1, ((((hS.pick (A := blkA g6 50 [.int .u64 ((⟨opI x s.i, opT x, x.s.body.l⟩ : Sn).i : Int), .int .u64 ((⟨opI x s.i, opT x, x.s.body.l⟩ : Sn).t : Int), .slice x.s.body.A (⟨opI x s.i, opT x, x.s.body.l⟩ : Sn).b.length x.s.body.c]) (by repeat first | exact .here _ _ | assumption | apply Pick.there)).pick (A := dskA gd d2) (by repeat first | exact .here _ _ | assumption | apply Pick.there)).pick (A := arA ga gd _) (by repeat first | exact .here _ _ | assumption | apply Pick.there))).front3⟩)
                | (rw [hv.2.1, hv.2.2] at hS
                   exact ⟨ga, c, s, d, Bn, cn, rfl, rfl, hG, hg, hfu, by omega, hF, hBn, hsi, ((((hS.pick (A := blkA g6 50 [.int .u64 (s.i : Int), .int .u64 (s.t : Int), .slice Bn s.b.length cn]) (by repeat first | exact .here _ _ | assumption | apply Pick.there)).pick (A := dskA gd d) (by repeat first | exact .here _ _ | assumption | apply Pick.there)).pick (A := arA ga gd _) (by repeat first | exact .here _ _ | assumption | apply Pick.there))).front3⟩)
                | (have hw := hv1 (by show snE (opI x s.i) (opT x) x.s.body.l ≠ 0; omega)
                   rw [hw.2.1, hw.2.2] at hS
                   exact ⟨ga, c, s, d, Bn, cn, rfl, rfl, hG, hg, hfu, by omega, hF, hBn, hsi, ((((hS.pick (A := blkA g6 50 [.int .u64 (s.i : Int), .int .u64 (s.t : Int), .slice Bn s.b.length cn]) (by repeat first | exact .here _ _ | assumption | apply Pick.there)).pick (A := dskA gd d) (by repeat first | exact .here _ _ | assumption | apply Pick.there)).pick (A := arA ga gd _) (by repeat first | exact .here _ _ | assumption | apply Pick.there))).front3⟩)
      ·
        clear hv1 hv2 hv3
        rintro σ w ⟨ga, c, s, d, Bn, cn, h4, h7, hG, hg, hfu, hdc, hF, hBn, hsi, hS⟩
        have hnw : nwS ⟨((4 : Nat) : Int), c, s, false⟩ = s := hF.nw
        refine c_know 4 h4 ?_
        refine c_know 7 h7 ?_
        refine c_seq ?_
        refine c_region ?_
        refine t_q (q_mv (.pointer _) rfl) ?_
        refine t_call Try.call36 (newest_calls hS (by repeat first | exact .here _ _ | assumption | apply Pick.there) (by have := hF.len; show s.b.length ≤ _; omega)) rfl ?_
        rintro e w ⟨A74, c74, rfl, hS⟩
        refine ⟨_, rfl, ?_⟩
        rw [hnw] at hS
        rw [hnw]
        refine t_q (q_mv (.tuple _) rfl) ?_
        refine t_q (q_extract rfl rfl) ?_
        refine t_q (q_extract rfl rfl) ?_
        refine t_alloc Try.zeroValue45 rfl hS (fun g13 w hS => ?_)
        refine t_store (v := (.agg _)) Try.sizeOf45 hS (by repeat first | exact .here _ _ | assumption | apply Pick.there) rfl rfl rfl rfl rfl rfl (fun w hS => ?_)
        replace hS := hS.recast (show blkA g13 45 _ = blkA g13 45 [.int .u64 (s.i : Int), .int .u64 (s.t : Int), .slice A74 s.b.length c74] from rfl)
        refine t_q (q_as (.bool _) rfl) ?_
        refine t_nil ?_
        refine c_seq ?_
        refine c_region ?_
        refine t_q (q_mv (.bool _) rfl) ?_
        refine t_q (q_mv (.bool _) rfl) ?_
        refine t_q (q_cast (v' := .bool false) (q_neq_bool Try.runUnderlying4 rfl rfl) (by simp)) ?_
        refine t_q (q_mv (.bool _) rfl) ?_
        refine t_yes rfl rfl rfl ?_
        refine t_q (q_load_blk Try.isAgg45 Try.sizeOf45 rfl (hS.blk (by repeat first | exact .here _ _ | assumption | apply Pick.there)) rfl) ?_
        refine t_yes rfl rfl rfl ?_
        refine t_q (q_load_blk Try.isAgg50 Try.sizeOf50 rfl (hS.blk (by repeat first | exact .here _ _ | assumption | apply Pick.there)) rfl) ?_
        refine t_yes rfl rfl rfl ?_
        refine t_call Try.call30 (asame_calls (a := s.b) (b := s.b) (hS.rowRd (A := A74) (c := c74) (bs := s.b) (by repeat first | exact .here _ _ | assumption | apply Pick.there) rfl) (Rd.st hBn hS)) rfl ?_
        rintro e w ⟨rfl, hT⟩
        refine ⟨_, rfl, ?_⟩
        replace hS := hS.after hT
        rw [show decide ((s.i : Int) = (s.i : Int) ∧ (s.t : Int) = (s.t : Int) ∧ s.b = s.b) = true from decide_eq_true ⟨rfl, rfl, rfl⟩]
        refine t_yes rfl rfl rfl ?_
        refine t_q (q_cast (v' := .bool false) (q_not rfl) (by rfl)) ?_
        refine t_q (q_pick_f rfl rfl) ?_
        refine t_q (q_mv (.bool _) rfl) ?_
        refine t_yes rfl rfl rfl ?_
        refine t_q (q_mv (.pointer _) rfl) ?_
        refine t_yes rfl rfl rfl ?_
        refine t_call Try.call37 (broken_calls hS (by repeat first | exact .here _ _ | assumption | apply Pick.there)) rfl ?_
        rintro e w ⟨rfl, hS⟩
        refine ⟨_, rfl, ?_⟩
        refine t_q (q_pick_f rfl rfl) ?_
        refine t_nil ?_
        refine c_cond_f rfl rfl ?_
        refine c_skip ?_
        refine c_region ?_
        refine t_q (q_add_i64 rfl rfl (by omega)) ?_
        refine t_q (q_mv (.int _ _) rfl) ?_
        refine t_nil ?_
        exact ⟨k - 1, by omega, j + 1, ga, c, s, d, Bn, cn, rfl, by omega, by omega, rfl, rfl, hG, hg, hfu, by omega, hF, hBn, hsi, ((((hS.pick (A := blkA g6 50 [.int .u64 (s.i : Int), .int .u64 (s.t : Int), .slice Bn s.b.length cn]) (by repeat first | exact .here _ _ | assumption | apply Pick.there)).pick (A := dskA gd d) (by repeat first | exact .here _ _ | assumption | apply Pick.there)).pick (A := arA ga gd ⟨((4 : Nat) : Int), c, s, false⟩) (by repeat first | exact .here _ _ | assumption | apply Pick.there))).front3⟩
    · intro hc10
      have hc10d := of_decide_eq_false hc10
      refine c_exit ?_
      refine ite_t rfl ?_
      refine c_seq ?_
      refine c_region ?_
      refine t_call Try.call26 (alives_calls) rfl ?_
      rintro e w ⟨rfl, hT⟩
      refine ⟨_, rfl, ?_⟩
      replace hS := hS.after hT
      refine t_q (q_as (.bool _) rfl) ?_
      refine t_nil ?_
      refine c_ret ?_
      refine r_one rfl rfl ?_
      exact ⟨rfl, hS.nil⟩
end Go.Proofs.Ytlppgpidakfnlaa
