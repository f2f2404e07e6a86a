/- Whatever is saved, and opened anew, each call tells what the document says: the walk. -/
import Derived.Test.YtlppgpidakfnlaaBk
namespace Go.Proofs.Ytlppgpidakfnlaa
open Go Go.RowKit Go.Lib
variable {W : World}
theorem bs_play {d : Dk} {n : Nat} {c ea : Int} {r : Rc} {t : Nat} {v : Int} (h : BF d n c r) (hG : DGood d) (hg : d.gone = false) (hf : d.fuse < 0) (hn : n ≤ 30) (hea : ea ≤ 1000) :
    (bsArg t v → bsR d (⟨((n : Nat) : Int), c, ea, r, false⟩ : Bl) t v = (2, (⟨((n : Nat) : Int), c, ea, r, false⟩ : Bl), d)) ∧ (¬ bsArg t v → ¬ bsX t v = r → ¬ abv (bsX t v) r → bsR d (⟨((n : Nat) : Int), c, ea, r, false⟩ : Bl) t v = (55, (⟨((n : Nat) : Int), c, ea, r, false⟩ : Bl), d)) ∧
    (¬ bsArg t v → (bsX t v = r ∨ abv (bsX t v) r) → ∃ c' d', bsR d (⟨((n : Nat) : Int), c, ea, r, false⟩ : Bl) t v = (0, (⟨((n : Nat) : Int), c', ea, (bsX t v), false⟩ : Bl), d') ∧ DGood d' ∧ d'.gone = false ∧ d'.fuse < 0 ∧ d'.calls ≤ d.calls + 3 ∧ BF d' n c' (bsX t v)) := by
  refine ⟨fun h1 => bsR_2 rfl h1, fun h1 h2 h3 => bsR_4 rfl h1 h2 h3, fun h1 h2 => ?_⟩
  by_cases hX : bsX t v = r
  · exact ⟨c, d, by rw [bsR_3 rfl h1 hX, hX], hG, hg, hf, by omega, by rw [hX]; exact h⟩
  · rcases h.save (ea := ea) (t := t) (v := v) hG hg hn hea h1 hX (h2.resolve_left hX) with ⟨c', d', e, g1, g2, g3, g4, g5⟩ | ⟨h0, _⟩
    · exact ⟨c', d', e, g1, g2, g3.1 hf, g4, g5⟩
    · omega
theorem bnt {b : Bool} (h : (!b) = true) : b = false := by cases b <;> simp_all
attribute [local irreducible] blkA rowA rdrA rdO dskA blA
set_option maxHeartbeats 2000000 in
set_option maxRecDepth 100000 in
theorem BallotPlays_calls {A : Option Addr} {c0 : Nat} {l : List BOp} {e0 : Int} (he0 : -9223372036854775808 ≤ e0 ∧ e0 ≤ 9223372036854775807) (hl : RdBO W A l) (hok : ∀ x ∈ l, x.Ok W) (hm : l.length ≤ maxLen) : Calls Try.prog 11 #[.int .i64 e0, .slice A l.length c0] W fun e w' => e = .returned (.bool true) ∧ St W w' [] := by
  obtain ⟨ea, hea⟩ : ∃ ea : Int, 16 + (e0 % 18446744073709551616) % 200 = ea := ⟨_, rfl⟩
  have hea2 : 16 ≤ ea ∧ ea ≤ 215 := by omega
  have hS := St.init W
  refine calls_of_wpE (args := [_, _]) Try.func11 rfl rfl rfl ?_
  refine c_seq ?_
  refine c_region ?_
  refine t_q (q_assign) ?_
  refine t_nil ?_
  refine c_seq ?_
  refine c_seq ?_
  refine c_region ?_
  refine t_q (q_mv (.slice _ _ _) rfl) ?_
  refine t_q (q_len_slice Try.runUnderlying83 rfl) ?_
  refine t_q (q_gtr rfl rfl) ?_
  refine t_nil ?_
  refine c_cond rfl ?_ ?_
  · intro hc2
    have hc2d := of_decide_eq_true hc2
    refine c_seq ?_
    refine c_region ?_
    refine t_call Try.call46 (blives_calls) rfl ?_
    rintro e w ⟨rfl, hT⟩
    refine ⟨_, rfl, ?_⟩
    replace hS := hS.after hT
    refine t_q (q_as (.bool _) rfl) ?_
    refine t_nil ?_
    refine c_ret ?_
    refine r_one rfl rfl ?_
    exact ⟨rfl, hS.nil⟩
  · intro hc2
    have hc2d := of_decide_eq_false hc2
    have h100 : l.length ≤ 100 := by omega
    refine c_skip ?_
    refine c_seq ?_
    refine c_region ?_
    refine t_q (q_mv (.int _ _) rfl) ?_
    first | refine t_q (q_conv_u64 Try.runUnderlying3 Try.runUnderlying84 rfl (by omega)) ?_ | refine t_q (q_convm_u64 Try.runUnderlying3 Try.runUnderlying84 rfl) ?_
    refine t_q (q_rem_n rfl rfl (by omega) (by omega)) ?_
    refine t_q (q_conv_i64 Try.runUnderlying84 Try.runUnderlying3 rfl (by omega)) ?_
    refine t_q (q_cast (v' := .int .i64 ea) (q_add_i64 rfl rfl (by omega)) (by rw [← hea])) ?_
    refine t_q (q_as (.int _ _) rfl) ?_
    refine t_nil ?_
    refine c_seq ?_
    refine c_region ?_
    refine t_call Try.call32 (dnew_calls hS) rfl ?_
    rintro e w ⟨gd, rfl, hS⟩
    refine ⟨_, rfl, ?_⟩
    refine t_q (q_as (.pointer _) rfl) ?_
    refine t_nil ?_
    refine c_seq ?_
    refine c_region ?_
    refine t_q (q_mv (.pointer _) rfl) ?_
    refine t_q (q_mv (.int _ _) rfl) ?_
    refine t_call Try.call47 (bopen_calls (d := D0) (n := 2) (ea := ea) hS (by decide) ⟨by omega, by omega⟩ D0k.1 D0k.2.1 D0k.2.2.1 (by decide) (by rw [(BF.zero (n := 2)).opens])) rfl ?_
    rintro e w ⟨gt0, rfl, hS⟩
    refine ⟨_, rfl, ?_⟩
    obtain ⟨_, _, d1, e1, hG1, hg1, hf1, hc1, hF1⟩ := bop_again (BF.zero (n := 2)) D0k.1 D0k.2.1 D0k.2.2.1 (by decide)
    rw [e1] at hS
    replace hS := (hS.pick (A := blA gt0 gd _) (by repeat first | exact .here _ _ | assumption | apply Pick.there)).recast (show _ = blA gt0 gd (⟨((2 : Nat) : Int), 0, ea, (0, 0), false⟩ : Bl) from by rw [(BF.zero (n := 2)).opens]; rfl)
    have hd0 := D0k.2.2
    refine t_q (q_mv (.tuple _) rfl) ?_
    refine t_q (q_extract rfl rfl) ?_
    refine t_q (q_extract rfl rfl) ?_
    refine t_q (q_as (.pointer _) rfl) ?_
    refine t_q (q_as (.int _ _) rfl) ?_
    refine t_nil ?_
    refine c_seq ?_
    refine c_seq ?_
    refine c_region ?_
    refine t_q (q_mv (.int _ _) rfl) ?_
    refine t_q (q_cast (v' := .bool false) (q_neq rfl rfl) (by rfl)) ?_
    refine t_nil ?_
    refine c_cond_f rfl rfl ?_
    refine c_skip ?_
    refine c_seq ?_
    refine c_region ?_
    refine t_q (q_build (qs := [(0, 1), (1, 1)]) [(.int _ _), (.int _ _)] Try.zeroValue89 Try.runUnderlying89 ⟨rfl, Try.sizeOf43, rfl, Try.sizeOf43, trivial⟩ rfl rfl) ?_
    refine t_alloc Try.zeroValue89 rfl hS (fun g8 w hS => ?_)
    refine t_store (v := (.agg _)) Try.sizeOf89 hS (by repeat first | exact .here _ _ | assumption | apply Pick.there) rfl rfl rfl rfl rfl rfl (fun w hS => ?_)
    replace hS := hS.recast (show blkA g8 89 _ = blkA g8 89 [.int .u64 ((((0, 0) : Rc)).1 : Int), .int .u64 ((((0, 0) : Rc)).2 : Int)] from rfl)
    refine t_nil ?_
    refine c_seq ?_
    refine c_seq ?_
    refine c_region ?_
    refine t_q (q_mv (.slice _ _ _) rfl) ?_
    refine t_q (q_len_slice Try.runUnderlying83 rfl) ?_
    refine t_q (q_move) ?_
    refine t_nil ?_
    refine c_block ?_
    refine c_loop [4, 6, 7, 10, 11, 12, 13, 14, 15, 16, 38, 39, 40, 41, 42, 43, 44, 45, 46, 47, 48, 49, 50, 51, 52, 53, 54, 55, 56, 57, 58, 59, 60, 61, 62, 63, 64, 65, 66, 67, 68, 69, 70, 71, 72, 73, 74, 75, 76, 77, 78, 79, 80, 81, 82, 83, 84, 85, 86, 87, 88, 89, 90, 91, 92, 93, 94, 95, 96, 97, 98, 99, 100, 101, 102, 103, 104, 105, 106, 107, 108, 109, 110, 111, 112, 113, 114, 115, 116, 117, 118, 119, 120, 121, 122, 123, 124, 125, 126, 127, 128, 129, 130, 131, 132, 133, 134, 135, 136, 137, 138, 139, 140, 141] (fun k σ w => ∃ (j : Nat) (gt : Nat) (c : Int) (r : Rc) (d : Dk), σ 38 = .int .i64 (j : Int) ∧ j ≤ l.length ∧ l.length - j ≤ k ∧ σ 6 = .pointer (some ⟨gt, 0, none⟩) ∧ DGood d ∧ d.gone = false ∧ d.fuse < 0 ∧ d.calls ≤ 8 * (j : Int) + 4 ∧ BF d 2 c r ∧ St W w [blA gt gd (⟨((2 : Nat) : Int), c, ea, r, false⟩ : Bl), dskA gd d, blkA g8 89 [.int .u64 ((r).1 : Int), .int .u64 ((r).2 : Int)]]) (l.length) rfl (⟨0, gt0, 0, (0, 0), d1, rfl, by omega, by omega, rfl, hG1, hg1, by omega, by omega, hF1, ((((hS.pick (A := blkA g8 89 _) (by repeat first | exact .here _ _ | assumption | apply Pick.there)).pick (A := dskA gd d1) (by repeat first | exact .here _ _ | assumption | apply Pick.there)).pick (A := blA gt0 gd _) (by repeat first | exact .here _ _ | assumption | apply Pick.there)))⟩) ?_
    skip
    rintro k σ w ⟨j, gt, c, r, d, h38, hj, hk, h6, hG, hg, hfu, hdc, hF, hS⟩
    refine c_know 38 h38 ?_
    refine c_know 6 h6 ?_
    clear h38 h6
    have hok2 := hF.ok
    have hok3 : r.1 ≤ 4611686018427387904 ∧ r.2 ≤ 7 := ⟨hok2.1, hok2.2⟩
    refine c_seq ?_
    refine c_region ?_
    refine t_q (q_lss rfl rfl) ?_
    refine t_nil ?_
    refine c_seq ?_
    refine c_cond rfl ?_ ?_
    · intro hc10
      have hc10d := of_decide_eq_true hc10
      refine c_skip ?_
      refine c_seq ?_
      refine c_block ?_
      refine c_seq ?_
      refine c_region ?_
      first | refine t_index_nat Try.runUnderlying83 Try.sizeOf91 (hl.st hS) rfl rfl (by omega) (fun ad11 hl11 hx11 => ?_) | refine t_index Try.runUnderlying83 Try.sizeOf91 (hl.st hS) rfl rfl (by omega) (fun ad11 hl11 hx11 => ?_)
      refine t_q (q_loadN Try.isAgg91 Try.sizeOf91 rfl hl11 hx11) ?_
      refine t_alloc Try.zeroValue91 rfl hS (fun g10 w hS => ?_)
      refine t_store (v := (.agg _)) Try.sizeOf91 hS (by repeat first | exact .here _ _ | assumption | apply Pick.there) rfl rfl rfl rfl rfl rfl (fun w hS => ?_)
      obtain ⟨x, hx⟩ : ∃ x, x = (l.getD j default) := ⟨_, rfl⟩
      replace hS := hS.recast (show blkA g10 91 _ = blkA g10 91 x.cells from by rw [hx]; rfl)
      have hxo : x.Ok W := by rw [hx]; exact hok _ (getD_mem (by omega))
      have hxv := hxo.vote
      obtain ⟨hb1, hb3, hb4⟩ := bs_play (ea := ea) (t := opTm x r.1) (v := x.vote) hF hG hg hfu (by decide) (by omega)
      refine t_nil ?_
      refine c_cut [4, 6, 7, 11, 12, 13, 42, 43, 44, 45, 46, 47, 48, 49, 50, 51, 52, 53, 54, 55, 56, 57, 58, 59, 60, 61, 62, 63, 64, 65, 66, 67, 68, 69, 70, 71, 72, 73, 74, 75, 76, 77, 78, 79, 80, 81, 82, 83, 84, 85, 86, 87, 88, 89, 90, 91, 92, 93, 94, 95] (fun σ w => ∃ (gt : Nat) (c : Int) (r : Rc) (d : Dk), σ 6 = .pointer (some ⟨gt, 0, none⟩) ∧ DGood d ∧ d.gone = false ∧ d.fuse < 0 ∧ d.calls ≤ 8 * (j : Int) + 8 ∧ BF d 2 c r ∧ St W w [blA gt gd (⟨((2 : Nat) : Int), c, ea, r, false⟩ : Bl), dskA gd d, blkA g8 89 [.int .u64 ((r).1 : Int), .int .u64 ((r).2 : Int)]]) rfl ?_ ?_
      ·
        refine c_seq ?_
        refine c_region ?_
        refine t_q (q_fieldAddr 0 Try.runUnderlying91 rfl Try.sizeOf3 (by decide) rfl rfl) ?_
        refine t_q (q_load1 Try.isAgg3 rfl (hS.cell (by repeat first | exact .here _ _ | assumption | apply Pick.there) rfl)) ?_
        refine t_q (q_eql rfl rfl) ?_
        refine t_nil ?_
        refine c_cond rfl ?_ ?_
        · intro hc13
          have hc13d := of_decide_eq_true hc13
          refine c_seq ?_
          refine c_region ?_
          refine t_q (q_mv (.pointer _) rfl) ?_
          refine t_q (q_mv (.int _ _) rfl) ?_
          refine t_call Try.call47 (bopen_calls (d := d) (n := 2) (ea := ea) ((hS.pick (A := dskA gd d) (by repeat first | exact .here _ _ | assumption | apply Pick.there))) (by decide) ⟨by omega, by omega⟩ hG hg hfu (by omega) (by rw [hF.opens])) rfl ?_
          rintro e w ⟨gt1, rfl, hS⟩
          refine ⟨_, rfl, ?_⟩
          obtain ⟨e0', e1', d2, e2', hG2, hg2, hf2, hc2, hF2⟩ := bop_again hF hG hg hfu (by decide)
          rw [e2'] at hS
          replace hS := (hS.pick (A := blA gt1 gd _) (by repeat first | exact .here _ _ | assumption | apply Pick.there)).recast (show _ = blA gt1 gd (⟨((2 : Nat) : Int), c, ea, r, false⟩ : Bl) from by rw [e1', e0'])
          refine t_q (q_mv (.tuple _) rfl) ?_
          refine t_q (q_extract rfl rfl) ?_
          refine t_q (q_extract rfl rfl) ?_
          refine t_q (q_as (.pointer _) rfl) ?_
          refine t_q (q_as (.int _ _) rfl) ?_
          refine t_nil ?_
          refine c_seq ?_
          refine c_region ?_
          refine t_q (q_mv (.int _ _) rfl) ?_
          refine t_q (q_cast (v' := .bool false) (q_neq rfl rfl) (by rfl)) ?_
          refine t_nil ?_
          refine c_cond_f rfl rfl ?_
          refine c_skip ?_
          first
            | exact ⟨gt1, c, r, d2, rfl, hG2, hg2, by omega, by omega, hF2, ((((hS.pick (A := blkA g8 89 [.int .u64 ((r).1 : Int), .int .u64 ((r).2 : Int)]) (by repeat first | exact .here _ _ | assumption | apply Pick.there)).pick (A := dskA gd d2) (by repeat first | exact .here _ _ | assumption | apply Pick.there)).pick (A := blA gt1 gd (⟨((2 : Nat) : Int), c, ea, r, false⟩ : Bl)) (by repeat first | exact .here _ _ | assumption | apply Pick.there))).front3⟩
            | exact ⟨gt, c2, (bsX (opTm x r.1) x.vote), d2, rfl, hG2, hg2, hf2, by omega, hF2, ((((hS.pick (A := blkA g8 89 [.int .u64 (((bsX (opTm x r.1) x.vote)).1 : Int), .int .u64 (((bsX (opTm x r.1) x.vote)).2 : Int)]) (by repeat first | exact .here _ _ | assumption | apply Pick.there)).pick (A := dskA gd _) (by repeat first | exact .here _ _ | assumption | apply Pick.there)).pick (A := blA gt gd _) (by repeat first | exact .here _ _ | assumption | apply Pick.there))).front3⟩
        · intro hc13
          have hc13d := of_decide_eq_false hc13
          refine c_seq ?_
          refine c_region ?_
          refine t_q (q_load_blk Try.isAgg91 Try.sizeOf91 rfl (hS.blk (by repeat first | exact .here _ _ | assumption | apply Pick.there)) rfl) ?_
          refine t_q (q_fieldAddr 0 Try.runUnderlying89 rfl Try.sizeOf43 (by decide) rfl rfl) ?_
          refine t_q (q_load1 Try.isAgg43 rfl (hS.cell (by repeat first | exact .here _ _ | assumption | apply Pick.there) rfl)) ?_
          refine t_call Try.call48 (opterm_calls (now := r.1) hxo (by have := hF.ok.1; unfold mI at this; omega)) rfl ?_
          rintro e w ⟨rfl, hT⟩
          refine ⟨_, rfl, ?_⟩
          replace hS := hS.after hT
          refine t_q (q_as (.int _ _) rfl) ?_
          refine t_nil ?_
          refine c_seq ?_
          refine c_region ?_
          refine t_q (q_mv (.pointer _) rfl) ?_
          refine t_q (q_mv (.int _ _) rfl) ?_
          refine t_q (q_fieldAddr 4 Try.runUnderlying91 rfl Try.sizeOf3 (by decide) rfl rfl) ?_
          refine t_q (q_load1 Try.isAgg3 rfl (hS.cell (by repeat first | exact .here _ _ | assumption | apply Pick.there) rfl)) ?_
          refine t_call Try.call49 (bsave_calls (b := (⟨((2 : Nat) : Int), c, ea, r, false⟩ : Bl)) (d := d) (t := opTm x r.1) (v := x.vote) (((hS.pick (A := dskA gd d) (by repeat first | exact .here _ _ | assumption | apply Pick.there)).pick (A := blA gt gd (⟨((2 : Nat) : Int), c, ea, r, false⟩ : Bl)) (by repeat first | exact .here _ _ | assumption | apply Pick.there))) hF.c2 (opTm_lt hxo _) hxv hF.ok hG (by omega) (show (0 : Int) ≤ ((2 : Nat) : Int) ∧ ((2 : Nat) : Int) ≤ 30 by decide)) rfl ?_
          rintro e w ⟨rfl, hS⟩
          refine ⟨_, rfl, ?_⟩
          refine t_q (q_as (.int _ _) rfl) ?_
          refine t_nil ?_
          refine c_seq ?_
          refine c_seq ?_
          refine c_region ?_
          refine t_q (q_mv (.int _ _) rfl) ?_
          refine t_q (q_gtr rfl rfl) ?_
          refine t_q (q_mv (.bool _) rfl) ?_
          refine t_case 64 rfl ?_ ?_
          · intro hg21
            have hg21d := of_decide_eq_true hg21
            refine t_no rfl rfl (by rw [hg21]; decide) ?_
            refine t_no rfl rfl (by rw [hg21]; decide) ?_
            refine t_no rfl rfl (by rw [hg21]; decide) ?_
            refine t_q (q_pick_t rfl hg21) ?_
            refine t_q (q_mv (.bool _) rfl) ?_
            refine t_no rfl rfl (by decide) ?_
            refine t_no rfl rfl (by decide) ?_
            refine t_no rfl rfl (by decide) ?_
            refine t_q (q_pick_t rfl rfl) ?_
            refine t_nil ?_
            refine c_cond_t rfl rfl ?_
            have harg : bsArg (opTm x r.1) x.vote := by unfold bsArg; omega
            refine c_seq ?_
            refine c_seq ?_
            refine c_region ?_
            refine t_q (q_mv (.int _ _) rfl) ?_
            refine t_q (q_cast (v' := .bool false) (q_neq rfl rfl) (by rw [hb1 harg]; rfl)) ?_
            refine t_nil ?_
            refine c_cond_f rfl rfl ?_
            refine c_skip ?_
            refine c_exit ?_
            refine ite_t rfl ?_
            refine c_region ?_
            refine t_q (q_add_i64 rfl rfl (by omega)) ?_
            refine t_q (q_mv (.int _ _) rfl) ?_
            refine t_nil ?_
            first
              | (rw [hb1 harg] at hS
                 exact ⟨k - 1, by omega, j + 1, gt, c, r, d, rfl, by omega, by omega, rfl, hG, hg, hfu, by omega, hF, ((((hS.pick (A := blkA g8 89 [.int .u64 ((r).1 : Int), .int .u64 ((r).2 : Int)]) (by repeat first | exact .here _ _ | assumption | apply Pick.there)).pick (A := dskA gd d) (by repeat first | exact .here _ _ | assumption | apply Pick.there)).pick (A := blA gt gd (⟨((2 : Nat) : Int), c, ea, r, false⟩ : Bl)) (by repeat first | exact .here _ _ | assumption | apply Pick.there))).front3⟩)
              | (rw [hb3 harg hX hA] at hS
                 exact ⟨k - 1, by omega, j + 1, gt, c, r, d, rfl, by omega, by omega, rfl, hG, hg, hfu, by omega, hF, ((((hS.pick (A := blkA g8 89 [.int .u64 ((r).1 : Int), .int .u64 ((r).2 : Int)]) (by repeat first | exact .here _ _ | assumption | apply Pick.there)).pick (A := dskA gd d) (by repeat first | exact .here _ _ | assumption | apply Pick.there)).pick (A := blA gt gd (⟨((2 : Nat) : Int), c, ea, r, false⟩ : Bl)) (by repeat first | exact .here _ _ | assumption | apply Pick.there))).front3⟩)
              | exact ⟨k - 1, by omega, j + 1, gt, c, r, d, rfl, by omega, by omega, rfl, hG, hg, hfu, by omega, hF, ((((hS.pick (A := blkA g8 89 [.int .u64 ((r).1 : Int), .int .u64 ((r).2 : Int)]) (by repeat first | exact .here _ _ | assumption | apply Pick.there)).pick (A := dskA gd d) (by repeat first | exact .here _ _ | assumption | apply Pick.there)).pick (A := blA gt gd (⟨((2 : Nat) : Int), c, ea, r, false⟩ : Bl)) (by repeat first | exact .here _ _ | assumption | apply Pick.there))).front3⟩
          · intro hg21
            have hg21d := of_decide_eq_false hg21
            refine t_yes rfl rfl hg21 ?_
            refine t_q (q_fieldAddr 4 Try.runUnderlying91 rfl Try.sizeOf3 (by decide) rfl rfl) ?_
            refine t_yes rfl rfl hg21 ?_
            refine t_q (q_load1 Try.isAgg3 rfl (hS.cell (by repeat first | exact .here _ _ | assumption | apply Pick.there) rfl)) ?_
            refine t_yes rfl rfl hg21 ?_
            refine t_q (q_lss rfl rfl) ?_
            refine t_q (q_pick_f rfl hg21) ?_
            refine t_q (q_mv (.bool _) rfl) ?_
            refine t_case 69 rfl ?_ ?_
            · intro hg24
              have hg24d := of_decide_eq_true hg24
              refine t_no rfl rfl (by rw [hg24]; decide) ?_
              refine t_no rfl rfl (by rw [hg24]; decide) ?_
              refine t_no rfl rfl (by rw [hg24]; decide) ?_
              refine t_q (q_pick_t rfl hg24) ?_
              refine t_nil ?_
              refine c_cond_t rfl rfl ?_
              have harg : bsArg (opTm x r.1) x.vote := by unfold bsArg; omega
              refine c_seq ?_
              refine c_seq ?_
              refine c_region ?_
              refine t_q (q_mv (.int _ _) rfl) ?_
              refine t_q (q_cast (v' := .bool false) (q_neq rfl rfl) (by rw [hb1 harg]; rfl)) ?_
              refine t_nil ?_
              refine c_cond_f rfl rfl ?_
              refine c_skip ?_
              refine c_exit ?_
              refine ite_t rfl ?_
              refine c_region ?_
              refine t_q (q_add_i64 rfl rfl (by omega)) ?_
              refine t_q (q_mv (.int _ _) rfl) ?_
              refine t_nil ?_
              first
                | (rw [hb1 harg] at hS
                   exact ⟨k - 1, by omega, j + 1, gt, c, r, d, rfl, by omega, by omega, rfl, hG, hg, hfu, by omega, hF, ((((hS.pick (A := blkA g8 89 [.int .u64 ((r).1 : Int), .int .u64 ((r).2 : Int)]) (by repeat first | exact .here _ _ | assumption | apply Pick.there)).pick (A := dskA gd d) (by repeat first | exact .here _ _ | assumption | apply Pick.there)).pick (A := blA gt gd (⟨((2 : Nat) : Int), c, ea, r, false⟩ : Bl)) (by repeat first | exact .here _ _ | assumption | apply Pick.there))).front3⟩)
                | (rw [hb3 harg hX hA] at hS
                   exact ⟨k - 1, by omega, j + 1, gt, c, r, d, rfl, by omega, by omega, rfl, hG, hg, hfu, by omega, hF, ((((hS.pick (A := blkA g8 89 [.int .u64 ((r).1 : Int), .int .u64 ((r).2 : Int)]) (by repeat first | exact .here _ _ | assumption | apply Pick.there)).pick (A := dskA gd d) (by repeat first | exact .here _ _ | assumption | apply Pick.there)).pick (A := blA gt gd (⟨((2 : Nat) : Int), c, ea, r, false⟩ : Bl)) (by repeat first | exact .here _ _ | assumption | apply Pick.there))).front3⟩)
                | exact ⟨k - 1, by omega, j + 1, gt, c, r, d, rfl, by omega, by omega, rfl, hG, hg, hfu, by omega, hF, ((((hS.pick (A := blkA g8 89 [.int .u64 ((r).1 : Int), .int .u64 ((r).2 : Int)]) (by repeat first | exact .here _ _ | assumption | apply Pick.there)).pick (A := dskA gd d) (by repeat first | exact .here _ _ | assumption | apply Pick.there)).pick (A := blA gt gd (⟨((2 : Nat) : Int), c, ea, r, false⟩ : Bl)) (by repeat first | exact .here _ _ | assumption | apply Pick.there))).front3⟩
            · intro hg24
              have hg24d := of_decide_eq_false hg24
              refine t_yes rfl rfl hg24 ?_
              refine t_q (q_fieldAddr 4 Try.runUnderlying91 rfl Try.sizeOf3 (by decide) rfl rfl) ?_
              refine t_yes rfl rfl hg24 ?_
              refine t_q (q_load1 Try.isAgg3 rfl (hS.cell (by repeat first | exact .here _ _ | assumption | apply Pick.there) rfl)) ?_
              refine t_yes rfl rfl hg24 ?_
              refine t_q (q_geq rfl rfl) ?_
              refine t_q (q_pick_f rfl hg24) ?_
              refine t_nil ?_
              refine c_cond rfl ?_ ?_
              · intro hc27
                have hc27d := of_decide_eq_true hc27
                have harg : bsArg (opTm x r.1) x.vote := by unfold bsArg; omega
                refine c_seq ?_
                refine c_seq ?_
                refine c_region ?_
                refine t_q (q_mv (.int _ _) rfl) ?_
                refine t_q (q_cast (v' := .bool false) (q_neq rfl rfl) (by rw [hb1 harg]; rfl)) ?_
                refine t_nil ?_
                refine c_cond_f rfl rfl ?_
                refine c_skip ?_
                refine c_exit ?_
                refine ite_t rfl ?_
                refine c_region ?_
                refine t_q (q_add_i64 rfl rfl (by omega)) ?_
                refine t_q (q_mv (.int _ _) rfl) ?_
                refine t_nil ?_
                first
                  | (rw [hb1 harg] at hS
                     exact ⟨k - 1, by omega, j + 1, gt, c, r, d, rfl, by omega, by omega, rfl, hG, hg, hfu, by omega, hF, ((((hS.pick (A := blkA g8 89 [.int .u64 ((r).1 : Int), .int .u64 ((r).2 : Int)]) (by repeat first | exact .here _ _ | assumption | apply Pick.there)).pick (A := dskA gd d) (by repeat first | exact .here _ _ | assumption | apply Pick.there)).pick (A := blA gt gd (⟨((2 : Nat) : Int), c, ea, r, false⟩ : Bl)) (by repeat first | exact .here _ _ | assumption | apply Pick.there))).front3⟩)
                  | (rw [hb3 harg hX hA] at hS
                     exact ⟨k - 1, by omega, j + 1, gt, c, r, d, rfl, by omega, by omega, rfl, hG, hg, hfu, by omega, hF, ((((hS.pick (A := blkA g8 89 [.int .u64 ((r).1 : Int), .int .u64 ((r).2 : Int)]) (by repeat first | exact .here _ _ | assumption | apply Pick.there)).pick (A := dskA gd d) (by repeat first | exact .here _ _ | assumption | apply Pick.there)).pick (A := blA gt gd (⟨((2 : Nat) : Int), c, ea, r, false⟩ : Bl)) (by repeat first | exact .here _ _ | assumption | apply Pick.there))).front3⟩)
                  | exact ⟨k - 1, by omega, j + 1, gt, c, r, d, rfl, by omega, by omega, rfl, hG, hg, hfu, by omega, hF, ((((hS.pick (A := blkA g8 89 [.int .u64 ((r).1 : Int), .int .u64 ((r).2 : Int)]) (by repeat first | exact .here _ _ | assumption | apply Pick.there)).pick (A := dskA gd d) (by repeat first | exact .here _ _ | assumption | apply Pick.there)).pick (A := blA gt gd (⟨((2 : Nat) : Int), c, ea, r, false⟩ : Bl)) (by repeat first | exact .here _ _ | assumption | apply Pick.there))).front3⟩
              · intro hc27
                have hc27d := of_decide_eq_false hc27
                have harg : ¬ bsArg (opTm x r.1) x.vote := by unfold bsArg; omega
                have harg2 : -1 ≤ x.vote ∧ x.vote ≤ 6 := by unfold bsArg at harg; omega
                refine c_skip ?_
                refine c_seq ?_
                refine c_region ?_
                refine t_q (q_mv (.int _ _) rfl) ?_
                refine t_q (q_fieldAddr 4 Try.runUnderlying91 rfl Try.sizeOf3 (by decide) rfl rfl) ?_
                refine t_q (q_load1 Try.isAgg3 rfl (hS.cell (by repeat first | exact .here _ _ | assumption | apply Pick.there) rfl)) ?_
                refine t_q (q_add_i64 rfl rfl (by omega)) ?_
                refine t_q (q_cast (v' := .int .u64 ((x.vote + 1).toNat : Int)) (q_conv_u64 Try.runUnderlying3 Try.runUnderlying43 rfl (by omega)) (by congr 1; omega)) ?_
                refine t_q (q_build (qs := [(0, 1), (1, 1)]) [(.int _ _), (.int _ _)] Try.zeroValue89 Try.runUnderlying89 ⟨rfl, Try.sizeOf43, rfl, Try.sizeOf43, trivial⟩ rfl rfl) ?_
                refine t_alloc Try.zeroValue89 rfl hS (fun g13 w hS => ?_)
                refine t_store (v := (.agg _)) Try.sizeOf89 hS (by repeat first | exact .here _ _ | assumption | apply Pick.there) rfl rfl rfl rfl rfl rfl (fun w hS => ?_)
                replace hS := hS.recast (show blkA g13 89 _ = blkA g13 89 [.int .u64 (((bsX (opTm x r.1) x.vote)).1 : Int), .int .u64 (((bsX (opTm x r.1) x.vote)).2 : Int)] from rfl)
                refine t_nil ?_
                refine c_seq ?_
                refine c_seq ?_
                refine c_region ?_
                refine t_q (q_load_blk Try.isAgg89 Try.sizeOf89 rfl (hS.blk (by repeat first | exact .here _ _ | assumption | apply Pick.there)) rfl) ?_
                refine t_q (q_load_blk Try.isAgg89 Try.sizeOf89 rfl (hS.blk (by repeat first | exact .here _ _ | assumption | apply Pick.there)) rfl) ?_
                refine t_q (rc_ne89 (e := (bsX (opTm x r.1) x.vote)) (q := r) rfl rfl (bsX_ok harg) hF.ok) ?_
                refine t_q (q_mv (.bool _) rfl) ?_
                refine t_case 85 rfl ?_ ?_
                · intro hg30
                  refine t_yes rfl rfl hg30 ?_
                  refine t_q (q_load_blk Try.isAgg89 Try.sizeOf89 rfl (hS.blk (by repeat first | exact .here _ _ | assumption | apply Pick.there)) rfl) ?_
                  refine t_yes rfl rfl hg30 ?_
                  refine t_q (q_load_blk Try.isAgg89 Try.sizeOf89 rfl (hS.blk (by repeat first | exact .here _ _ | assumption | apply Pick.there)) rfl) ?_
                  refine t_yes rfl rfl hg30 ?_
                  refine t_call Try.call50 (qabv_calls (r := (bsX (opTm x r.1) x.vote)) (x := r)) rfl ?_
                  rintro e w ⟨rfl, hT⟩
                  refine ⟨_, rfl, ?_⟩
                  replace hS := hS.after hT
                  refine t_yes rfl rfl hg30 ?_
                  refine t_q (q_not rfl) ?_
                  refine t_q (q_pick_t rfl hg30) ?_
                  refine t_nil ?_
                  refine c_cond rfl ?_ ?_
                  · intro hc32
                    have hX : ¬ (bsX (opTm x r.1) x.vote) = r := of_decide_eq_false (bnt (by assumption))
                    have hA : ¬ abv (bsX (opTm x r.1) x.vote) r := of_decide_eq_false (bnt (by assumption))
                    refine c_seq ?_
                    refine c_seq ?_
                    refine c_region ?_
                    refine t_q (q_mv (.int _ _) rfl) ?_
                    refine t_q (q_cast (v' := .bool false) (q_neq rfl rfl) (by rw [hb3 harg hX hA]; rfl)) ?_
                    refine t_nil ?_
                    refine c_cond_f rfl rfl ?_
                    refine c_skip ?_
                    refine c_exit ?_
                    refine ite_t rfl ?_
                    refine c_region ?_
                    refine t_q (q_add_i64 rfl rfl (by omega)) ?_
                    refine t_q (q_mv (.int _ _) rfl) ?_
                    refine t_nil ?_
                    first
                      | (rw [hb1 harg] at hS
                         exact ⟨k - 1, by omega, j + 1, gt, c, r, d, rfl, by omega, by omega, rfl, hG, hg, hfu, by omega, hF, ((((hS.pick (A := blkA g8 89 [.int .u64 ((r).1 : Int), .int .u64 ((r).2 : Int)]) (by repeat first | exact .here _ _ | assumption | apply Pick.there)).pick (A := dskA gd d) (by repeat first | exact .here _ _ | assumption | apply Pick.there)).pick (A := blA gt gd (⟨((2 : Nat) : Int), c, ea, r, false⟩ : Bl)) (by repeat first | exact .here _ _ | assumption | apply Pick.there))).front3⟩)
                      | (rw [hb3 harg hX hA] at hS
                         exact ⟨k - 1, by omega, j + 1, gt, c, r, d, rfl, by omega, by omega, rfl, hG, hg, hfu, by omega, hF, ((((hS.pick (A := blkA g8 89 [.int .u64 ((r).1 : Int), .int .u64 ((r).2 : Int)]) (by repeat first | exact .here _ _ | assumption | apply Pick.there)).pick (A := dskA gd d) (by repeat first | exact .here _ _ | assumption | apply Pick.there)).pick (A := blA gt gd (⟨((2 : Nat) : Int), c, ea, r, false⟩ : Bl)) (by repeat first | exact .here _ _ | assumption | apply Pick.there))).front3⟩)
                      | exact ⟨k - 1, by omega, j + 1, gt, c, r, d, rfl, by omega, by omega, rfl, hG, hg, hfu, by omega, hF, ((((hS.pick (A := blkA g8 89 [.int .u64 ((r).1 : Int), .int .u64 ((r).2 : Int)]) (by repeat first | exact .here _ _ | assumption | apply Pick.there)).pick (A := dskA gd d) (by repeat first | exact .here _ _ | assumption | apply Pick.there)).pick (A := blA gt gd (⟨((2 : Nat) : Int), c, ea, r, false⟩ : Bl)) (by repeat first | exact .here _ _ | assumption | apply Pick.there))).front3⟩
                  · intro hc32
                    obtain ⟨c2, d2, hb, hG2, hg2, hf2, hc2, hF2⟩ := hb4 harg (by
                      first
                        | exact .inl (of_decide_eq_true (not_back (by assumption) : decide ((bsX (opTm x r.1) x.vote) = r) = true))
                        | exact .inr (of_decide_eq_true (not_back (by assumption) : decide (abv (bsX (opTm x r.1) x.vote) r) = true)))
                    rw [hb] at hS
                    refine c_skip ?_
                    refine c_seq ?_
                    refine c_seq ?_
                    refine c_region ?_
                    refine t_q (q_mv (.int _ _) rfl) ?_
                    refine t_q (q_cast (v' := .bool false) (q_neq rfl rfl) (by rw [hb]; rfl)) ?_
                    refine t_nil ?_
                    refine c_cond_f rfl rfl ?_
                    refine c_skip ?_
                    refine c_region ?_
                    refine t_q (q_load_blk Try.isAgg89 Try.sizeOf89 rfl (hS.blk (by repeat first | exact .here _ _ | assumption | apply Pick.there)) rfl) ?_
                    refine t_store (v := (.agg _)) Try.sizeOf89 hS (by repeat first | exact .here _ _ | assumption | apply Pick.there) rfl rfl rfl rfl rfl rfl (fun w hS => ?_)
                    replace hS := hS.recast (show blkA g8 89 _ = blkA g8 89 [.int .u64 (((bsX (opTm x r.1) x.vote)).1 : Int), .int .u64 (((bsX (opTm x r.1) x.vote)).2 : Int)] from rfl)
                    refine t_nil ?_
                    first
                      | exact ⟨gt1, c, r, d2, rfl, hG2, hg2, by omega, by omega, hF2, ((((hS.pick (A := blkA g8 89 [.int .u64 ((r).1 : Int), .int .u64 ((r).2 : Int)]) (by repeat first | exact .here _ _ | assumption | apply Pick.there)).pick (A := dskA gd d2) (by repeat first | exact .here _ _ | assumption | apply Pick.there)).pick (A := blA gt1 gd (⟨((2 : Nat) : Int), c, ea, r, false⟩ : Bl)) (by repeat first | exact .here _ _ | assumption | apply Pick.there))).front3⟩
                      | exact ⟨gt, c2, (bsX (opTm x r.1) x.vote), d2, rfl, hG2, hg2, hf2, by omega, hF2, ((((hS.pick (A := blkA g8 89 [.int .u64 (((bsX (opTm x r.1) x.vote)).1 : Int), .int .u64 (((bsX (opTm x r.1) x.vote)).2 : Int)]) (by repeat first | exact .here _ _ | assumption | apply Pick.there)).pick (A := dskA gd _) (by repeat first | exact .here _ _ | assumption | apply Pick.there)).pick (A := blA gt gd _) (by repeat first | exact .here _ _ | assumption | apply Pick.there))).front3⟩
                · intro hg30
                  refine t_no rfl rfl (by rw [hg30]; decide) ?_
                  refine t_no rfl rfl (by rw [hg30]; decide) ?_
                  refine t_no rfl rfl (by rw [hg30]; decide) ?_
                  refine t_no rfl rfl (by rw [hg30]; decide) ?_
                  refine t_q (q_pick_f rfl hg30) ?_
                  refine t_nil ?_
                  refine c_cond_f rfl rfl ?_
                  obtain ⟨c2, d2, hb, hG2, hg2, hf2, hc2, hF2⟩ := hb4 harg (by
                    first
                      | exact .inl (of_decide_eq_true (not_back (by assumption) : decide ((bsX (opTm x r.1) x.vote) = r) = true))
                      | exact .inr (of_decide_eq_true (not_back (by assumption) : decide (abv (bsX (opTm x r.1) x.vote) r) = true)))
                  rw [hb] at hS
                  refine c_skip ?_
                  refine c_seq ?_
                  refine c_seq ?_
                  refine c_region ?_
                  refine t_q (q_mv (.int _ _) rfl) ?_
                  refine t_q (q_cast (v' := .bool false) (q_neq rfl rfl) (by rw [hb]; rfl)) ?_
                  refine t_nil ?_
                  refine c_cond_f rfl rfl ?_
                  refine c_skip ?_
                  refine c_region ?_
                  refine t_q (q_load_blk Try.isAgg89 Try.sizeOf89 rfl (hS.blk (by repeat first | exact .here _ _ | assumption | apply Pick.there)) rfl) ?_
                  refine t_store (v := (.agg _)) Try.sizeOf89 hS (by repeat first | exact .here _ _ | assumption | apply Pick.there) rfl rfl rfl rfl rfl rfl (fun w hS => ?_)
                  replace hS := hS.recast (show blkA g8 89 _ = blkA g8 89 [.int .u64 (((bsX (opTm x r.1) x.vote)).1 : Int), .int .u64 (((bsX (opTm x r.1) x.vote)).2 : Int)] from rfl)
                  refine t_nil ?_
                  first
                    | exact ⟨gt1, c, r, d2, rfl, hG2, hg2, by omega, by omega, hF2, ((((hS.pick (A := blkA g8 89 [.int .u64 ((r).1 : Int), .int .u64 ((r).2 : Int)]) (by repeat first | exact .here _ _ | assumption | apply Pick.there)).pick (A := dskA gd d2) (by repeat first | exact .here _ _ | assumption | apply Pick.there)).pick (A := blA gt1 gd (⟨((2 : Nat) : Int), c, ea, r, false⟩ : Bl)) (by repeat first | exact .here _ _ | assumption | apply Pick.there))).front3⟩
                    | exact ⟨gt, c2, (bsX (opTm x r.1) x.vote), d2, rfl, hG2, hg2, hf2, by omega, hF2, ((((hS.pick (A := blkA g8 89 [.int .u64 (((bsX (opTm x r.1) x.vote)).1 : Int), .int .u64 (((bsX (opTm x r.1) x.vote)).2 : Int)]) (by repeat first | exact .here _ _ | assumption | apply Pick.there)).pick (A := dskA gd _) (by repeat first | exact .here _ _ | assumption | apply Pick.there)).pick (A := blA gt gd _) (by repeat first | exact .here _ _ | assumption | apply Pick.there))).front3⟩
      ·
        clear hb1 hb3 hb4
        rintro σ w ⟨gt, c, r, d, h6, hG, hg, hfu, hdc, hF, hS⟩
        have hok2 := hF.ok
        have hok3 : r.1 ≤ 4611686018427387904 ∧ r.2 ≤ 7 := ⟨hok2.1, hok2.2⟩
        refine c_know 6 h6 ?_
        refine c_seq ?_
        refine c_region ?_
        refine t_q (q_mv (.pointer _) rfl) ?_
        refine t_call Try.call52 (read_n (i := 2) hS (by repeat first | exact .here _ _ | assumption | apply Pick.there) hG (by decide)) rfl ?_
        rintro e w ⟨A98, c98, rfl, hS⟩
        refine ⟨_, rfl, ?_⟩
        have hle98 := hS.row_le (t := 5) (size := 1) (A := A98) (c := c98) (by repeat first | exact .here _ _ | assumption | apply Pick.there)
        refine t_q (q_mv (.pointer _) rfl) ?_
        refine t_call Try.call52 (read_n (i := 3) hS (by repeat first | exact .here _ _ | assumption | apply Pick.there) hG (by decide)) rfl ?_
        rintro e w ⟨A100, c100, rfl, hS⟩
        refine ⟨_, rfl, ?_⟩
        have hle100 := hS.row_le (t := 5) (size := 1) (A := A100) (c := c100) (by repeat first | exact .here _ _ | assumption | apply Pick.there)
        refine t_call Try.call51 (qbTell_calls (a := (d.F 2).1) (b := (d.F 3).1) (hS.rowRd (A := A98) (c := c98) (bs := (d.F 2).1) (by repeat first | exact .here _ _ | assumption | apply Pick.there) rfl) (hS.rowRd (A := A100) (c := c100) (bs := (d.F 3).1) (by repeat first | exact .here _ _ | assumption | apply Pick.there) rfl) ⟨hle98, by have := hG.len 2; omega⟩ ⟨hle100, by have := hG.len 3; omega⟩) rfl ?_
        rintro e w ⟨rfl, hT⟩
        refine ⟨_, rfl, ?_⟩
        replace hS := hS.after hT
        have hO : btl (d.F 2).1 (d.F 3).1 = (r, decide (c = 1), 0) := hF.opens
        rw [hO]
        refine t_q (q_mv (.tuple _) rfl) ?_
        refine t_q (q_extract rfl rfl) ?_
        refine t_q (q_extract rfl rfl) ?_
        refine t_q (q_extract rfl rfl) ?_
        refine t_q (q_as (.int _ _) rfl) ?_
        refine t_q (q_as (.int _ _) rfl) ?_
        refine t_q (q_as (.int _ _) rfl) ?_
        refine t_nil ?_
        refine c_seq ?_
        refine c_draw ?_
        refine d_keep (blkA g8 89 [.int .u64 ((r).1 : Int), .int .u64 ((r).2 : Int)]) 36 [0, 1, 2, 3, 4, 5, 6, 7, 8, 9, 10, 11, 12, 13, 14, 15, 16, 17, 18, 19, 20, 21, 22, 23, 24, 25, 26, 27, 28, 29, 30, 31, 32, 33, 34, 35] [0, 1, 2, 3, 4, 5, 6, 7, 8, 9, 10, 11, 12, 13, 14, 15, 16, 17, 18, 19, 20, 21, 22, 23, 24, 25, 26, 27, 28, 29, 30, 31, 32, 33, 34, 35] hS rfl (by kernel_rfl) (by kernel_rfl) (by kernel_rfl) (by kernel_rfl) (fun hap hsel w hS => ?_)
        refine p_q hap hsel 0 rfl rfl ⟨_, hS.pick (by repeat first | exact .here _ _ | assumption | apply Pick.there)⟩ (fun w hI => q_mv (.pointer _) rfl) ?_
        refine p_q hap hsel 2 rfl rfl ⟨_, hS.pick (by repeat first | exact .here _ _ | assumption | apply Pick.there)⟩ (fun w hI => q_fieldAddr 0 Try.runUnderlying89 rfl Try.sizeOf43 (by decide) rfl rfl) ?_
        refine p_q hap hsel 3 rfl rfl ⟨_, hS.pick (by repeat first | exact .here _ _ | assumption | apply Pick.there)⟩ (fun w hI => q_load1 Try.isAgg43 rfl (hI.choose_spec.cell (by repeat first | exact .here _ _ | assumption | apply Pick.there) rfl)) ?_
        refine p_one 1 rfl (by kernel_rfl) ?_
        refine t_call Try.call53 (bterm_calls hS (by repeat first | exact .here _ _ | assumption | apply Pick.there)) rfl ?_
        rintro e w ⟨rfl, hS⟩
        refine ⟨_, rfl, ?_⟩
        refine t_nil ?_
        refine ⟨.inr ⟨_, hS.pick (by repeat first | exact .here _ _ | assumption | apply Pick.there)⟩, ?_⟩
        refine p_q hap hsel 4 rfl rfl ⟨_, hS.pick (by repeat first | exact .here _ _ | assumption | apply Pick.there)⟩ (fun w hI => (q_cast (v' := .bool false) (q_neq rfl rfl) (by simp))) ?_
        refine p_q hap hsel 5 rfl rfl ⟨_, hS.pick (by repeat first | exact .here _ _ | assumption | apply Pick.there)⟩ (fun w hI => q_mv (.bool _) rfl) ?_
        refine p_yes hap hsel 6 rfl rfl ⟨_, hS.pick (by repeat first | exact .here _ _ | assumption | apply Pick.there)⟩ rfl rfl rfl (fun w hI => q_mv (.pointer _) rfl) ?_
        refine p_yes hap hsel 8 rfl rfl ⟨_, hS.pick (by repeat first | exact .here _ _ | assumption | apply Pick.there)⟩ rfl rfl rfl (fun w hI => q_fieldAddr 1 Try.runUnderlying89 rfl Try.sizeOf43 (by decide) rfl rfl) ?_
        refine p_yes hap hsel 9 rfl rfl ⟨_, hS.pick (by repeat first | exact .here _ _ | assumption | apply Pick.there)⟩ rfl rfl rfl (fun w hI => q_load1 Try.isAgg43 rfl (hI.choose_spec.cell (by repeat first | exact .here _ _ | assumption | apply Pick.there) rfl)) ?_
        refine p_yes hap hsel 10 rfl rfl ⟨_, hS.pick (by repeat first | exact .here _ _ | assumption | apply Pick.there)⟩ rfl rfl rfl (fun w hI => q_conv_i64 Try.runUnderlying43 Try.runUnderlying3 rfl (by omega)) ?_
        refine p_yes hap hsel 11 rfl rfl ⟨_, hS.pick (by repeat first | exact .here _ _ | assumption | apply Pick.there)⟩ rfl rfl rfl (fun w hI => q_sub_i64 rfl rfl (by omega)) ?_
        refine p_one 7 rfl (by kernel_rfl) ?_
        refine t_yes rfl rfl rfl ?_
        refine t_call Try.call54 (bvote_calls (b := (⟨((2 : Nat) : Int), c, ea, r, false⟩ : Bl)) hF.ok.2 hS (by repeat first | exact .here _ _ | assumption | apply Pick.there)) rfl ?_
        rintro e w ⟨rfl, hS⟩
        refine ⟨_, rfl, ?_⟩
        refine t_nil ?_
        refine ⟨.inr ⟨_, hS.pick (by repeat first | exact .here _ _ | assumption | apply Pick.there)⟩, ?_⟩
        refine p_yes hap hsel 12 rfl rfl ⟨_, hS.pick (by repeat first | exact .here _ _ | assumption | apply Pick.there)⟩ rfl rfl rfl (fun w hI => (q_cast (v' := .bool false) (q_neq rfl rfl) (by simp))) ?_
        refine p_q hap hsel 13 rfl rfl ⟨_, hS.pick (by repeat first | exact .here _ _ | assumption | apply Pick.there)⟩ (fun w hI => q_pick_f rfl rfl) ?_
        refine p_q hap hsel 14 rfl rfl ⟨_, hS.pick (by repeat first | exact .here _ _ | assumption | apply Pick.there)⟩ (fun w hI => q_mv (.bool _) rfl) ?_
        refine p_yes hap hsel 15 rfl rfl ⟨_, hS.pick (by repeat first | exact .here _ _ | assumption | apply Pick.there)⟩ rfl rfl rfl (fun w hI => q_mv (.int _ _) rfl) ?_
        refine p_yes hap hsel 16 rfl rfl ⟨_, hS.pick (by repeat first | exact .here _ _ | assumption | apply Pick.there)⟩ rfl rfl rfl (fun w hI => q_fieldAddr 0 Try.runUnderlying89 rfl Try.sizeOf43 (by decide) rfl rfl) ?_
        refine p_yes hap hsel 17 rfl rfl ⟨_, hS.pick (by repeat first | exact .here _ _ | assumption | apply Pick.there)⟩ rfl rfl rfl (fun w hI => q_load1 Try.isAgg43 rfl (hI.choose_spec.cell (by repeat first | exact .here _ _ | assumption | apply Pick.there) rfl)) ?_
        refine p_yes hap hsel 18 rfl rfl ⟨_, hS.pick (by repeat first | exact .here _ _ | assumption | apply Pick.there)⟩ rfl rfl rfl (fun w hI => (q_cast (v' := .bool false) (q_neq rfl rfl) (by simp))) ?_
        refine p_q hap hsel 19 rfl rfl ⟨_, hS.pick (by repeat first | exact .here _ _ | assumption | apply Pick.there)⟩ (fun w hI => q_pick_f rfl rfl) ?_
        refine p_q hap hsel 20 rfl rfl ⟨_, hS.pick (by repeat first | exact .here _ _ | assumption | apply Pick.there)⟩ (fun w hI => q_mv (.bool _) rfl) ?_
        refine p_yes hap hsel 21 rfl rfl ⟨_, hS.pick (by repeat first | exact .here _ _ | assumption | apply Pick.there)⟩ rfl rfl rfl (fun w hI => q_mv (.int _ _) rfl) ?_
        refine p_yes hap hsel 22 rfl rfl ⟨_, hS.pick (by repeat first | exact .here _ _ | assumption | apply Pick.there)⟩ rfl rfl rfl (fun w hI => q_fieldAddr 1 Try.runUnderlying89 rfl Try.sizeOf43 (by decide) rfl rfl) ?_
        refine p_yes hap hsel 23 rfl rfl ⟨_, hS.pick (by repeat first | exact .here _ _ | assumption | apply Pick.there)⟩ rfl rfl rfl (fun w hI => q_load1 Try.isAgg43 rfl (hI.choose_spec.cell (by repeat first | exact .here _ _ | assumption | apply Pick.there) rfl)) ?_
        refine p_yes hap hsel 24 rfl rfl ⟨_, hS.pick (by repeat first | exact .here _ _ | assumption | apply Pick.there)⟩ rfl rfl rfl (fun w hI => q_conv_i64 Try.runUnderlying43 Try.runUnderlying3 rfl (by omega)) ?_
        refine p_yes hap hsel 25 rfl rfl ⟨_, hS.pick (by repeat first | exact .here _ _ | assumption | apply Pick.there)⟩ rfl rfl rfl (fun w hI => q_sub_i64 rfl rfl (by omega)) ?_
        refine p_yes hap hsel 26 rfl rfl ⟨_, hS.pick (by repeat first | exact .here _ _ | assumption | apply Pick.there)⟩ rfl rfl rfl (fun w hI => (q_cast (v' := .bool false) (q_neq rfl rfl) (by simp))) ?_
        refine p_q hap hsel 27 rfl rfl ⟨_, hS.pick (by repeat first | exact .here _ _ | assumption | apply Pick.there)⟩ (fun w hI => q_pick_f rfl rfl) ?_
        refine p_q hap hsel 28 rfl rfl ⟨_, hS.pick (by repeat first | exact .here _ _ | assumption | apply Pick.there)⟩ (fun w hI => q_mv (.bool _) rfl) ?_
        refine p_yes hap hsel 29 rfl rfl ⟨_, hS.pick (by repeat first | exact .here _ _ | assumption | apply Pick.there)⟩ rfl rfl rfl (fun w hI => q_mv (.int _ _) rfl) ?_
        refine p_yes hap hsel 30 rfl rfl ⟨_, hS.pick (by repeat first | exact .here _ _ | assumption | apply Pick.there)⟩ rfl rfl rfl (fun w hI => (q_cast (v' := .bool false) (q_neq rfl rfl) (by rfl))) ?_
        refine p_q hap hsel 31 rfl rfl ⟨_, hS.pick (by repeat first | exact .here _ _ | assumption | apply Pick.there)⟩ (fun w hI => q_pick_f rfl rfl) ?_
        refine p_q hap hsel 32 rfl rfl ⟨_, hS.pick (by repeat first | exact .here _ _ | assumption | apply Pick.there)⟩ (fun w hI => q_mv (.bool _) rfl) ?_
        refine p_yes hap hsel 33 rfl rfl ⟨_, hS.pick (by repeat first | exact .here _ _ | assumption | apply Pick.there)⟩ rfl rfl rfl (fun w hI => q_mv (.pointer _) rfl) ?_
        refine p_one 34 rfl (by kernel_rfl) ?_
        refine t_yes rfl rfl rfl ?_
        refine t_call Try.call55 (bbroken_calls hS (by repeat first | exact .here _ _ | assumption | apply Pick.there)) rfl ?_
        rintro e w ⟨rfl, hS⟩
        refine ⟨_, rfl, ?_⟩
        refine t_nil ?_
        refine ⟨.inr ⟨_, hS.pick (by repeat first | exact .here _ _ | assumption | apply Pick.there)⟩, ?_⟩
        refine p_q hap hsel 35 rfl rfl ⟨_, hS.pick (by repeat first | exact .here _ _ | assumption | apply Pick.there)⟩ (fun w hI => q_pick_f rfl rfl) ?_
        refine p_end (by kernel_rfl) ?_
        refine c_cond_f rfl rfl ?_
        refine c_skip ?_
        refine c_region ?_
        refine t_q (q_add_i64 rfl rfl (by omega)) ?_
        refine t_q (q_mv (.int _ _) rfl) ?_
        refine t_nil ?_
        first
          | (rw [hb1 harg] at hS
             exact ⟨k - 1, by omega, j + 1, gt, c, r, d, rfl, by omega, by omega, rfl, hG, hg, hfu, by omega, hF, ((((hS.pick (A := blkA g8 89 [.int .u64 ((r).1 : Int), .int .u64 ((r).2 : Int)]) (by repeat first | exact .here _ _ | assumption | apply Pick.there)).pick (A := dskA gd d) (by repeat first | exact .here _ _ | assumption | apply Pick.there)).pick (A := blA gt gd (⟨((2 : Nat) : Int), c, ea, r, false⟩ : Bl)) (by repeat first | exact .here _ _ | assumption | apply Pick.there))).front3⟩)
          | (rw [hb3 harg hX hA] at hS
             exact ⟨k - 1, by omega, j + 1, gt, c, r, d, rfl, by omega, by omega, rfl, hG, hg, hfu, by omega, hF, ((((hS.pick (A := blkA g8 89 [.int .u64 ((r).1 : Int), .int .u64 ((r).2 : Int)]) (by repeat first | exact .here _ _ | assumption | apply Pick.there)).pick (A := dskA gd d) (by repeat first | exact .here _ _ | assumption | apply Pick.there)).pick (A := blA gt gd (⟨((2 : Nat) : Int), c, ea, r, false⟩ : Bl)) (by repeat first | exact .here _ _ | assumption | apply Pick.there))).front3⟩)
          | exact ⟨k - 1, by omega, j + 1, gt, c, r, d, rfl, by omega, by omega, rfl, hG, hg, hfu, by omega, hF, ((((hS.pick (A := blkA g8 89 [.int .u64 ((r).1 : Int), .int .u64 ((r).2 : Int)]) (by repeat first | exact .here _ _ | assumption | apply Pick.there)).pick (A := dskA gd d) (by repeat first | exact .here _ _ | assumption | apply Pick.there)).pick (A := blA gt gd (⟨((2 : Nat) : Int), c, ea, r, false⟩ : Bl)) (by repeat first | exact .here _ _ | assumption | apply Pick.there))).front3⟩
    · intro hc10
      have hc10d := of_decide_eq_false hc10
      refine c_exit ?_
      refine ite_t rfl ?_
      refine c_seq ?_
      refine c_region ?_
      refine t_call Try.call46 (blives_calls) rfl ?_
      rintro e w ⟨rfl, hT⟩
      refine ⟨_, rfl, ?_⟩
      replace hS := hS.after hT
      refine t_q (q_as (.bool _) rfl) ?_
      refine t_nil ?_
      refine c_ret ?_
      refine r_one rfl rfl ?_
      exact ⟨rfl, hS.nil⟩
end Go.Proofs.Ytlppgpidakfnlaa
