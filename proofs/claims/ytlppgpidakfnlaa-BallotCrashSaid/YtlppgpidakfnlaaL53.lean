/- Wherever the power goes: what is opened behind the crash: the walk. -/
import Derived.Test.YtlppgpidakfnlaaBk
namespace Go.Proofs.Ytlppgpidakfnlaa
open Go Go.RowKit Go.Lib
variable {W : World}
structure BlowB where
  fuse : Int
  keep : Sl Int
instance : Inhabited BlowB := ⟨⟨0, default⟩⟩
def BlowB.cells (x : BlowB) : List Value := [.int .u8 x.fuse, .slice x.keep.A x.keep.l.length x.keep.c]
structure BlowB.Ok (w : World) (x : BlowB) : Prop where
  fuse : 0 ≤ x.fuse ∧ x.fuse < 256
  keep : (Sl.Ok 1 (fun n : Int => [.int .i64 n]) (fun n : Int => -9223372036854775808 ≤ n ∧ n ≤ 9223372036854775807) w) x.keep
set_option maxRecDepth 100000 in
theorem opn_BlowB {H : Type} {enc : TypeId × Value → H} {w : World} : Opn enc Try.prog w 80 BlowB.cells (BlowB.Ok w) := fun _ _ _ h => by
  obtain ⟨parts, rfl, hl, hf⟩ := opn_parts Try.underlying80 (by kernel_rfl) (by kernel_rfl) h
  match parts, hl with
  | [p0, p1], _ =>
    obtain ⟨f0, x0, h0⟩ := hf 0 _ rfl
    obtain ⟨a0, e0, k0⟩ := (opn_u8 Try.underlying5) _ _ _ h0
    replace e0 : p0 = _ := e0
    obtain ⟨f1, x1, h1⟩ := hf 1 _ rfl
    obtain ⟨a1, e1, k1⟩ := (opn_slice (β := Int) (size := 1) Try.underlying26 (by kernel_rfl) (by decide) (opn_i64 Try.underlying3)) _ _ _ h1
    replace e1 : p1 = _ := e1
    subst e0 e1
    exact ⟨⟨a0, a1⟩, by simp [BlowB.cells, Sl.cells], ⟨k0, k1⟩⟩
theorem bvote_r {w : World} {L R : List Asn} {g gd : Nat} {b : Bl} {r : Rc} (hr : b.r = r) (h7 : r.2 ≤ 7) (hS : St W w L) (pk : Pick L (blA g gd b) R) : Calls Try.prog 54 #[.pointer (some ⟨g, 0, none⟩)] w fun e w' => e = .returned (.int .i64 ((r.2 : Int) - 1)) ∧ St W w' (blA g gd b :: R) := by subst hr; exact bvote_calls h7 hS pk
theorem DGood.armB {d : Dk} (h : DGood d) {n : Int} (hn : -9223372036854775808 ≤ n ∧ n ≤ 9223372036854775807) : DGood { d with fuse := n } := ⟨h.sync, h.len, hn, h.calls⟩
theorem bs_crash {d : Dk} {c ea : Int} {r : Rc} {t : Nat} {v : Int} (h : BF d 0 c r) (hG : DGood d) (hg : d.gone = false) (hf : 0 ≤ d.fuse) (hea : ea ≤ 1000) :
    ((bsR d (⟨((0 : Nat) : Int), c, ea, r, false⟩ : Bl) t v).1 ≠ 0 ∧ (bsR d (⟨((0 : Nat) : Int), c, ea, r, false⟩ : Bl) t v).1 ≠ 70 ∧ (bsR d (⟨((0 : Nat) : Int), c, ea, r, false⟩ : Bl) t v).2 = ((⟨((0 : Nat) : Int), c, ea, r, false⟩ : Bl), d)) ∨
    (¬ bsArg t v ∧ ∃ c' d', bsR d (⟨((0 : Nat) : Int), c, ea, r, false⟩ : Bl) t v = (0, (⟨((0 : Nat) : Int), c', ea, (bsX t v), false⟩ : Bl), d') ∧ DGood d' ∧ d'.gone = false ∧ 0 ≤ d'.fuse ∧ d'.calls ≤ d.calls + 3 ∧ BF d' 0 c' (bsX t v)) ∨
    (¬ bsArg t v ∧ ∃ c' d', bsR d (⟨((0 : Nat) : Int), c, ea, r, false⟩ : Bl) t v = (70, (⟨((0 : Nat) : Int), c', ea, r, true⟩ : Bl), d') ∧ (c' = 0 ∨ c' = 1) ∧ DGood d' ∧ d'.gone = true ∧ d'.calls ≤ d.calls + 3 ∧ ∀ ns, CF (crD ns d') 0 r (bsX t v)) := by
  by_cases h1 : bsArg t v
  · rw [bsR_2 rfl h1]
    exact .inl ⟨by show (2 : Int) ≠ 0; decide, by show (2 : Int) ≠ 70; decide, rfl⟩
  · by_cases hX : bsX t v = r
    · exact .inr (.inl ⟨h1, c, d, by rw [bsR_3 rfl h1 hX, hX], hG, hg, hf, by omega, by rw [hX]; exact h⟩)
    · by_cases hA : abv (bsX t v) r
      · rcases h.save (ea := ea) (t := t) (v := v) hG hg (by decide) hea h1 hX hA with ⟨c', d', e, g1, g2, g3, g4, g5⟩ | ⟨_, c', d', e, g1, g2, g3, g4, g5⟩
        · exact .inr (.inl ⟨h1, c', d', e, g1, g2, g3.2 hf, g4, g5⟩)
        · exact .inr (.inr ⟨h1, c', d', e, g1, g2, g3, g4, g5⟩)
      · rw [bsR_4 rfl h1 hX hA]
        exact .inl ⟨by show (55 : Int) ≠ 0; decide, by show (55 : Int) ≠ 70; decide, rfl⟩
attribute [local irreducible] blkA rowA rdrA rdO dskA blA
set_option maxHeartbeats 4000000 in
set_option maxRecDepth 100000 in
theorem BallotCrash_calls {A : Option Addr} {c0 : Nat} {l : List BOp} {e0 : Int} {y : BlowB} (he0 : -9223372036854775808 ≤ e0 ∧ e0 ≤ 9223372036854775807) (hl : RdBO W A l) (hok : ∀ x ∈ l, x.Ok W) (hm : l.length ≤ maxLen) (hy : y.Ok W) : Calls Try.prog 14 #[.int .i64 e0, .slice A l.length c0, .agg y.cells.toArray] W fun e w' => e = .returned (.bool true) ∧ St W w' [] := by
  obtain ⟨ea, hea⟩ : ∃ ea : Int, 16 + (e0 % 18446744073709551616) % 200 = ea := ⟨_, rfl⟩
  have hea2 : 16 ≤ ea ∧ ea ≤ 215 := by omega
  have hyf := hy.fuse
  have hyk : RdI W .i64 y.keep.A y.keep.l := hy.keep.rd
  have hS := St.init W
  refine calls_of_wpE (args := [_, _, _]) Try.func14 rfl rfl rfl ?_
  refine c_seq ?_
  refine c_region ?_
  refine t_box (v := (.agg _)) rfl rfl hS (fun g5 w hS => ?_)
  replace hS := hS.recast (show _ = blkA g5 80 y.cells from rfl)
  refine t_q (q_assign) ?_
  refine t_nil ?_
  refine c_seq ?_
  refine c_seq ?_
  refine c_region ?_
  refine t_q (q_mv (.slice _ _ _) rfl) ?_
  refine t_q (q_len_slice Try.runUnderlying83 rfl) ?_
  refine t_q (q_gtr rfl rfl) ?_
  refine t_q (q_mv (.bool _) rfl) ?_
  refine t_case 21 rfl ?_ ?_
  · intro hg2
    have hg2d := of_decide_eq_true hg2
    refine t_no rfl rfl (by rw [hg2]; decide) ?_
    refine t_no rfl rfl (by rw [hg2]; decide) ?_
    refine t_no rfl rfl (by rw [hg2]; decide) ?_
    refine t_no rfl rfl (by rw [hg2]; decide) ?_
    refine t_q (q_pick_t rfl hg2) ?_
    refine t_nil ?_
    refine c_cond_t rfl rfl ?_
    refine c_seq ?_
    refine c_region ?_
    refine t_call Try.call46 (blives_calls) rfl ?_
    rintro e w ⟨rfl, hT⟩
    refine ⟨_, rfl, ?_⟩
    replace hS := hS.after hT
    refine t_q (q_as (.bool _) rfl) ?_
    refine t_nil ?_
    refine c_ret ?_
    refine r_one rfl rfl ?_
    first
      | exact ⟨rfl, hS.nil⟩
      | (exfalso
         exact of_decide_eq_false (by assumption) ((hO2 (by assumption) y.keep.l).2.elim id id))
  · intro hg2
    have hg2d := of_decide_eq_false hg2
    refine t_yes rfl rfl hg2 ?_
    refine t_q (q_fieldAddr 1 Try.runUnderlying80 rfl Try.sizeOf26 (by decide) rfl rfl) ?_
    refine t_yes rfl rfl hg2 ?_
    refine t_q (q_load1 Try.isAgg26 rfl (hS.cell (by repeat first | exact .here _ _ | assumption | apply Pick.there) rfl)) ?_
    refine t_yes rfl rfl hg2 ?_
    refine t_q (q_len_slice Try.runUnderlying26 rfl) ?_
    refine t_yes rfl rfl hg2 ?_
    refine t_q (q_gtr rfl rfl) ?_
    refine t_q (q_pick_f rfl hg2) ?_
    refine t_nil ?_
    refine c_cond rfl ?_ ?_
    · intro hc5
      have hc5d := of_decide_eq_true hc5
      refine c_seq ?_
      refine c_region ?_
      refine t_call Try.call46 (blives_calls) rfl ?_
      rintro e w ⟨rfl, hT⟩
      refine ⟨_, rfl, ?_⟩
      replace hS := hS.after hT
      refine t_q (q_as (.bool _) rfl) ?_
      refine t_nil ?_
      refine c_ret ?_
      refine r_one rfl rfl ?_
      first
        | exact ⟨rfl, hS.nil⟩
        | (exfalso
           exact of_decide_eq_false (by assumption) ((hO2 (by assumption) y.keep.l).2.elim id id))
    · intro hc5
      have hc5d := of_decide_eq_false hc5
      have h100 : l.length ≤ 100 ∧ y.keep.l.length ≤ 40 := by omega
      refine c_skip ?_
      refine c_seq ?_
      refine c_region ?_
      refine t_q (q_mv (.int _ _) rfl) ?_
      first | refine t_q (q_conv_u64 Try.runUnderlying3 Try.runUnderlying84 rfl (by omega)) ?_ | refine t_q (q_convm_u64 Try.runUnderlying3 Try.runUnderlying84 rfl) ?_
      refine t_q (q_rem_n rfl rfl (by omega) (by omega)) ?_
      refine t_q (q_conv_i64 Try.runUnderlying84 Try.runUnderlying3 rfl (by omega)) ?_
      refine t_q (q_cast (v' := .int .i64 ea) (q_add_i64 rfl rfl (by omega)) (by rw [← hea])) ?_
      refine t_q (q_as (.int _ _) rfl) ?_
      refine t_nil ?_
      refine c_seq ?_
      refine c_region ?_
      refine t_call Try.call32 (dnew_calls hS) rfl ?_
      rintro e w ⟨gd, rfl, hS⟩
      refine ⟨_, rfl, ?_⟩
      refine t_q (q_as (.pointer _) rfl) ?_
      refine t_nil ?_
      refine c_seq ?_
      refine c_region ?_
      refine t_q (q_mv (.pointer _) rfl) ?_
      refine t_q (q_mv (.int _ _) rfl) ?_
      refine t_call Try.call47 (bopen_calls (d := D0) (n := 0) (ea := ea) ((hS.pick (A := dskA gd D0) (by repeat first | exact .here _ _ | assumption | apply Pick.there))) (by decide) ⟨by omega, by omega⟩ D0k.1 D0k.2.1 D0k.2.2.1 (by decide) (by rw [(BF.zero (n := 0)).opens])) rfl ?_
      rintro e w ⟨gt, rfl, hS⟩
      refine ⟨_, rfl, ?_⟩
      obtain ⟨_, _, d1, e1, hG1, hg1, hf1, hc1, hF1⟩ := bop_again (BF.zero (n := 0)) D0k.1 D0k.2.1 D0k.2.2.1 (by decide)
      rw [e1] at hS
      replace hS := (hS.pick (A := blA gt gd _) (by repeat first | exact .here _ _ | assumption | apply Pick.there)).recast (show _ = blA gt gd (⟨((0 : Nat) : Int), 0, ea, (0, 0), false⟩ : Bl) from by rw [(BF.zero (n := 0)).opens]; rfl)
      have hd0 := D0k.2.2
      refine t_q (q_mv (.tuple _) rfl) ?_
      refine t_q (q_extract rfl rfl) ?_
      refine t_q (q_extract rfl rfl) ?_
      refine t_q (q_as (.pointer _) rfl) ?_
      refine t_q (q_as (.int _ _) rfl) ?_
      refine t_nil ?_
      refine c_seq ?_
      refine c_seq ?_
      refine c_region ?_
      refine t_q (q_mv (.int _ _) rfl) ?_
      refine t_q (q_cast (v' := .bool false) (q_neq rfl rfl) (by rfl)) ?_
      refine t_nil ?_
      refine c_cond_f rfl rfl ?_
      refine c_skip ?_
      refine c_seq ?_
      refine c_region ?_
      refine t_q (q_mv (.pointer _) rfl) ?_
      refine t_q (q_fieldAddr 0 Try.runUnderlying80 rfl Try.sizeOf5 (by decide) rfl rfl) ?_
      refine t_q (q_load1 Try.isAgg5 rfl (hS.cell (by repeat first | exact .here _ _ | assumption | apply Pick.there) rfl)) ?_
      refine t_q (q_rem_n rfl rfl (by omega) (by omega)) ?_
      refine t_q (q_conv_i64 Try.runUnderlying5 Try.runUnderlying3 rfl (by omega)) ?_
      refine t_call Try.call42 (arm_calls (n := y.fuse % 64) hS (by repeat first | exact .here _ _ | assumption | apply Pick.there)) rfl ?_
      rintro e w ⟨rfl, hS⟩
      refine ⟨_, rfl, ?_⟩
      refine t_nil ?_
      refine c_seq ?_
      refine c_region ?_
      refine t_q (q_build (qs := [(0, 1), (1, 1)]) [(.int _ _), (.int _ _)] Try.zeroValue89 Try.runUnderlying89 ⟨rfl, Try.sizeOf43, rfl, Try.sizeOf43, trivial⟩ rfl rfl) ?_
      refine t_q (q_build (qs := [(0, 1), (1, 1)]) [(.int _ _), (.int _ _)] Try.zeroValue89 Try.runUnderlying89 ⟨rfl, Try.sizeOf43, rfl, Try.sizeOf43, trivial⟩ rfl rfl) ?_
      refine t_alloc Try.zeroValue89 rfl hS (fun g10 w hS => ?_)
      refine t_alloc Try.zeroValue89 rfl hS (fun g11 w hS => ?_)
      refine t_store (v := (.agg _)) Try.sizeOf89 hS (by repeat first | exact .here _ _ | assumption | apply Pick.there) rfl rfl rfl rfl rfl rfl (fun w hS => ?_)
      replace hS := hS.recast (show blkA g10 89 _ = blkA g10 89 [.int .u64 ((((0, 0) : Rc)).1 : Int), .int .u64 ((((0, 0) : Rc)).2 : Int)] from rfl)
      refine t_store (v := (.agg _)) Try.sizeOf89 hS (by repeat first | exact .here _ _ | assumption | apply Pick.there) rfl rfl rfl rfl rfl rfl (fun w hS => ?_)
      replace hS := hS.recast (show blkA g11 89 _ = blkA g11 89 [.int .u64 ((((0, 0) : Rc)).1 : Int), .int .u64 ((((0, 0) : Rc)).2 : Int)] from rfl)
      refine t_nil ?_
      refine c_cut [6, 13, 14, 15, 50, 51, 52, 53, 54, 55, 56, 57, 58, 59, 60, 61, 62, 63, 64, 65, 66, 67, 68, 69, 70, 71, 72, 73, 74, 75, 76, 77, 78, 79, 80, 81, 82, 83, 84, 85, 86, 87, 88, 89, 90, 91, 92, 93, 94, 95, 96] (fun σ w => ∃ (r z : Rc) (d : Dk), DGood d ∧ d.calls ≤ 1000 ∧ (d.gone = true → ∀ ns, CF (crD ns d) 0 r z) ∧ (d.gone = false → ∀ ns, CF (crD ns d) 0 r r) ∧ recOk r ∧ recOk z ∧ St W w [dskA gd d, blkA g10 89 [.int .u64 ((r).1 : Int), .int .u64 ((r).2 : Int)], blkA g11 89 [.int .u64 ((z).1 : Int), .int .u64 ((z).2 : Int)], blkA g5 80 y.cells]) rfl ?_ ?_
      ·
        refine c_seq ?_
        refine c_region ?_
        refine t_q (q_mv (.slice _ _ _) rfl) ?_
        refine t_q (q_len_slice Try.runUnderlying83 rfl) ?_
        refine t_q (q_move) ?_
        refine t_nil ?_
        refine c_block ?_
        refine c_loop [6, 13, 14, 15, 52, 53, 54, 55, 56, 57, 58, 59, 60, 61, 62, 63, 64, 65, 66, 67, 68, 69, 70, 71, 72, 73, 74, 75, 76, 77, 78, 79, 80, 81, 82, 83, 84, 85, 86, 87, 88, 89, 90, 91, 92, 93, 94, 95, 96] (fun k σ w => ∃ (j : Nat) (c : Int) (r : Rc) (d : Dk), σ 52 = .int .i64 (j : Int) ∧ j ≤ l.length ∧ l.length - j ≤ k ∧ DGood d ∧ d.gone = false ∧ 0 ≤ d.fuse ∧ d.calls ≤ 8 * (j : Int) + 4 ∧ BF d 0 c r ∧ St W w [blA gt gd (⟨((0 : Nat) : Int), c, ea, r, false⟩ : Bl), dskA gd d, blkA g10 89 [.int .u64 ((r).1 : Int), .int .u64 ((r).2 : Int)], blkA g11 89 [.int .u64 ((((0, 0) : Rc)).1 : Int), .int .u64 ((((0, 0) : Rc)).2 : Int)], blkA g5 80 y.cells]) (l.length) rfl (⟨0, 0, (0, 0), { d1 with fuse := y.fuse % 64 }, rfl, by omega, by omega, hG1.armB (by omega), hg1, (by show 0 ≤ y.fuse % 64; omega), (by show d1.calls ≤ _; omega), hF1, ((((((hS.pick (A := blkA g5 80 y.cells) (by repeat first | exact .here _ _ | assumption | apply Pick.there)).pick (A := blkA g11 89 [.int .u64 ((((0, 0) : Rc)).1 : Int), .int .u64 ((((0, 0) : Rc)).2 : Int)]) (by repeat first | exact .here _ _ | assumption | apply Pick.there)).pick (A := blkA g10 89 [.int .u64 ((((0, 0) : Rc)).1 : Int), .int .u64 ((((0, 0) : Rc)).2 : Int)]) (by repeat first | exact .here _ _ | assumption | apply Pick.there)).pick (A := dskA gd _) (by repeat first | exact .here _ _ | assumption | apply Pick.there)).pick (A := blA gt gd _) (by repeat first | exact .here _ _ | assumption | apply Pick.there)))⟩) ?_
        skip
        rintro k σ w ⟨j, c, r, d, h52, hj, hk, hG, hg, hfu, hdc, hF, hS⟩
        refine c_know 52 h52 ?_
        clear h52
        have hokr := hF.ok
        have hokr2 : r.1 ≤ 4611686018427387904 ∧ r.2 ≤ 7 := ⟨hokr.1, hokr.2⟩
        refine c_seq ?_
        refine c_region ?_
        refine t_q (q_lss rfl rfl) ?_
        refine t_nil ?_
        refine c_seq ?_
        refine c_cond rfl ?_ ?_
        · intro hc14
          have hc14d := of_decide_eq_true hc14
          refine c_skip ?_
          refine c_seq ?_
          refine c_block ?_
          refine c_seq ?_
          refine c_region ?_
          first | refine t_index_nat Try.runUnderlying83 Try.sizeOf91 (hl.st hS) rfl rfl (by omega) (fun ad15 hl15 hx15 => ?_) | refine t_index Try.runUnderlying83 Try.sizeOf91 (hl.st hS) rfl rfl (by omega) (fun ad15 hl15 hx15 => ?_)
          refine t_q (q_loadN Try.isAgg91 Try.sizeOf91 rfl hl15 hx15) ?_
          refine t_alloc Try.zeroValue91 rfl hS (fun g13 w hS => ?_)
          refine t_store (v := (.agg _)) Try.sizeOf91 hS (by repeat first | exact .here _ _ | assumption | apply Pick.there) rfl rfl rfl rfl rfl rfl (fun w hS => ?_)
          obtain ⟨x, hx⟩ : ∃ x, x = (l.getD j default) := ⟨_, rfl⟩
          replace hS := hS.recast (show blkA g13 91 _ = blkA g13 91 x.cells from by rw [hx]; rfl)
          have hxo : x.Ok W := by rw [hx]; exact hok _ (getD_mem (by omega))
          have hxv := hxo.vote
          obtain ⟨tm, htm⟩ : ∃ tm, tm = opTm x r.1 := ⟨_, rfl⟩
          have htl : tm < 18446744073709551616 := by rw [htm]; exact opTm_lt hxo _
          have hcr := bs_crash (ea := ea) (t := tm) (v := x.vote) hF hG hg hfu (by omega)
          refine t_nil ?_
          refine c_seq ?_
          refine c_region ?_
          refine t_q (q_load_blk Try.isAgg91 Try.sizeOf91 rfl (hS.blk (by repeat first | exact .here _ _ | assumption | apply Pick.there)) rfl) ?_
          refine t_q (q_fieldAddr 0 Try.runUnderlying89 rfl Try.sizeOf43 (by decide) rfl rfl) ?_
          refine t_q (q_load1 Try.isAgg43 rfl (hS.cell (by repeat first | exact .here _ _ | assumption | apply Pick.there) rfl)) ?_
          refine t_call Try.call48 (opterm_calls (now := r.1) hxo (by omega)) rfl ?_
          rintro e w ⟨rfl, hT⟩
          refine ⟨_, rfl, ?_⟩
          replace hS := hS.after hT
          rw [← htm]
          refine t_q (q_as (.int _ _) rfl) ?_
          refine t_nil ?_
          refine c_seq ?_
          refine c_region ?_
          refine t_q (q_mv (.pointer _) rfl) ?_
          refine t_q (q_mv (.int _ _) rfl) ?_
          refine t_q (q_fieldAddr 4 Try.runUnderlying91 rfl Try.sizeOf3 (by decide) rfl rfl) ?_
          refine t_q (q_load1 Try.isAgg3 rfl (hS.cell (by repeat first | exact .here _ _ | assumption | apply Pick.there) rfl)) ?_
          refine t_call Try.call49 (bsave_calls (b := (⟨((0 : Nat) : Int), c, ea, r, false⟩ : Bl)) (d := d) (t := tm) (v := x.vote) (((hS.pick (A := dskA gd d) (by repeat first | exact .here _ _ | assumption | apply Pick.there)).pick (A := blA gt gd (⟨((0 : Nat) : Int), c, ea, r, false⟩ : Bl)) (by repeat first | exact .here _ _ | assumption | apply Pick.there))) hF.c2 htl hxv hF.ok hG (by omega) (show (0 : Int) ≤ ((0 : Nat) : Int) ∧ ((0 : Nat) : Int) ≤ 30 by decide)) rfl ?_
          rintro e w ⟨rfl, hS⟩
          refine ⟨_, rfl, ?_⟩
          obtain ⟨E0, hE0⟩ : ∃ y, y = (bsR d (⟨((0 : Nat) : Int), c, ea, r, false⟩ : Bl) tm x.vote).1 := ⟨_, rfl⟩
          rw [← hE0]
          rw [← hE0] at hcr
          refine t_q (q_as (.int _ _) rfl) ?_
          refine t_nil ?_
          refine c_cut [65, 66, 67, 68, 69, 70, 71, 72] (fun σ w => ∃ (c : Int) (r : Rc) (d : Dk) (br : Bool), DGood d ∧ d.gone = br ∧ (br = true → E0 = 70 ∧ ¬ bsArg tm x.vote) ∧ d.calls ≤ 8 * (j : Int) + 8 ∧ (c = 0 ∨ c = 1) ∧ recOk r ∧ (br = false → 0 ≤ d.fuse ∧ BF d 0 c r) ∧ (br = true → ∀ ns, CF (crD ns d) 0 r (bsX tm x.vote)) ∧ St W w [blA gt gd (⟨((0 : Nat) : Int), c, ea, r, br⟩ : Bl), dskA gd d, blkA g10 89 [.int .u64 ((r).1 : Int), .int .u64 ((r).2 : Int)], blkA g11 89 [.int .u64 ((((0, 0) : Rc)).1 : Int), .int .u64 ((((0, 0) : Rc)).2 : Int)], blkA g13 91 x.cells, blkA g5 80 y.cells]) rfl ?_ ?_
          ·
            refine c_seq ?_
            refine c_region ?_
            refine t_q (q_mv (.int _ _) rfl) ?_
            refine t_q (q_eql rfl rfl) ?_
            refine t_nil ?_
            refine c_cond rfl ?_ ?_
            · intro hc19
              have hc19d := of_decide_eq_true hc19
              have harg : ¬ bsArg tm x.vote := by
                rcases hcr with ⟨h1, _⟩ | ⟨h1, _⟩ | ⟨h1, _⟩
                · exfalso; omega
                · exact h1
                · exact h1
              have harg2 : tm ≤ 4611686018427387904 ∧ -1 ≤ x.vote ∧ x.vote ≤ 6 := by unfold bsArg at harg; omega
              refine c_region ?_
              refine t_q (q_mv (.int _ _) rfl) ?_
              refine t_q (q_fieldAddr 4 Try.runUnderlying91 rfl Try.sizeOf3 (by decide) rfl rfl) ?_
              refine t_q (q_load1 Try.isAgg3 rfl (hS.cell (by repeat first | exact .here _ _ | assumption | apply Pick.there) rfl)) ?_
              refine t_q (q_add_i64 rfl rfl (by omega)) ?_
              refine t_q (q_cast (v' := .int .u64 ((x.vote + 1).toNat : Int)) (q_conv_u64 Try.runUnderlying3 Try.runUnderlying43 rfl (by omega)) (by congr 1; omega)) ?_
              refine t_q (q_build (qs := [(0, 1), (1, 1)]) [(.int _ _), (.int _ _)] Try.zeroValue89 Try.runUnderlying89 ⟨rfl, Try.sizeOf43, rfl, Try.sizeOf43, trivial⟩ rfl rfl) ?_
              refine t_store (v := (.agg _)) Try.sizeOf89 hS (by repeat first | exact .here _ _ | assumption | apply Pick.there) rfl rfl rfl rfl rfl rfl (fun w hS => ?_)
              replace hS := hS.recast (show blkA g10 89 _ = blkA g10 89 [.int .u64 (((bsX tm x.vote)).1 : Int), .int .u64 (((bsX tm x.vote)).2 : Int)] from rfl)
              refine t_nil ?_
              rcases hcr with ⟨b0, b70, a3⟩ | ⟨hn, c2, d2, e3, hG2, hg2, hf2, hc2, hF2⟩ | ⟨hn, c2, d2, e3, hc01, hG2, hg2, hc2, hF2⟩
              · first
                  | (exfalso; omega)
                  | (rw [a3] at hS
                     exact ⟨c, r, d, false, hG, hg, (fun h => by cases h), by omega, hF.c2, hF.ok, (fun _ => ⟨hfu, hF⟩), (fun h => by cases h), (((((((hS.pick (A := blkA g5 80 y.cells) (by repeat first | exact .here _ _ | assumption | apply Pick.there)).pick (A := blkA g13 91 x.cells) (by repeat first | exact .here _ _ | assumption | apply Pick.there)).pick (A := blkA g11 89 _) (by repeat first | exact .here _ _ | assumption | apply Pick.there)).pick (A := blkA g10 89 _) (by repeat first | exact .here _ _ | assumption | apply Pick.there)).pick (A := dskA gd d) (by repeat first | exact .here _ _ | assumption | apply Pick.there)).pick (A := blA gt gd (⟨((0 : Nat) : Int), c, ea, r, false⟩ : Bl)) (by repeat first | exact .here _ _ | assumption | apply Pick.there))).front6⟩)
              · have b1 : E0 = 0 := by rw [hE0, e3]
                first
                  | (exfalso; omega)
                  | (rw [e3] at hS
                     exact ⟨c2, (bsX tm x.vote), d2, false, hG2, hg2, (fun h => by cases h), by omega, hF2.c2, hF2.ok, (fun _ => ⟨hf2, hF2⟩), (fun h => by cases h), (((((((hS.pick (A := blkA g5 80 y.cells) (by repeat first | exact .here _ _ | assumption | apply Pick.there)).pick (A := blkA g13 91 x.cells) (by repeat first | exact .here _ _ | assumption | apply Pick.there)).pick (A := blkA g11 89 _) (by repeat first | exact .here _ _ | assumption | apply Pick.there)).pick (A := blkA g10 89 _) (by repeat first | exact .here _ _ | assumption | apply Pick.there)).pick (A := dskA gd _) (by repeat first | exact .here _ _ | assumption | apply Pick.there)).pick (A := blA gt gd _) (by repeat first | exact .here _ _ | assumption | apply Pick.there))).front6⟩)
              · have b1 : E0 = 70 := by rw [hE0, e3]
                first
                  | (exfalso; omega)
                  | (rw [e3] at hS
                     exact ⟨c2, r, d2, true, hG2, hg2, (fun _ => ⟨b1, hn⟩), by omega, hc01, hF.ok, (fun h => by cases h), (fun _ => hF2), (((((((hS.pick (A := blkA g5 80 y.cells) (by repeat first | exact .here _ _ | assumption | apply Pick.there)).pick (A := blkA g13 91 x.cells) (by repeat first | exact .here _ _ | assumption | apply Pick.there)).pick (A := blkA g11 89 _) (by repeat first | exact .here _ _ | assumption | apply Pick.there)).pick (A := blkA g10 89 _) (by repeat first | exact .here _ _ | assumption | apply Pick.there)).pick (A := dskA gd _) (by repeat first | exact .here _ _ | assumption | apply Pick.there)).pick (A := blA gt gd _) (by repeat first | exact .here _ _ | assumption | apply Pick.there))).front6⟩)
            · intro hc19
              have hc19d := of_decide_eq_false hc19
              refine c_skip ?_
              rcases hcr with ⟨b0, b70, a3⟩ | ⟨hn, c2, d2, e3, hG2, hg2, hf2, hc2, hF2⟩ | ⟨hn, c2, d2, e3, hc01, hG2, hg2, hc2, hF2⟩
              · first
                  | (exfalso; omega)
                  | (rw [a3] at hS
                     exact ⟨c, r, d, false, hG, hg, (fun h => by cases h), by omega, hF.c2, hF.ok, (fun _ => ⟨hfu, hF⟩), (fun h => by cases h), (((((((hS.pick (A := blkA g5 80 y.cells) (by repeat first | exact .here _ _ | assumption | apply Pick.there)).pick (A := blkA g13 91 x.cells) (by repeat first | exact .here _ _ | assumption | apply Pick.there)).pick (A := blkA g11 89 _) (by repeat first | exact .here _ _ | assumption | apply Pick.there)).pick (A := blkA g10 89 _) (by repeat first | exact .here _ _ | assumption | apply Pick.there)).pick (A := dskA gd d) (by repeat first | exact .here _ _ | assumption | apply Pick.there)).pick (A := blA gt gd (⟨((0 : Nat) : Int), c, ea, r, false⟩ : Bl)) (by repeat first | exact .here _ _ | assumption | apply Pick.there))).front6⟩)
              · have b1 : E0 = 0 := by rw [hE0, e3]
                first
                  | (exfalso; omega)
                  | (rw [e3] at hS
                     exact ⟨c2, (bsX tm x.vote), d2, false, hG2, hg2, (fun h => by cases h), by omega, hF2.c2, hF2.ok, (fun _ => ⟨hf2, hF2⟩), (fun h => by cases h), (((((((hS.pick (A := blkA g5 80 y.cells) (by repeat first | exact .here _ _ | assumption | apply Pick.there)).pick (A := blkA g13 91 x.cells) (by repeat first | exact .here _ _ | assumption | apply Pick.there)).pick (A := blkA g11 89 _) (by repeat first | exact .here _ _ | assumption | apply Pick.there)).pick (A := blkA g10 89 _) (by repeat first | exact .here _ _ | assumption | apply Pick.there)).pick (A := dskA gd _) (by repeat first | exact .here _ _ | assumption | apply Pick.there)).pick (A := blA gt gd _) (by repeat first | exact .here _ _ | assumption | apply Pick.there))).front6⟩)
              · have b1 : E0 = 70 := by rw [hE0, e3]
                first
                  | (exfalso; omega)
                  | (rw [e3] at hS
                     exact ⟨c2, r, d2, true, hG2, hg2, (fun _ => ⟨b1, hn⟩), by omega, hc01, hF.ok, (fun h => by cases h), (fun _ => hF2), (((((((hS.pick (A := blkA g5 80 y.cells) (by repeat first | exact .here _ _ | assumption | apply Pick.there)).pick (A := blkA g13 91 x.cells) (by repeat first | exact .here _ _ | assumption | apply Pick.there)).pick (A := blkA g11 89 _) (by repeat first | exact .here _ _ | assumption | apply Pick.there)).pick (A := blkA g10 89 _) (by repeat first | exact .here _ _ | assumption | apply Pick.there)).pick (A := dskA gd _) (by repeat first | exact .here _ _ | assumption | apply Pick.there)).pick (A := blA gt gd _) (by repeat first | exact .here _ _ | assumption | apply Pick.there))).front6⟩)
          ·
            clear hcr
            clear hE0
            rintro σ w ⟨c, r, d, br, hG, hgb, hbr70, hdc, hc2, hok2, hwf, hhf, hS⟩
            refine c_seq ?_
            refine c_region ?_
            refine t_q (q_mv (.pointer _) rfl) ?_
            refine t_call Try.call44 (down_calls hS (by repeat first | exact .here _ _ | assumption | apply Pick.there)) rfl ?_
            rintro e w ⟨rfl, hS⟩
            refine ⟨_, rfl, ?_⟩
            refine t_nil ?_
            refine c_cond rfl ?_ ?_
            · intro hc21
              have hbr : br = true := hgb.symm.trans hc21
              subst hbr
              obtain ⟨h70, harg⟩ := hbr70 rfl
              have hH := hhf rfl
              have harg2 : tm ≤ 4611686018427387904 ∧ -1 ≤ x.vote ∧ x.vote ≤ 6 := by unfold bsArg at harg; omega
              refine c_seq ?_
              refine c_region ?_
              refine t_q (q_mv (.int _ _) rfl) ?_
              refine t_q (q_fieldAddr 4 Try.runUnderlying91 rfl Try.sizeOf3 (by decide) rfl rfl) ?_
              refine t_q (q_load1 Try.isAgg3 rfl (hS.cell (by repeat first | exact .here _ _ | assumption | apply Pick.there) rfl)) ?_
              refine t_q (q_add_i64 rfl rfl (by omega)) ?_
              refine t_q (q_cast (v' := .int .u64 ((x.vote + 1).toNat : Int)) (q_conv_u64 Try.runUnderlying3 Try.runUnderlying43 rfl (by omega)) (by congr 1; omega)) ?_
              refine t_q (q_build (qs := [(0, 1), (1, 1)]) [(.int _ _), (.int _ _)] Try.zeroValue89 Try.runUnderlying89 ⟨rfl, Try.sizeOf43, rfl, Try.sizeOf43, trivial⟩ rfl rfl) ?_
              refine t_store (v := (.agg _)) Try.sizeOf89 hS (by repeat first | exact .here _ _ | assumption | apply Pick.there) rfl rfl rfl rfl rfl rfl (fun w hS => ?_)
              replace hS := hS.recast (show blkA g11 89 _ = blkA g11 89 [.int .u64 (((bsX tm x.vote)).1 : Int), .int .u64 (((bsX tm x.vote)).2 : Int)] from rfl)
              refine t_nil ?_
              refine c_seq ?_
              refine c_seq ?_
              refine c_region ?_
              refine t_q (q_mv (.int _ _) rfl) ?_
              refine t_q (q_cast (v' := .bool false) (q_neq rfl rfl) (by rw [h70]; rfl)) ?_
              refine t_q (q_mv (.bool _) rfl) ?_
              refine t_yes rfl rfl rfl ?_
              refine t_q (q_mv (.pointer _) rfl) ?_
              refine t_yes rfl rfl rfl ?_
              refine t_call Try.call55 (bbroken_calls hS (by repeat first | exact .here _ _ | assumption | apply Pick.there)) rfl ?_
              rintro e w ⟨rfl, hS⟩
              refine ⟨_, rfl, ?_⟩
              refine t_yes rfl rfl rfl ?_
              refine t_q (q_not rfl) ?_
              refine t_q (q_pick_f rfl rfl) ?_
              refine t_q (q_mv (.bool _) rfl) ?_
              refine t_yes rfl rfl rfl ?_
              refine t_q (q_mv (.pointer _) rfl) ?_
              refine t_yes rfl rfl rfl ?_
              refine t_q (q_mv (.int _ _) rfl) ?_
              refine t_yes rfl rfl rfl ?_
              refine t_q (q_fieldAddr 4 Try.runUnderlying91 rfl Try.sizeOf3 (by decide) rfl rfl) ?_
              refine t_yes rfl rfl rfl ?_
              refine t_q (q_load1 Try.isAgg3 rfl (hS.cell (by repeat first | exact .here _ _ | assumption | apply Pick.there) rfl)) ?_
              refine t_yes rfl rfl rfl ?_
              refine t_call Try.call49 (bsave_calls (b := (⟨((0 : Nat) : Int), c, ea, r, true⟩ : Bl)) (d := d) (t := tm) (v := x.vote) (((hS.pick (A := dskA gd d) (by repeat first | exact .here _ _ | assumption | apply Pick.there)).pick (A := blA gt gd (⟨((0 : Nat) : Int), c, ea, r, true⟩ : Bl)) (by repeat first | exact .here _ _ | assumption | apply Pick.there))) hc2 htl hxv hok2 hG (by omega) (show (0 : Int) ≤ ((0 : Nat) : Int) ∧ ((0 : Nat) : Int) ≤ 30 by decide)) rfl ?_
              rintro e w ⟨rfl, hS⟩
              refine ⟨_, rfl, ?_⟩
              rw [bsR_1 (b := (⟨((0 : Nat) : Int), c, ea, r, true⟩ : Bl)) rfl]
              rw [bsR_1 (b := (⟨((0 : Nat) : Int), c, ea, r, true⟩ : Bl)) rfl] at hS
              refine t_yes rfl rfl rfl ?_
              refine t_q (q_cast (v' := .bool false) (q_neq rfl rfl) (by rfl)) ?_
              refine t_q (q_pick_f rfl rfl) ?_
              refine t_nil ?_
              refine c_cond_f rfl rfl ?_
              refine c_skip ?_
              refine c_exit ?_
              refine ite_f (by decide) ?_
              refine ite_t rfl ?_
              first
                | exact ⟨r, ((0, 0) : Rc), d, hG, by omega, (fun h => by rw [hg] at h; cases h), (fun _ ns => (hF.crash (by decide) ns).cf), hF.ok, ok0, (((((hS.pick (A := blkA g5 80 y.cells) (by repeat first | exact .here _ _ | assumption | apply Pick.there)).pick (A := blkA g11 89 [.int .u64 ((((0, 0) : Rc)).1 : Int), .int .u64 ((((0, 0) : Rc)).2 : Int)]) (by repeat first | exact .here _ _ | assumption | apply Pick.there)).pick (A := blkA g10 89 [.int .u64 ((r).1 : Int), .int .u64 ((r).2 : Int)]) (by repeat first | exact .here _ _ | assumption | apply Pick.there)).pick (A := dskA gd d) (by repeat first | exact .here _ _ | assumption | apply Pick.there))).front4⟩
                | exact ⟨r, (bsX tm x.vote), d, hG, by omega, (fun _ => hH), (fun h => by rw [hgb] at h; cases h), hok2, bsX_ok harg, (((((hS.pick (A := blkA g5 80 y.cells) (by repeat first | exact .here _ _ | assumption | apply Pick.there)).pick (A := blkA g11 89 [.int .u64 (((bsX tm x.vote)).1 : Int), .int .u64 (((bsX tm x.vote)).2 : Int)]) (by repeat first | exact .here _ _ | assumption | apply Pick.there)).pick (A := blkA g10 89 [.int .u64 ((r).1 : Int), .int .u64 ((r).2 : Int)]) (by repeat first | exact .here _ _ | assumption | apply Pick.there)).pick (A := dskA gd d) (by repeat first | exact .here _ _ | assumption | apply Pick.there))).front4⟩
            · intro hc21
              have hbr : br = false := hgb.symm.trans hc21
              subst hbr
              obtain ⟨hfu2, hF2⟩ := hwf rfl
              refine c_skip ?_
              refine c_region ?_
              refine t_q (q_add_i64 rfl rfl (by omega)) ?_
              refine t_q (q_mv (.int _ _) rfl) ?_
              refine t_nil ?_
              exact ⟨k - 1, by omega, j + 1, c, r, d, rfl, by omega, by omega, hG, hgb, hfu2, by omega, hF2, ((((((hS.pick (A := blkA g5 80 y.cells) (by repeat first | exact .here _ _ | assumption | apply Pick.there)).pick (A := blkA g11 89 [.int .u64 ((((0, 0) : Rc)).1 : Int), .int .u64 ((((0, 0) : Rc)).2 : Int)]) (by repeat first | exact .here _ _ | assumption | apply Pick.there)).pick (A := blkA g10 89 [.int .u64 ((r).1 : Int), .int .u64 ((r).2 : Int)]) (by repeat first | exact .here _ _ | assumption | apply Pick.there)).pick (A := dskA gd d) (by repeat first | exact .here _ _ | assumption | apply Pick.there)).pick (A := blA gt gd (⟨((0 : Nat) : Int), c, ea, r, false⟩ : Bl)) (by repeat first | exact .here _ _ | assumption | apply Pick.there))).front5⟩
        · intro hc14
          have hc14d := of_decide_eq_false hc14
          refine c_exit ?_
          refine ite_t rfl ?_
          first
            | exact ⟨r, ((0, 0) : Rc), d, hG, by omega, (fun h => by rw [hg] at h; cases h), (fun _ ns => (hF.crash (by decide) ns).cf), hF.ok, ok0, (((((hS.pick (A := blkA g5 80 y.cells) (by repeat first | exact .here _ _ | assumption | apply Pick.there)).pick (A := blkA g11 89 [.int .u64 ((((0, 0) : Rc)).1 : Int), .int .u64 ((((0, 0) : Rc)).2 : Int)]) (by repeat first | exact .here _ _ | assumption | apply Pick.there)).pick (A := blkA g10 89 [.int .u64 ((r).1 : Int), .int .u64 ((r).2 : Int)]) (by repeat first | exact .here _ _ | assumption | apply Pick.there)).pick (A := dskA gd d) (by repeat first | exact .here _ _ | assumption | apply Pick.there))).front4⟩
            | exact ⟨r, (bsX tm x.vote), d, hG, by omega, (fun _ => hH), (fun h => by rw [hgb] at h; cases h), hok2, bsX_ok harg, (((((hS.pick (A := blkA g5 80 y.cells) (by repeat first | exact .here _ _ | assumption | apply Pick.there)).pick (A := blkA g11 89 [.int .u64 (((bsX tm x.vote)).1 : Int), .int .u64 (((bsX tm x.vote)).2 : Int)]) (by repeat first | exact .here _ _ | assumption | apply Pick.there)).pick (A := blkA g10 89 [.int .u64 ((r).1 : Int), .int .u64 ((r).2 : Int)]) (by repeat first | exact .here _ _ | assumption | apply Pick.there)).pick (A := dskA gd d) (by repeat first | exact .here _ _ | assumption | apply Pick.there))).front4⟩
      ·
        rintro σ w ⟨r, z, d, hG, hdc, hO1, hO2, hok2, hok3, hS⟩
        refine c_seq ?_
        refine c_region ?_
        refine t_q (q_mv (.pointer _) rfl) ?_
        refine t_call Try.call44 (down_calls hS (by repeat first | exact .here _ _ | assumption | apply Pick.there)) rfl ?_
        rintro e w ⟨rfl, hS⟩
        refine ⟨_, rfl, ?_⟩
        refine t_q (q_as (.bool _) rfl) ?_
        refine t_nil ?_
        refine c_seq ?_
        refine c_region ?_
        refine t_q (q_mv (.pointer _) rfl) ?_
        refine t_q (q_fieldAddr 1 Try.runUnderlying80 rfl Try.sizeOf26 (by decide) rfl rfl) ?_
        refine t_q (q_load1 Try.isAgg26 rfl (hS.cell (by repeat first | exact .here _ _ | assumption | apply Pick.there) rfl)) ?_
        refine t_call Try.call45 (crash_calls (ns := y.keep.l) hS (by repeat first | exact .here _ _ | assumption | apply Pick.there) hG (fun w h => Rd.st hyk h) (by omega)) rfl ?_
        rintro e w ⟨rfl, hS⟩
        refine ⟨_, rfl, ?_⟩
        refine t_nil ?_
        refine c_seq ?_
        refine c_region ?_
        refine t_q (q_mv (.pointer _) rfl) ?_
        refine t_q (q_mv (.int _ _) rfl) ?_
        refine t_call Try.call47 (bopen_calls (d := crD y.keep.l d) (n := 0) (ea := ea) ((hS.pick (A := dskA gd _) (by repeat first | exact .here _ _ | assumption | apply Pick.there))) (by decide) ⟨by omega, by omega⟩ (hG.crash _) (by rfl) (by show (-1 : Int) < 0; decide) (by show d.calls ≤ _; omega) (by
  cases hgn : d.gone with
  | true => exact (hO1 hgn y.keep.l).1
  | false => exact (hO2 hgn y.keep.l).1)) rfl ?_
        rintro e w ⟨gt1, rfl, hS⟩
        refine ⟨_, rfl, ?_⟩
        have hB7 := (btl_in ((crD y.keep.l d).F 0).1 ((crD y.keep.l d).F (0 + 1)).1)
        have hB72 : (btl ((crD y.keep.l d).F 0).1 ((crD y.keep.l d).F (0 + 1)).1).1.2 ≤ 7 := hB7.2
        refine t_q (q_mv (.tuple _) rfl) ?_
        refine t_q (q_extract rfl rfl) ?_
        refine t_q (q_extract rfl rfl) ?_
        refine t_q (q_as (.pointer _) rfl) ?_
        refine t_q (q_as (.int _ _) rfl) ?_
        refine t_nil ?_
        refine c_seq ?_
        refine c_seq ?_
        refine c_region ?_
        refine t_q (q_mv (.int _ _) rfl) ?_
        refine t_q (q_cast (v' := .bool false) (q_neq rfl rfl) (by rfl)) ?_
        refine t_nil ?_
        refine c_cond_f rfl rfl ?_
        refine c_skip ?_
        refine c_seq ?_
        refine c_region ?_
        refine t_q (q_mv (.pointer _) rfl) ?_
        refine t_call Try.call53 (bterm_calls hS (by repeat first | exact .here _ _ | assumption | apply Pick.there)) rfl ?_
        rintro e w ⟨rfl, hS⟩
        refine ⟨_, rfl, ?_⟩
        refine t_q (q_mv (.pointer _) rfl) ?_
        refine t_call Try.call54 (bvote_r (b := ⟨((0 : Nat) : Int), (if (btl ((crD y.keep.l d).F 0).1 ((crD y.keep.l d).F (0 + 1)).1).2.1 = true then (1 : Int) else 0), ea, (btl ((crD y.keep.l d).F 0).1 ((crD y.keep.l d).F (0 + 1)).1).1, false⟩) (r := (btl ((crD y.keep.l d).F 0).1 ((crD y.keep.l d).F (0 + 1)).1).1) rfl hB72 hS (by repeat first | exact .here _ _ | assumption | apply Pick.there)) rfl ?_
        rintro e w ⟨rfl, hS⟩
        refine ⟨_, rfl, ?_⟩
        refine t_q (q_add_i64 rfl rfl (by omega)) ?_
        refine t_q (q_cast (v' := .int .u64 (((btl ((crD y.keep.l d).F 0).1 ((crD y.keep.l d).F (0 + 1)).1).1.2 : Nat) : Int)) (q_conv_u64 Try.runUnderlying3 Try.runUnderlying43 rfl (by omega)) (by congr 1; omega)) ?_
        refine t_q (q_build (qs := [(0, 1), (1, 1)]) [(.int _ _), (.int _ _)] Try.zeroValue89 Try.runUnderlying89 ⟨rfl, Try.sizeOf43, rfl, Try.sizeOf43, trivial⟩ rfl rfl) ?_
        refine t_alloc Try.zeroValue89 rfl hS (fun g17 w hS => ?_)
        refine t_store (v := (.agg _)) Try.sizeOf89 hS (by repeat first | exact .here _ _ | assumption | apply Pick.there) rfl rfl rfl rfl rfl rfl (fun w hS => ?_)
        replace hS := hS.recast (show blkA g17 89 _ = blkA g17 89 [.int .u64 (((btl ((crD y.keep.l d).F 0).1 ((crD y.keep.l d).F (0 + 1)).1).1).1 : Int), .int .u64 (((btl ((crD y.keep.l d).F 0).1 ((crD y.keep.l d).F (0 + 1)).1).1).2 : Int)] from rfl)
        refine t_nil ?_
        refine c_seq ?_
        refine c_region ?_
        refine t_q (q_load_blk Try.isAgg89 Try.sizeOf89 rfl (hS.blk (by repeat first | exact .here _ _ | assumption | apply Pick.there)) rfl) ?_
        refine t_q (q_load_blk Try.isAgg89 Try.sizeOf89 rfl (hS.blk (by repeat first | exact .here _ _ | assumption | apply Pick.there)) rfl) ?_
        refine t_q (rc_eq89 (e := (btl ((crD y.keep.l d).F 0).1 ((crD y.keep.l d).F (0 + 1)).1).1) (q := r) rfl rfl hB7 hok2) ?_
        refine t_q (q_mv (.bool _) rfl) ?_
        refine t_case 121 rfl ?_ ?_
        · intro hg35
          refine t_no rfl rfl (by rw [hg35]; decide) ?_
          refine t_no rfl rfl (by rw [hg35]; decide) ?_
          refine t_nu rfl rfl ?_
          refine t_nu rfl rfl ?_
          refine t_nu rfl rfl ?_
          refine t_no rfl rfl (by rw [hg35]; decide) ?_
          refine t_q (q_pick_t rfl hg35) ?_
          refine t_q (q_mv (.bool _) rfl) ?_
          refine t_yes rfl rfl rfl ?_
          refine t_call Try.call46 (blives_calls) rfl ?_
          rintro e w ⟨rfl, hT⟩
          refine ⟨_, rfl, ?_⟩
          replace hS := hS.after hT
          refine t_q (q_pick_t rfl rfl) ?_
          refine t_q (q_as (.bool _) rfl) ?_
          refine t_nil ?_
          refine c_ret ?_
          refine r_one rfl rfl ?_
          first
            | exact ⟨rfl, hS.nil⟩
            | (exfalso
               exact of_decide_eq_false (by assumption) ((hO2 (by assumption) y.keep.l).2.elim id id))
        · intro hg35
          refine t_yes rfl rfl hg35 ?_
          refine t_q (q_mv (.bool _) rfl) ?_
          refine t_yes rfl rfl hg35 ?_
          refine t_q (q_mv (.bool _) rfl) ?_
          refine t_case 123 rfl ?_ ?_
          · intro hg37
            refine t_yes rfl rfl hg37 ?_
            refine t_q (q_load_blk Try.isAgg89 Try.sizeOf89 rfl (hS.blk (by repeat first | exact .here _ _ | assumption | apply Pick.there)) rfl) ?_
            refine t_yes rfl rfl hg37 ?_
            refine t_q (q_load_blk Try.isAgg89 Try.sizeOf89 rfl (hS.blk (by repeat first | exact .here _ _ | assumption | apply Pick.there)) rfl) ?_
            refine t_yes rfl rfl hg37 ?_
            refine t_q (q_cast (v' := .bool true) (rc_eq89 (e := (btl ((crD y.keep.l d).F 0).1 ((crD y.keep.l d).F (0 + 1)).1).1) (q := z) rfl rfl hB7 hok3) (congrArg Value.bool (decide_eq_true (((hO1 (by assumption) y.keep.l).2).resolve_left (of_decide_eq_false (by assumption)))))) ?_
            refine t_yes rfl rfl hg35 ?_
            refine t_q (q_pick_t rfl hg37) ?_
            refine t_q (q_pick_f rfl hg35) ?_
            refine t_q (q_mv (.bool _) rfl) ?_
            refine t_yes rfl rfl rfl ?_
            refine t_call Try.call46 (blives_calls) rfl ?_
            rintro e w ⟨rfl, hT⟩
            refine ⟨_, rfl, ?_⟩
            replace hS := hS.after hT
            refine t_q (q_pick_t rfl rfl) ?_
            refine t_q (q_as (.bool _) rfl) ?_
            refine t_nil ?_
            refine c_ret ?_
            refine r_one rfl rfl ?_
            first
              | exact ⟨rfl, hS.nil⟩
              | (exfalso
                 exact of_decide_eq_false (by assumption) ((hO2 (by assumption) y.keep.l).2.elim id id))
          · intro hg37
            refine t_no rfl rfl (by rw [hg37]; decide) ?_
            refine t_no rfl rfl (by rw [hg37]; decide) ?_
            refine t_no rfl rfl (by rw [hg37]; decide) ?_
            refine t_yes rfl rfl hg35 ?_
            refine t_q (q_pick_f rfl hg37) ?_
            refine t_q (q_pick_f rfl hg35) ?_
            refine t_q (q_mv (.bool _) rfl) ?_
            refine t_no rfl rfl (by decide) ?_
            refine t_q (q_pick_f rfl rfl) ?_
            refine t_q (q_as (.bool _) rfl) ?_
            refine t_nil ?_
            refine c_ret ?_
            refine r_one rfl rfl ?_
            first
              | exact ⟨rfl, hS.nil⟩
              | (exfalso
                 exact of_decide_eq_false (by assumption) ((hO2 (by assumption) y.keep.l).2.elim id id))
end Go.Proofs.Ytlppgpidakfnlaa
