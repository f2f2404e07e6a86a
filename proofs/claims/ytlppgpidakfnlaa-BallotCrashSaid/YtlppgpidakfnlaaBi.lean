/- Ballots: saving. -/
import Derived.Test.YtlppgpidakfnlaaBg
import Derived.Test.YtlppgpidakfnlaaMk
import Derived.Test.YtlppgpidakfnlaaCe
import Derived.Test.YtlppgpidakfnlaaPb
namespace Go.Proofs.Ytlppgpidakfnlaa
open Go Go.RowKit Go.Lib
variable {W : World}
def blK (g gd : Nat) (f0 cn ea : Int) (r : Rc) : Asn := exA fun x : Bool => blkA g 107 [.pointer (some ⟨gd, 0, none⟩), .int .i64 f0, .int .i64 (f0 + 1), .int .i64 cn, .int .i64 ea, .int .u64 ((r).1 : Int), .int .u64 ((r).2 : Int), .bool x]
attribute [local irreducible] blkA rowA rdrA rdO dskA
set_option maxRecDepth 100000 in
theorem bsave_nil {t v : Int} : Calls Try.prog 49 #[.pointer none, .int .u64 t, .int .i64 v] W fun e w' => e = .returned (.int .i64 1) ∧ St W w' [] := by
  have hS := St.init W
  refine calls_of_wpE (args := [_, _, _]) Try.func49 rfl rfl rfl ?_
  refine c_seq ?_
  refine c_region ?_
  refine t_q (q_assign) ?_
  refine t_nil ?_
  refine c_seq ?_
  refine c_block ?_
  refine c_seq ?_
  refine c_region ?_
  refine t_q (q_mv (.pointer _) rfl) ?_
  refine t_call Try.call98 (bnone_nil) rfl ?_
  rintro e w ⟨rfl, hT⟩
  refine ⟨_, rfl, ?_⟩
  replace hS := hS.after hT
  refine t_q (q_as (.bool _) rfl) ?_
  refine t_nil ?_
  refine c_cond_t rfl rfl ?_
  refine c_seq ?_
  refine c_region ?_
  refine t_q (q_assign) ?_
  refine t_nil ?_
  refine c_ret ?_
  refine r_one rfl rfl ?_
  exact ⟨rfl, hS.nil⟩
set_option maxRecDepth 100000 in
theorem bsave_zero {w : World} {L R : List Asn} {g : Nat} {vs : List Value} {t v : Int} (hS : St W w L) (pk : Pick L (blkA g 107 (.pointer none :: vs)) R) : Calls Try.prog 49 #[.pointer (some ⟨g, 0, none⟩), .int .u64 t, .int .i64 v] w fun e w' => e = .returned (.int .i64 1) ∧ St W w' (blkA g 107 (.pointer none :: vs) :: R) := by
  replace hS := hS.pick pk
  clear pk
  refine calls_of_wpE (args := [_, _, _]) Try.func49 rfl rfl rfl ?_
  refine c_seq ?_
  refine c_region ?_
  refine t_q (q_assign) ?_
  refine t_nil ?_
  refine c_seq ?_
  refine c_block ?_
  refine c_seq ?_
  refine c_region ?_
  refine t_q (q_mv (.pointer _) rfl) ?_
  refine t_call Try.call98 (bnone_zero hS (by repeat first | exact .here _ _ | assumption | apply Pick.there)) rfl ?_
  rintro e w ⟨rfl, hS⟩
  refine ⟨_, rfl, ?_⟩
  refine t_q (q_as (.bool _) rfl) ?_
  refine t_nil ?_
  refine c_cond_t rfl rfl ?_
  refine c_seq ?_
  refine c_region ?_
  refine t_q (q_assign) ?_
  refine t_nil ?_
  refine c_ret ?_
  refine r_one rfl rfl ?_
  exact ⟨rfl, hS⟩
set_option maxHeartbeats 2000000 in
set_option maxRecDepth 100000 in
theorem bsave_0 {w : World} {R : List Asn} {g gd : Nat} {f0 ea : Int} {r : Rc} {br : Bool} {d : Dk} {t : Nat} {v : Int} (hS : St W w (blA g gd (⟨f0, 0, ea, r, br⟩ : Bl) :: dskA gd d :: R)) (ht : t < 18446744073709551616) (hv : -9223372036854775808 ≤ v ∧ v ≤ 9223372036854775807) (hr : recOk r) (hG : DGood d) (hc : d.calls ≤ 999999000) (hf : 0 ≤ f0 ∧ f0 ≤ 30) :
  Calls Try.prog 49 #[.pointer (some ⟨g, 0, none⟩), .int .u64 (t : Int), .int .i64 v] w fun e w' => e = .returned (.int .i64 (bsR d (⟨f0, 0, ea, r, br⟩ : Bl) t v).1) ∧ St W w' (blA g gd (bsR d (⟨f0, 0, ea, r, br⟩ : Bl) t v).2.1 :: dskA gd (bsR d (⟨f0, 0, ea, r, br⟩ : Bl) t v).2.2 :: R) := by
  replace hS : St W w (blkA g 107 [.pointer (some ⟨gd, 0, none⟩), .int .i64 f0, .int .i64 (f0 + 1), .int .i64 0, .int .i64 ea, .int .u64 ((r).1 : Int), .int .u64 ((r).2 : Int), .bool br] :: dskA gd d :: R) := hS
  refine calls_of_wpE (args := [_, _, _]) Try.func49 rfl rfl rfl ?_
  refine c_seq ?_
  refine c_region ?_
  refine t_q (q_assign) ?_
  refine t_nil ?_
  refine c_seq ?_
  refine c_block ?_
  refine c_seq ?_
  refine c_region ?_
  refine t_q (q_mv (.pointer _) rfl) ?_
  refine t_call Try.call98 (bnone_calls hS (by repeat first | exact .here _ _ | assumption | apply Pick.there)) rfl ?_
  rintro e w ⟨rfl, hS⟩
  refine ⟨_, rfl, ?_⟩
  refine t_q (q_as (.bool _) rfl) ?_
  refine t_nil ?_
  refine c_cond_f rfl rfl ?_
  refine c_seq ?_
  refine c_region ?_
  refine t_q (q_mv (.pointer _) rfl) ?_
  refine t_q (q_nilCheck rfl) ?_
  refine t_q (q_fieldAddr 7 Try.runUnderlying107 rfl Try.sizeOf4 (by decide) rfl rfl) ?_
  refine t_q (q_load1 Try.isAgg4 rfl (hS.cell (by repeat first | exact .here _ _ | assumption | apply Pick.there) rfl)) ?_
  refine t_q (q_as (.bool _) rfl) ?_
  refine t_nil ?_
  refine c_cond rfl ?_ ?_
  · intro hc3
    obtain rfl : br = true := hc3
    refine c_seq ?_
    refine c_region ?_
    refine t_q (q_assign) ?_
    refine t_nil ?_
    refine c_ret ?_
    refine r_one rfl rfl ?_
    first
      | (rw [bsR_1 (b := ⟨f0, 0, ea, r, true⟩) rfl]; exact ⟨rfl, (((hS).pick (A := dskA gd _) (by repeat first | exact .here _ _ | assumption | apply Pick.there)).pick (A := blkA g 107 _) (by repeat first | exact .here _ _ | assumption | apply Pick.there))⟩)
      | (rw [bsR_2 (b := (⟨f0, 0, ea, r, false⟩ : Bl)) rfl harg]; exact ⟨rfl, (((hS).pick (A := dskA gd _) (by repeat first | exact .here _ _ | assumption | apply Pick.there)).pick (A := blkA g 107 _) (by repeat first | exact .here _ _ | assumption | apply Pick.there))⟩)
      | (rw [bsR_3 (b := (⟨f0, 0, ea, r, false⟩ : Bl)) rfl harg hX]; exact ⟨rfl, ((((hS.pick (A := blkA g7 105 [.int .u64 (((bsX t v)).1 : Int), .int .u64 (((bsX t v)).2 : Int)]) (by repeat first | exact .here _ _ | assumption | apply Pick.there)).drop).pick (A := dskA gd _) (by repeat first | exact .here _ _ | assumption | apply Pick.there)).pick (A := blkA g 107 _) (by repeat first | exact .here _ _ | assumption | apply Pick.there))⟩)
      | (rw [bsR_4 (b := (⟨f0, 0, ea, r, false⟩ : Bl)) rfl harg hX hA]; exact ⟨rfl, ((((hS.pick (A := blkA g7 105 [.int .u64 (((bsX t v)).1 : Int), .int .u64 (((bsX t v)).2 : Int)]) (by repeat first | exact .here _ _ | assumption | apply Pick.there)).drop).pick (A := dskA gd _) (by repeat first | exact .here _ _ | assumption | apply Pick.there)).pick (A := blkA g 107 _) (by repeat first | exact .here _ _ | assumption | apply Pick.there))⟩)
      | (rw [bsR_5 (b := (⟨f0, 0, ea, r, false⟩ : Bl)) rfl harg hX hA hE1]; exact ⟨rfl, (((((((hS.pick (A := rowA 5 1 A59 m59 c59 ((recB (bsX t v)).map bv)) (by repeat first | exact .here _ _ | assumption | apply Pick.there)).pick (A := rowA 5 1 A58 (enc t ++ enc (v + 1).toNat).length c58 ((enc t ++ enc (v + 1).toNat).map bv)) (by repeat first | exact .here _ _ | assumption | apply Pick.there)).pick (A := wrA g8 (enc t ++ enc (v + 1).toNat)) (by repeat first | exact .here _ _ | assumption | apply Pick.there)).pick (A := blkA g7 105 [.int .u64 (((bsX t v)).1 : Int), .int .u64 (((bsX t v)).2 : Int)]) (by repeat first | exact .here _ _ | assumption | apply Pick.there)).drop.drop.drop.drop).pick (A := dskA gd _) (by repeat first | exact .here _ _ | assumption | apply Pick.there)).pick (A := blkA g 107 _) (by repeat first | exact .here _ _ | assumption | apply Pick.there))⟩)
      | (rw [bsR_6 (b := (⟨f0, 0, ea, r, false⟩ : Bl)) rfl harg hX hA hE1 hE2]; exact ⟨rfl, (((((((hS.pick (A := rowA 5 1 A59 m59 c59 ((recB (bsX t v)).map bv)) (by repeat first | exact .here _ _ | assumption | apply Pick.there)).pick (A := rowA 5 1 A58 (enc t ++ enc (v + 1).toNat).length c58 ((enc t ++ enc (v + 1).toNat).map bv)) (by repeat first | exact .here _ _ | assumption | apply Pick.there)).pick (A := wrA g8 (enc t ++ enc (v + 1).toNat)) (by repeat first | exact .here _ _ | assumption | apply Pick.there)).pick (A := blkA g7 105 [.int .u64 (((bsX t v)).1 : Int), .int .u64 (((bsX t v)).2 : Int)]) (by repeat first | exact .here _ _ | assumption | apply Pick.there)).drop.drop.drop.drop).pick (A := dskA gd _) (by repeat first | exact .here _ _ | assumption | apply Pick.there)).pick (A := blkA g 107 _) (by repeat first | exact .here _ _ | assumption | apply Pick.there))⟩)
      | (rw [bsR_7 (b := (⟨f0, 0, ea, r, false⟩ : Bl)) rfl harg hX hA hE1 hE2 hE3]; exact ⟨rfl, (((((((hS.pick (A := rowA 5 1 A59 m59 c59 ((recB (bsX t v)).map bv)) (by repeat first | exact .here _ _ | assumption | apply Pick.there)).pick (A := rowA 5 1 A58 (enc t ++ enc (v + 1).toNat).length c58 ((enc t ++ enc (v + 1).toNat).map bv)) (by repeat first | exact .here _ _ | assumption | apply Pick.there)).pick (A := wrA g8 (enc t ++ enc (v + 1).toNat)) (by repeat first | exact .here _ _ | assumption | apply Pick.there)).pick (A := blkA g7 105 [.int .u64 (((bsX t v)).1 : Int), .int .u64 (((bsX t v)).2 : Int)]) (by repeat first | exact .here _ _ | assumption | apply Pick.there)).drop.drop.drop.drop).pick (A := dskA gd _) (by repeat first | exact .here _ _ | assumption | apply Pick.there)).pick (A := blkA g 107 _) (by repeat first | exact .here _ _ | assumption | apply Pick.there))⟩)
      | (rw [bsR_8 (b := (⟨f0, 0, ea, r, false⟩ : Bl)) rfl harg hX hA hE1 hE2 hE3]; exact ⟨rfl, (((((((hS.pick (A := rowA 5 1 A59 m59 c59 ((recB (bsX t v)).map bv)) (by repeat first | exact .here _ _ | assumption | apply Pick.there)).pick (A := rowA 5 1 A58 (enc t ++ enc (v + 1).toNat).length c58 ((enc t ++ enc (v + 1).toNat).map bv)) (by repeat first | exact .here _ _ | assumption | apply Pick.there)).pick (A := wrA g8 (enc t ++ enc (v + 1).toNat)) (by repeat first | exact .here _ _ | assumption | apply Pick.there)).pick (A := blkA g7 105 [.int .u64 (((bsX t v)).1 : Int), .int .u64 (((bsX t v)).2 : Int)]) (by repeat first | exact .here _ _ | assumption | apply Pick.there)).drop.drop.drop.drop).pick (A := dskA gd _) (by repeat first | exact .here _ _ | assumption | apply Pick.there)).pick (A := blkA g 107 _) (by repeat first | exact .here _ _ | assumption | apply Pick.there))⟩)
  · intro hc3
    obtain rfl : br = false := hc3
    obtain ⟨hG1, hG2, hG3⟩ := bs_good (b := (⟨f0, 0, ea, r, false⟩ : Bl)) (ys := recB (bsX t v)) hG
    obtain ⟨hc1, hc2, hc3⟩ := bs_cal (d := d) (b := (⟨f0, 0, ea, r, false⟩ : Bl)) (ys := recB (bsX t v))
    replace hS : St W w (blkA g 107 [.pointer (some ⟨gd, 0, none⟩), .int .i64 f0, .int .i64 (f0 + 1), .int .i64 0, .int .i64 ea, .int .u64 ((r).1 : Int), .int .u64 ((r).2 : Int), .bool false] :: _) := hS
    refine c_seq ?_
    refine c_region ?_
    refine t_q (q_mv (.int _ _) rfl) ?_
    refine t_q (q_gtr rfl rfl) ?_
    refine t_q (q_mv (.bool _) rfl) ?_
    refine t_case 23 rfl ?_ ?_
    · intro hg5
      have hg5d := of_decide_eq_true hg5
      refine t_no rfl rfl (by rw [hg5]; decide) ?_
      refine t_no rfl rfl (by rw [hg5]; decide) ?_
      refine t_q (q_pick_t rfl hg5) ?_
      refine t_q (q_mv (.bool _) rfl) ?_
      refine t_no rfl rfl (by decide) ?_
      refine t_no rfl rfl (by decide) ?_
      refine t_q (q_pick_t rfl rfl) ?_
      refine t_q (q_as (.bool _) rfl) ?_
      refine t_nil ?_
      refine c_cond_t rfl rfl ?_
      have harg : bsArg t v := by unfold bsArg; omega
      refine c_seq ?_
      refine c_region ?_
      refine t_q (q_assign) ?_
      refine t_nil ?_
      refine c_ret ?_
      refine r_one rfl rfl ?_
      first
        | (rw [bsR_1 (b := ⟨f0, 0, ea, r, true⟩) rfl]; exact ⟨rfl, (((hS).pick (A := dskA gd _) (by repeat first | exact .here _ _ | assumption | apply Pick.there)).pick (A := blkA g 107 _) (by repeat first | exact .here _ _ | assumption | apply Pick.there))⟩)
        | (rw [bsR_2 (b := (⟨f0, 0, ea, r, false⟩ : Bl)) rfl harg]; exact ⟨rfl, (((hS).pick (A := dskA gd _) (by repeat first | exact .here _ _ | assumption | apply Pick.there)).pick (A := blkA g 107 _) (by repeat first | exact .here _ _ | assumption | apply Pick.there))⟩)
        | (rw [bsR_3 (b := (⟨f0, 0, ea, r, false⟩ : Bl)) rfl harg hX]; exact ⟨rfl, ((((hS.pick (A := blkA g7 105 [.int .u64 (((bsX t v)).1 : Int), .int .u64 (((bsX t v)).2 : Int)]) (by repeat first | exact .here _ _ | assumption | apply Pick.there)).drop).pick (A := dskA gd _) (by repeat first | exact .here _ _ | assumption | apply Pick.there)).pick (A := blkA g 107 _) (by repeat first | exact .here _ _ | assumption | apply Pick.there))⟩)
        | (rw [bsR_4 (b := (⟨f0, 0, ea, r, false⟩ : Bl)) rfl harg hX hA]; exact ⟨rfl, ((((hS.pick (A := blkA g7 105 [.int .u64 (((bsX t v)).1 : Int), .int .u64 (((bsX t v)).2 : Int)]) (by repeat first | exact .here _ _ | assumption | apply Pick.there)).drop).pick (A := dskA gd _) (by repeat first | exact .here _ _ | assumption | apply Pick.there)).pick (A := blkA g 107 _) (by repeat first | exact .here _ _ | assumption | apply Pick.there))⟩)
        | (rw [bsR_5 (b := (⟨f0, 0, ea, r, false⟩ : Bl)) rfl harg hX hA hE1]; exact ⟨rfl, (((((((hS.pick (A := rowA 5 1 A59 m59 c59 ((recB (bsX t v)).map bv)) (by repeat first | exact .here _ _ | assumption | apply Pick.there)).pick (A := rowA 5 1 A58 (enc t ++ enc (v + 1).toNat).length c58 ((enc t ++ enc (v + 1).toNat).map bv)) (by repeat first | exact .here _ _ | assumption | apply Pick.there)).pick (A := wrA g8 (enc t ++ enc (v + 1).toNat)) (by repeat first | exact .here _ _ | assumption | apply Pick.there)).pick (A := blkA g7 105 [.int .u64 (((bsX t v)).1 : Int), .int .u64 (((bsX t v)).2 : Int)]) (by repeat first | exact .here _ _ | assumption | apply Pick.there)).drop.drop.drop.drop).pick (A := dskA gd _) (by repeat first | exact .here _ _ | assumption | apply Pick.there)).pick (A := blkA g 107 _) (by repeat first | exact .here _ _ | assumption | apply Pick.there))⟩)
        | (rw [bsR_6 (b := (⟨f0, 0, ea, r, false⟩ : Bl)) rfl harg hX hA hE1 hE2]; exact ⟨rfl, (((((((hS.pick (A := rowA 5 1 A59 m59 c59 ((recB (bsX t v)).map bv)) (by repeat first | exact .here _ _ | assumption | apply Pick.there)).pick (A := rowA 5 1 A58 (enc t ++ enc (v + 1).toNat).length c58 ((enc t ++ enc (v + 1).toNat).map bv)) (by repeat first | exact .here _ _ | assumption | apply Pick.there)).pick (A := wrA g8 (enc t ++ enc (v + 1).toNat)) (by repeat first | exact .here _ _ | assumption | apply Pick.there)).pick (A := blkA g7 105 [.int .u64 (((bsX t v)).1 : Int), .int .u64 (((bsX t v)).2 : Int)]) (by repeat first | exact .here _ _ | assumption | apply Pick.there)).drop.drop.drop.drop).pick (A := dskA gd _) (by repeat first | exact .here _ _ | assumption | apply Pick.there)).pick (A := blkA g 107 _) (by repeat first | exact .here _ _ | assumption | apply Pick.there))⟩)
        | (rw [bsR_7 (b := (⟨f0, 0, ea, r, false⟩ : Bl)) rfl harg hX hA hE1 hE2 hE3]; exact ⟨rfl, (((((((hS.pick (A := rowA 5 1 A59 m59 c59 ((recB (bsX t v)).map bv)) (by repeat first | exact .here _ _ | assumption | apply Pick.there)).pick (A := rowA 5 1 A58 (enc t ++ enc (v + 1).toNat).length c58 ((enc t ++ enc (v + 1).toNat).map bv)) (by repeat first | exact .here _ _ | assumption | apply Pick.there)).pick (A := wrA g8 (enc t ++ enc (v + 1).toNat)) (by repeat first | exact .here _ _ | assumption | apply Pick.there)).pick (A := blkA g7 105 [.int .u64 (((bsX t v)).1 : Int), .int .u64 (((bsX t v)).2 : Int)]) (by repeat first | exact .here _ _ | assumption | apply Pick.there)).drop.drop.drop.drop).pick (A := dskA gd _) (by repeat first | exact .here _ _ | assumption | apply Pick.there)).pick (A := blkA g 107 _) (by repeat first | exact .here _ _ | assumption | apply Pick.there))⟩)
        | (rw [bsR_8 (b := (⟨f0, 0, ea, r, false⟩ : Bl)) rfl harg hX hA hE1 hE2 hE3]; exact ⟨rfl, (((((((hS.pick (A := rowA 5 1 A59 m59 c59 ((recB (bsX t v)).map bv)) (by repeat first | exact .here _ _ | assumption | apply Pick.there)).pick (A := rowA 5 1 A58 (enc t ++ enc (v + 1).toNat).length c58 ((enc t ++ enc (v + 1).toNat).map bv)) (by repeat first | exact .here _ _ | assumption | apply Pick.there)).pick (A := wrA g8 (enc t ++ enc (v + 1).toNat)) (by repeat first | exact .here _ _ | assumption | apply Pick.there)).pick (A := blkA g7 105 [.int .u64 (((bsX t v)).1 : Int), .int .u64 (((bsX t v)).2 : Int)]) (by repeat first | exact .here _ _ | assumption | apply Pick.there)).drop.drop.drop.drop).pick (A := dskA gd _) (by repeat first | exact .here _ _ | assumption | apply Pick.there)).pick (A := blkA g 107 _) (by repeat first | exact .here _ _ | assumption | apply Pick.there))⟩)
    · intro hg5
      have hg5d := of_decide_eq_false hg5
      refine t_yes rfl rfl hg5 ?_
      refine t_q (q_mv (.int _ _) rfl) ?_
      refine t_yes rfl rfl hg5 ?_
      refine t_q (q_lss rfl rfl) ?_
      refine t_q (q_pick_f rfl hg5) ?_
      refine t_q (q_mv (.bool _) rfl) ?_
      refine t_case 27 rfl ?_ ?_
      · intro hg7
        have hg7d := of_decide_eq_true hg7
        refine t_no rfl rfl (by rw [hg7]; decide) ?_
        refine t_no rfl rfl (by rw [hg7]; decide) ?_
        refine t_q (q_pick_t rfl hg7) ?_
        refine t_q (q_as (.bool _) rfl) ?_
        refine t_nil ?_
        refine c_cond_t rfl rfl ?_
        have harg : bsArg t v := by unfold bsArg; omega
        refine c_seq ?_
        refine c_region ?_
        refine t_q (q_assign) ?_
        refine t_nil ?_
        refine c_ret ?_
        refine r_one rfl rfl ?_
        first
          | (rw [bsR_1 (b := ⟨f0, 0, ea, r, true⟩) rfl]; exact ⟨rfl, (((hS).pick (A := dskA gd _) (by repeat first | exact .here _ _ | assumption | apply Pick.there)).pick (A := blkA g 107 _) (by repeat first | exact .here _ _ | assumption | apply Pick.there))⟩)
          | (rw [bsR_2 (b := (⟨f0, 0, ea, r, false⟩ : Bl)) rfl harg]; exact ⟨rfl, (((hS).pick (A := dskA gd _) (by repeat first | exact .here _ _ | assumption | apply Pick.there)).pick (A := blkA g 107 _) (by repeat first | exact .here _ _ | assumption | apply Pick.there))⟩)
          | (rw [bsR_3 (b := (⟨f0, 0, ea, r, false⟩ : Bl)) rfl harg hX]; exact ⟨rfl, ((((hS.pick (A := blkA g7 105 [.int .u64 (((bsX t v)).1 : Int), .int .u64 (((bsX t v)).2 : Int)]) (by repeat first | exact .here _ _ | assumption | apply Pick.there)).drop).pick (A := dskA gd _) (by repeat first | exact .here _ _ | assumption | apply Pick.there)).pick (A := blkA g 107 _) (by repeat first | exact .here _ _ | assumption | apply Pick.there))⟩)
          | (rw [bsR_4 (b := (⟨f0, 0, ea, r, false⟩ : Bl)) rfl harg hX hA]; exact ⟨rfl, ((((hS.pick (A := blkA g7 105 [.int .u64 (((bsX t v)).1 : Int), .int .u64 (((bsX t v)).2 : Int)]) (by repeat first | exact .here _ _ | assumption | apply Pick.there)).drop).pick (A := dskA gd _) (by repeat first | exact .here _ _ | assumption | apply Pick.there)).pick (A := blkA g 107 _) (by repeat first | exact .here _ _ | assumption | apply Pick.there))⟩)
          | (rw [bsR_5 (b := (⟨f0, 0, ea, r, false⟩ : Bl)) rfl harg hX hA hE1]; exact ⟨rfl, (((((((hS.pick (A := rowA 5 1 A59 m59 c59 ((recB (bsX t v)).map bv)) (by repeat first | exact .here _ _ | assumption | apply Pick.there)).pick (A := rowA 5 1 A58 (enc t ++ enc (v + 1).toNat).length c58 ((enc t ++ enc (v + 1).toNat).map bv)) (by repeat first | exact .here _ _ | assumption | apply Pick.there)).pick (A := wrA g8 (enc t ++ enc (v + 1).toNat)) (by repeat first | exact .here _ _ | assumption | apply Pick.there)).pick (A := blkA g7 105 [.int .u64 (((bsX t v)).1 : Int), .int .u64 (((bsX t v)).2 : Int)]) (by repeat first | exact .here _ _ | assumption | apply Pick.there)).drop.drop.drop.drop).pick (A := dskA gd _) (by repeat first | exact .here _ _ | assumption | apply Pick.there)).pick (A := blkA g 107 _) (by repeat first | exact .here _ _ | assumption | apply Pick.there))⟩)
          | (rw [bsR_6 (b := (⟨f0, 0, ea, r, false⟩ : Bl)) rfl harg hX hA hE1 hE2]; exact ⟨rfl, (((((((hS.pick (A := rowA 5 1 A59 m59 c59 ((recB (bsX t v)).map bv)) (by repeat first | exact .here _ _ | assumption | apply Pick.there)).pick (A := rowA 5 1 A58 (enc t ++ enc (v + 1).toNat).length c58 ((enc t ++ enc (v + 1).toNat).map bv)) (by repeat first | exact .here _ _ | assumption | apply Pick.there)).pick (A := wrA g8 (enc t ++ enc (v + 1).toNat)) (by repeat first | exact .here _ _ | assumption | apply Pick.there)).pick (A := blkA g7 105 [.int .u64 (((bsX t v)).1 : Int), .int .u64 (((bsX t v)).2 : Int)]) (by repeat first | exact .here _ _ | assumption | apply Pick.there)).drop.drop.drop.drop).pick (A := dskA gd _) (by repeat first | exact .here _ _ | assumption | apply Pick.there)).pick (A := blkA g 107 _) (by repeat first | exact .here _ _ | assumption | apply Pick.there))⟩)
          | (rw [bsR_7 (b := (⟨f0, 0, ea, r, false⟩ : Bl)) rfl harg hX hA hE1 hE2 hE3]; exact ⟨rfl, (((((((hS.pick (A := rowA 5 1 A59 m59 c59 ((recB (bsX t v)).map bv)) (by repeat first | exact .here _ _ | assumption | apply Pick.there)).pick (A := rowA 5 1 A58 (enc t ++ enc (v + 1).toNat).length c58 ((enc t ++ enc (v + 1).toNat).map bv)) (by repeat first | exact .here _ _ | assumption | apply Pick.there)).pick (A := wrA g8 (enc t ++ enc (v + 1).toNat)) (by repeat first | exact .here _ _ | assumption | apply Pick.there)).pick (A := blkA g7 105 [.int .u64 (((bsX t v)).1 : Int), .int .u64 (((bsX t v)).2 : Int)]) (by repeat first | exact .here _ _ | assumption | apply Pick.there)).drop.drop.drop.drop).pick (A := dskA gd _) (by repeat first | exact .here _ _ | assumption | apply Pick.there)).pick (A := blkA g 107 _) (by repeat first | exact .here _ _ | assumption | apply Pick.there))⟩)
          | (rw [bsR_8 (b := (⟨f0, 0, ea, r, false⟩ : Bl)) rfl harg hX hA hE1 hE2 hE3]; exact ⟨rfl, (((((((hS.pick (A := rowA 5 1 A59 m59 c59 ((recB (bsX t v)).map bv)) (by repeat first | exact .here _ _ | assumption | apply Pick.there)).pick (A := rowA 5 1 A58 (enc t ++ enc (v + 1).toNat).length c58 ((enc t ++ enc (v + 1).toNat).map bv)) (by repeat first | exact .here _ _ | assumption | apply Pick.there)).pick (A := wrA g8 (enc t ++ enc (v + 1).toNat)) (by repeat first | exact .here _ _ | assumption | apply Pick.there)).pick (A := blkA g7 105 [.int .u64 (((bsX t v)).1 : Int), .int .u64 (((bsX t v)).2 : Int)]) (by repeat first | exact .here _ _ | assumption | apply Pick.there)).drop.drop.drop.drop).pick (A := dskA gd _) (by repeat first | exact .here _ _ | assumption | apply Pick.there)).pick (A := blkA g 107 _) (by repeat first | exact .here _ _ | assumption | apply Pick.there))⟩)
      · intro hg7
        have hg7d := of_decide_eq_false hg7
        refine t_yes rfl rfl hg7 ?_
        refine t_q (q_mv (.int _ _) rfl) ?_
        refine t_yes rfl rfl hg7 ?_
        refine t_q (q_geq rfl rfl) ?_
        refine t_q (q_pick_f rfl hg7) ?_
        refine t_q (q_as (.bool _) rfl) ?_
        refine t_nil ?_
        refine c_cond rfl ?_ ?_
        · intro hc9
          have hc9d := of_decide_eq_true hc9
          have harg : bsArg t v := by unfold bsArg; omega
          refine c_seq ?_
          refine c_region ?_
          refine t_q (q_assign) ?_
          refine t_nil ?_
          refine c_ret ?_
          refine r_one rfl rfl ?_
          first
            | (rw [bsR_1 (b := ⟨f0, 0, ea, r, true⟩) rfl]; exact ⟨rfl, (((hS).pick (A := dskA gd _) (by repeat first | exact .here _ _ | assumption | apply Pick.there)).pick (A := blkA g 107 _) (by repeat first | exact .here _ _ | assumption | apply Pick.there))⟩)
            | (rw [bsR_2 (b := (⟨f0, 0, ea, r, false⟩ : Bl)) rfl harg]; exact ⟨rfl, (((hS).pick (A := dskA gd _) (by repeat first | exact .here _ _ | assumption | apply Pick.there)).pick (A := blkA g 107 _) (by repeat first | exact .here _ _ | assumption | apply Pick.there))⟩)
            | (rw [bsR_3 (b := (⟨f0, 0, ea, r, false⟩ : Bl)) rfl harg hX]; exact ⟨rfl, ((((hS.pick (A := blkA g7 105 [.int .u64 (((bsX t v)).1 : Int), .int .u64 (((bsX t v)).2 : Int)]) (by repeat first | exact .here _ _ | assumption | apply Pick.there)).drop).pick (A := dskA gd _) (by repeat first | exact .here _ _ | assumption | apply Pick.there)).pick (A := blkA g 107 _) (by repeat first | exact .here _ _ | assumption | apply Pick.there))⟩)
            | (rw [bsR_4 (b := (⟨f0, 0, ea, r, false⟩ : Bl)) rfl harg hX hA]; exact ⟨rfl, ((((hS.pick (A := blkA g7 105 [.int .u64 (((bsX t v)).1 : Int), .int .u64 (((bsX t v)).2 : Int)]) (by repeat first | exact .here _ _ | assumption | apply Pick.there)).drop).pick (A := dskA gd _) (by repeat first | exact .here _ _ | assumption | apply Pick.there)).pick (A := blkA g 107 _) (by repeat first | exact .here _ _ | assumption | apply Pick.there))⟩)
            | (rw [bsR_5 (b := (⟨f0, 0, ea, r, false⟩ : Bl)) rfl harg hX hA hE1]; exact ⟨rfl, (((((((hS.pick (A := rowA 5 1 A59 m59 c59 ((recB (bsX t v)).map bv)) (by repeat first | exact .here _ _ | assumption | apply Pick.there)).pick (A := rowA 5 1 A58 (enc t ++ enc (v + 1).toNat).length c58 ((enc t ++ enc (v + 1).toNat).map bv)) (by repeat first | exact .here _ _ | assumption | apply Pick.there)).pick (A := wrA g8 (enc t ++ enc (v + 1).toNat)) (by repeat first | exact .here _ _ | assumption | apply Pick.there)).pick (A := blkA g7 105 [.int .u64 (((bsX t v)).1 : Int), .int .u64 (((bsX t v)).2 : Int)]) (by repeat first | exact .here _ _ | assumption | apply Pick.there)).drop.drop.drop.drop).pick (A := dskA gd _) (by repeat first | exact .here _ _ | assumption | apply Pick.there)).pick (A := blkA g 107 _) (by repeat first | exact .here _ _ | assumption | apply Pick.there))⟩)
            | (rw [bsR_6 (b := (⟨f0, 0, ea, r, false⟩ : Bl)) rfl harg hX hA hE1 hE2]; exact ⟨rfl, (((((((hS.pick (A := rowA 5 1 A59 m59 c59 ((recB (bsX t v)).map bv)) (by repeat first | exact .here _ _ | assumption | apply Pick.there)).pick (A := rowA 5 1 A58 (enc t ++ enc (v + 1).toNat).length c58 ((enc t ++ enc (v + 1).toNat).map bv)) (by repeat first | exact .here _ _ | assumption | apply Pick.there)).pick (A := wrA g8 (enc t ++ enc (v + 1).toNat)) (by repeat first | exact .here _ _ | assumption | apply Pick.there)).pick (A := blkA g7 105 [.int .u64 (((bsX t v)).1 : Int), .int .u64 (((bsX t v)).2 : Int)]) (by repeat first | exact .here _ _ | assumption | apply Pick.there)).drop.drop.drop.drop).pick (A := dskA gd _) (by repeat first | exact .here _ _ | assumption | apply Pick.there)).pick (A := blkA g 107 _) (by repeat first | exact .here _ _ | assumption | apply Pick.there))⟩)
            | (rw [bsR_7 (b := (⟨f0, 0, ea, r, false⟩ : Bl)) rfl harg hX hA hE1 hE2 hE3]; exact ⟨rfl, (((((((hS.pick (A := rowA 5 1 A59 m59 c59 ((recB (bsX t v)).map bv)) (by repeat first | exact .here _ _ | assumption | apply Pick.there)).pick (A := rowA 5 1 A58 (enc t ++ enc (v + 1).toNat).length c58 ((enc t ++ enc (v + 1).toNat).map bv)) (by repeat first | exact .here _ _ | assumption | apply Pick.there)).pick (A := wrA g8 (enc t ++ enc (v + 1).toNat)) (by repeat first | exact .here _ _ | assumption | apply Pick.there)).pick (A := blkA g7 105 [.int .u64 (((bsX t v)).1 : Int), .int .u64 (((bsX t v)).2 : Int)]) (by repeat first | exact .here _ _ | assumption | apply Pick.there)).drop.drop.drop.drop).pick (A := dskA gd _) (by repeat first | exact .here _ _ | assumption | apply Pick.there)).pick (A := blkA g 107 _) (by repeat first | exact .here _ _ | assumption | apply Pick.there))⟩)
            | (rw [bsR_8 (b := (⟨f0, 0, ea, r, false⟩ : Bl)) rfl harg hX hA hE1 hE2 hE3]; exact ⟨rfl, (((((((hS.pick (A := rowA 5 1 A59 m59 c59 ((recB (bsX t v)).map bv)) (by repeat first | exact .here _ _ | assumption | apply Pick.there)).pick (A := rowA 5 1 A58 (enc t ++ enc (v + 1).toNat).length c58 ((enc t ++ enc (v + 1).toNat).map bv)) (by repeat first | exact .here _ _ | assumption | apply Pick.there)).pick (A := wrA g8 (enc t ++ enc (v + 1).toNat)) (by repeat first | exact .here _ _ | assumption | apply Pick.there)).pick (A := blkA g7 105 [.int .u64 (((bsX t v)).1 : Int), .int .u64 (((bsX t v)).2 : Int)]) (by repeat first | exact .here _ _ | assumption | apply Pick.there)).drop.drop.drop.drop).pick (A := dskA gd _) (by repeat first | exact .here _ _ | assumption | apply Pick.there)).pick (A := blkA g 107 _) (by repeat first | exact .here _ _ | assumption | apply Pick.there))⟩)
        · intro hc9
          have hc9d := of_decide_eq_false hc9
          have harg : ¬ bsArg t v := by unfold bsArg; omega
          have harg2 : t ≤ 4611686018427387904 ∧ -1 ≤ v ∧ v ≤ 6 := by unfold bsArg at harg; omega
          refine c_skip ?_
          refine c_seq ?_
          refine c_region ?_
          refine t_q (q_mv (.int _ _) rfl) ?_
          refine t_q (q_mv (.int _ _) rfl) ?_
          refine t_q (q_add_i64 rfl rfl (by omega)) ?_
          refine t_q (q_cast (v' := .int .u64 ((v + 1).toNat : Int)) (q_conv_u64 Try.runUnderlying3 Try.runUnderlying43 rfl (by omega)) (by congr 1; omega)) ?_
          refine t_q (q_build (qs := [(0, 1), (1, 1)]) [(.int _ _), (.int _ _)] Try.zeroValue105 Try.runUnderlying105 ⟨rfl, Try.sizeOf43, rfl, Try.sizeOf43, trivial⟩ rfl rfl) ?_
          refine t_alloc Try.zeroValue105 rfl hS (fun g7 w hS => ?_)
          refine t_store (v := (.agg _)) Try.sizeOf105 hS (by repeat first | exact .here _ _ | assumption | apply Pick.there) rfl rfl rfl rfl rfl rfl (fun w hS => ?_)
          replace hS := hS.recast (show blkA g7 105 _ = blkA g7 105 [.int .u64 (((bsX t v)).1 : Int), .int .u64 (((bsX t v)).2 : Int)] from rfl)
          refine t_nil ?_
          refine c_seq ?_
          refine c_block ?_
          refine c_seq ?_
          refine c_draw ?_
          refine d_quiet 7 [0, 1, 2, 3, 4, 5, 6] [0, 1, 2, 3, 4, 5, 6] hS rfl (by kernel_rfl) (by kernel_rfl) (by kernel_rfl) (by kernel_rfl) (fun hap hsel w hS => ?_)
          refine p_q hap hsel 0 rfl rfl hS (fun w hS => q_load_blk Try.isAgg105 Try.sizeOf105 rfl (hS.blk (by repeat first | exact .here _ _ | assumption | apply Pick.there)) rfl) ?_
          refine p_q hap hsel 1 rfl rfl hS (fun w hS => q_mv (.pointer _) rfl) ?_
          refine p_q hap hsel 2 rfl rfl hS (fun w hS => q_nilCheck rfl) ?_
          refine p_q hap hsel 3 rfl rfl hS (fun w hS => q_fieldAddr 5 Try.runUnderlying107 rfl Try.sizeOf105 (by decide) rfl rfl) ?_
          refine p_q hap hsel 4 rfl rfl hS (fun w hS => (q_cast (v' := .agg #[.int .u64 ((r).1 : Int), .int .u64 ((r).2 : Int)]) (q_load_sub Try.isAgg105 Try.sizeOf105 rfl (hS.blk (by repeat first | exact .here _ _ | assumption | apply Pick.there)) (by show 0 + 5 + 2 ≤ 8; decide)) (rfl))) ?_
          refine p_q hap hsel 5 rfl rfl hS (fun w hS => rc_eq105 (e := (bsX t v)) (q := r) rfl rfl (bsX_ok harg) hr) ?_
          refine p_q hap hsel 6 rfl rfl hS (fun w hS => q_as (.bool _) rfl) ?_
          refine p_end (by kernel_rfl) ?_
          refine c_cond rfl ?_ ?_
          · intro hc11
            have hX : (bsX t v) = r := of_decide_eq_true hc11
            refine c_seq ?_
            refine c_region ?_
            refine t_q (q_assign) ?_
            refine t_nil ?_
            refine c_ret ?_
            refine r_one rfl rfl ?_
            first
              | (rw [bsR_1 (b := ⟨f0, 0, ea, r, true⟩) rfl]; exact ⟨rfl, (((hS).pick (A := dskA gd _) (by repeat first | exact .here _ _ | assumption | apply Pick.there)).pick (A := blkA g 107 _) (by repeat first | exact .here _ _ | assumption | apply Pick.there))⟩)
              | (rw [bsR_2 (b := (⟨f0, 0, ea, r, false⟩ : Bl)) rfl harg]; exact ⟨rfl, (((hS).pick (A := dskA gd _) (by repeat first | exact .here _ _ | assumption | apply Pick.there)).pick (A := blkA g 107 _) (by repeat first | exact .here _ _ | assumption | apply Pick.there))⟩)
              | (rw [bsR_3 (b := (⟨f0, 0, ea, r, false⟩ : Bl)) rfl harg hX]; exact ⟨rfl, ((((hS.pick (A := blkA g7 105 [.int .u64 (((bsX t v)).1 : Int), .int .u64 (((bsX t v)).2 : Int)]) (by repeat first | exact .here _ _ | assumption | apply Pick.there)).drop).pick (A := dskA gd _) (by repeat first | exact .here _ _ | assumption | apply Pick.there)).pick (A := blkA g 107 _) (by repeat first | exact .here _ _ | assumption | apply Pick.there))⟩)
              | (rw [bsR_4 (b := (⟨f0, 0, ea, r, false⟩ : Bl)) rfl harg hX hA]; exact ⟨rfl, ((((hS.pick (A := blkA g7 105 [.int .u64 (((bsX t v)).1 : Int), .int .u64 (((bsX t v)).2 : Int)]) (by repeat first | exact .here _ _ | assumption | apply Pick.there)).drop).pick (A := dskA gd _) (by repeat first | exact .here _ _ | assumption | apply Pick.there)).pick (A := blkA g 107 _) (by repeat first | exact .here _ _ | assumption | apply Pick.there))⟩)
              | (rw [bsR_5 (b := (⟨f0, 0, ea, r, false⟩ : Bl)) rfl harg hX hA hE1]; exact ⟨rfl, (((((((hS.pick (A := rowA 5 1 A59 m59 c59 ((recB (bsX t v)).map bv)) (by repeat first | exact .here _ _ | assumption | apply Pick.there)).pick (A := rowA 5 1 A58 (enc t ++ enc (v + 1).toNat).length c58 ((enc t ++ enc (v + 1).toNat).map bv)) (by repeat first | exact .here _ _ | assumption | apply Pick.there)).pick (A := wrA g8 (enc t ++ enc (v + 1).toNat)) (by repeat first | exact .here _ _ | assumption | apply Pick.there)).pick (A := blkA g7 105 [.int .u64 (((bsX t v)).1 : Int), .int .u64 (((bsX t v)).2 : Int)]) (by repeat first | exact .here _ _ | assumption | apply Pick.there)).drop.drop.drop.drop).pick (A := dskA gd _) (by repeat first | exact .here _ _ | assumption | apply Pick.there)).pick (A := blkA g 107 _) (by repeat first | exact .here _ _ | assumption | apply Pick.there))⟩)
              | (rw [bsR_6 (b := (⟨f0, 0, ea, r, false⟩ : Bl)) rfl harg hX hA hE1 hE2]; exact ⟨rfl, (((((((hS.pick (A := rowA 5 1 A59 m59 c59 ((recB (bsX t v)).map bv)) (by repeat first | exact .here _ _ | assumption | apply Pick.there)).pick (A := rowA 5 1 A58 (enc t ++ enc (v + 1).toNat).length c58 ((enc t ++ enc (v + 1).toNat).map bv)) (by repeat first | exact .here _ _ | assumption | apply Pick.there)).pick (A := wrA g8 (enc t ++ enc (v + 1).toNat)) (by repeat first | exact .here _ _ | assumption | apply Pick.there)).pick (A := blkA g7 105 [.int .u64 (((bsX t v)).1 : Int), .int .u64 (((bsX t v)).2 : Int)]) (by repeat first | exact .here _ _ | assumption | apply Pick.there)).drop.drop.drop.drop).pick (A := dskA gd _) (by repeat first | exact .here _ _ | assumption | apply Pick.there)).pick (A := blkA g 107 _) (by repeat first | exact .here _ _ | assumption | apply Pick.there))⟩)
              | (rw [bsR_7 (b := (⟨f0, 0, ea, r, false⟩ : Bl)) rfl harg hX hA hE1 hE2 hE3]; exact ⟨rfl, (((((((hS.pick (A := rowA 5 1 A59 m59 c59 ((recB (bsX t v)).map bv)) (by repeat first | exact .here _ _ | assumption | apply Pick.there)).pick (A := rowA 5 1 A58 (enc t ++ enc (v + 1).toNat).length c58 ((enc t ++ enc (v + 1).toNat).map bv)) (by repeat first | exact .here _ _ | assumption | apply Pick.there)).pick (A := wrA g8 (enc t ++ enc (v + 1).toNat)) (by repeat first | exact .here _ _ | assumption | apply Pick.there)).pick (A := blkA g7 105 [.int .u64 (((bsX t v)).1 : Int), .int .u64 (((bsX t v)).2 : Int)]) (by repeat first | exact .here _ _ | assumption | apply Pick.there)).drop.drop.drop.drop).pick (A := dskA gd _) (by repeat first | exact .here _ _ | assumption | apply Pick.there)).pick (A := blkA g 107 _) (by repeat first | exact .here _ _ | assumption | apply Pick.there))⟩)
              | (rw [bsR_8 (b := (⟨f0, 0, ea, r, false⟩ : Bl)) rfl harg hX hA hE1 hE2 hE3]; exact ⟨rfl, (((((((hS.pick (A := rowA 5 1 A59 m59 c59 ((recB (bsX t v)).map bv)) (by repeat first | exact .here _ _ | assumption | apply Pick.there)).pick (A := rowA 5 1 A58 (enc t ++ enc (v + 1).toNat).length c58 ((enc t ++ enc (v + 1).toNat).map bv)) (by repeat first | exact .here _ _ | assumption | apply Pick.there)).pick (A := wrA g8 (enc t ++ enc (v + 1).toNat)) (by repeat first | exact .here _ _ | assumption | apply Pick.there)).pick (A := blkA g7 105 [.int .u64 (((bsX t v)).1 : Int), .int .u64 (((bsX t v)).2 : Int)]) (by repeat first | exact .here _ _ | assumption | apply Pick.there)).drop.drop.drop.drop).pick (A := dskA gd _) (by repeat first | exact .here _ _ | assumption | apply Pick.there)).pick (A := blkA g 107 _) (by repeat first | exact .here _ _ | assumption | apply Pick.there))⟩)
          · intro hc11
            have hX : ¬ (bsX t v) = r := of_decide_eq_false hc11
            refine c_seq ?_
            refine c_draw ?_
            refine d_keep2 (blkA g7 105 [.int .u64 (((bsX t v)).1 : Int), .int .u64 (((bsX t v)).2 : Int)]) (blkA g 107 [.pointer (some ⟨gd, 0, none⟩), .int .i64 f0, .int .i64 (f0 + 1), .int .i64 0, .int .i64 ea, .int .u64 ((r).1 : Int), .int .u64 ((r).2 : Int), .bool false]) 8 [0, 1, 2, 3, 4, 5, 6, 7] [0, 1, 2, 3, 4, 5, 6, 7] hS rfl (by kernel_rfl) (by kernel_rfl) (by kernel_rfl) (by kernel_rfl) (fun hap hsel w hS => ?_)
            refine p_q hap hsel 0 rfl rfl ⟨_, ((hS.pick (A := blkA g 107 [.pointer (some ⟨gd, 0, none⟩), .int .i64 f0, .int .i64 (f0 + 1), .int .i64 0, .int .i64 ea, .int .u64 ((r).1 : Int), .int .u64 ((r).2 : Int), .bool false]) (by repeat first | exact .here _ _ | assumption | apply Pick.there)).pick (A := blkA g7 105 [.int .u64 (((bsX t v)).1 : Int), .int .u64 (((bsX t v)).2 : Int)]) (by repeat first | exact .here _ _ | assumption | apply Pick.there))⟩ (fun w hI => q_load_blk Try.isAgg105 Try.sizeOf105 rfl (hI.choose_spec.blk (by repeat first | exact .here _ _ | assumption | apply Pick.there)) rfl) ?_
            refine p_q hap hsel 1 rfl rfl ⟨_, ((hS.pick (A := blkA g 107 [.pointer (some ⟨gd, 0, none⟩), .int .i64 f0, .int .i64 (f0 + 1), .int .i64 0, .int .i64 ea, .int .u64 ((r).1 : Int), .int .u64 ((r).2 : Int), .bool false]) (by repeat first | exact .here _ _ | assumption | apply Pick.there)).pick (A := blkA g7 105 [.int .u64 (((bsX t v)).1 : Int), .int .u64 (((bsX t v)).2 : Int)]) (by repeat first | exact .here _ _ | assumption | apply Pick.there))⟩ (fun w hI => q_mv (.pointer _) rfl) ?_
            refine p_q hap hsel 2 rfl rfl ⟨_, ((hS.pick (A := blkA g 107 [.pointer (some ⟨gd, 0, none⟩), .int .i64 f0, .int .i64 (f0 + 1), .int .i64 0, .int .i64 ea, .int .u64 ((r).1 : Int), .int .u64 ((r).2 : Int), .bool false]) (by repeat first | exact .here _ _ | assumption | apply Pick.there)).pick (A := blkA g7 105 [.int .u64 (((bsX t v)).1 : Int), .int .u64 (((bsX t v)).2 : Int)]) (by repeat first | exact .here _ _ | assumption | apply Pick.there))⟩ (fun w hI => q_nilCheck rfl) ?_
            refine p_q hap hsel 3 rfl rfl ⟨_, ((hS.pick (A := blkA g 107 [.pointer (some ⟨gd, 0, none⟩), .int .i64 f0, .int .i64 (f0 + 1), .int .i64 0, .int .i64 ea, .int .u64 ((r).1 : Int), .int .u64 ((r).2 : Int), .bool false]) (by repeat first | exact .here _ _ | assumption | apply Pick.there)).pick (A := blkA g7 105 [.int .u64 (((bsX t v)).1 : Int), .int .u64 (((bsX t v)).2 : Int)]) (by repeat first | exact .here _ _ | assumption | apply Pick.there))⟩ (fun w hI => q_fieldAddr 5 Try.runUnderlying107 rfl Try.sizeOf105 (by decide) rfl rfl) ?_
            refine p_q hap hsel 4 rfl rfl ⟨_, ((hS.pick (A := blkA g 107 [.pointer (some ⟨gd, 0, none⟩), .int .i64 f0, .int .i64 (f0 + 1), .int .i64 0, .int .i64 ea, .int .u64 ((r).1 : Int), .int .u64 ((r).2 : Int), .bool false]) (by repeat first | exact .here _ _ | assumption | apply Pick.there)).pick (A := blkA g7 105 [.int .u64 (((bsX t v)).1 : Int), .int .u64 (((bsX t v)).2 : Int)]) (by repeat first | exact .here _ _ | assumption | apply Pick.there))⟩ (fun w hI => (q_cast (v' := .agg #[.int .u64 ((r).1 : Int), .int .u64 ((r).2 : Int)]) (q_load_sub Try.isAgg105 Try.sizeOf105 rfl (hI.choose_spec.blk (by repeat first | exact .here _ _ | assumption | apply Pick.there)) (by show 0 + 5 + 2 ≤ 8; decide)) (rfl))) ?_
            refine p_one 5 rfl (by kernel_rfl) ?_
            refine t_call Try.call99 (babv_calls (r := (bsX t v)) (x := r)) rfl ?_
            rintro e w ⟨rfl, hT⟩
            refine ⟨_, rfl, ?_⟩
            replace hS := hS.after hT
            refine t_nil ?_
            refine ⟨.inr ⟨_, ((hS.pick (A := blkA g 107 [.pointer (some ⟨gd, 0, none⟩), .int .i64 f0, .int .i64 (f0 + 1), .int .i64 0, .int .i64 ea, .int .u64 ((r).1 : Int), .int .u64 ((r).2 : Int), .bool false]) (by repeat first | exact .here _ _ | assumption | apply Pick.there)).pick (A := blkA g7 105 [.int .u64 (((bsX t v)).1 : Int), .int .u64 (((bsX t v)).2 : Int)]) (by repeat first | exact .here _ _ | assumption | apply Pick.there))⟩, ?_⟩
            refine p_q hap hsel 6 rfl rfl ⟨_, ((hS.pick (A := blkA g 107 [.pointer (some ⟨gd, 0, none⟩), .int .i64 f0, .int .i64 (f0 + 1), .int .i64 0, .int .i64 ea, .int .u64 ((r).1 : Int), .int .u64 ((r).2 : Int), .bool false]) (by repeat first | exact .here _ _ | assumption | apply Pick.there)).pick (A := blkA g7 105 [.int .u64 (((bsX t v)).1 : Int), .int .u64 (((bsX t v)).2 : Int)]) (by repeat first | exact .here _ _ | assumption | apply Pick.there))⟩ (fun w hI => q_not rfl) ?_
            refine p_q hap hsel 7 rfl rfl ⟨_, ((hS.pick (A := blkA g 107 [.pointer (some ⟨gd, 0, none⟩), .int .i64 f0, .int .i64 (f0 + 1), .int .i64 0, .int .i64 ea, .int .u64 ((r).1 : Int), .int .u64 ((r).2 : Int), .bool false]) (by repeat first | exact .here _ _ | assumption | apply Pick.there)).pick (A := blkA g7 105 [.int .u64 (((bsX t v)).1 : Int), .int .u64 (((bsX t v)).2 : Int)]) (by repeat first | exact .here _ _ | assumption | apply Pick.there))⟩ (fun w hI => q_as (.bool _) rfl) ?_
            refine p_end (by kernel_rfl) ?_
            refine c_cond rfl ?_ ?_
            · intro hc13
              have hA : ¬ abv (bsX t v) r := of_decide_eq_false (not_back hc13)
              refine c_seq ?_
              refine c_region ?_
              refine t_q (q_assign) ?_
              refine t_nil ?_
              refine c_ret ?_
              refine r_one rfl rfl ?_
              first
                | (rw [bsR_1 (b := ⟨f0, 0, ea, r, true⟩) rfl]; exact ⟨rfl, (((hS).pick (A := dskA gd _) (by repeat first | exact .here _ _ | assumption | apply Pick.there)).pick (A := blkA g 107 _) (by repeat first | exact .here _ _ | assumption | apply Pick.there))⟩)
                | (rw [bsR_2 (b := (⟨f0, 0, ea, r, false⟩ : Bl)) rfl harg]; exact ⟨rfl, (((hS).pick (A := dskA gd _) (by repeat first | exact .here _ _ | assumption | apply Pick.there)).pick (A := blkA g 107 _) (by repeat first | exact .here _ _ | assumption | apply Pick.there))⟩)
                | (rw [bsR_3 (b := (⟨f0, 0, ea, r, false⟩ : Bl)) rfl harg hX]; exact ⟨rfl, ((((hS.pick (A := blkA g7 105 [.int .u64 (((bsX t v)).1 : Int), .int .u64 (((bsX t v)).2 : Int)]) (by repeat first | exact .here _ _ | assumption | apply Pick.there)).drop).pick (A := dskA gd _) (by repeat first | exact .here _ _ | assumption | apply Pick.there)).pick (A := blkA g 107 _) (by repeat first | exact .here _ _ | assumption | apply Pick.there))⟩)
                | (rw [bsR_4 (b := (⟨f0, 0, ea, r, false⟩ : Bl)) rfl harg hX hA]; exact ⟨rfl, ((((hS.pick (A := blkA g7 105 [.int .u64 (((bsX t v)).1 : Int), .int .u64 (((bsX t v)).2 : Int)]) (by repeat first | exact .here _ _ | assumption | apply Pick.there)).drop).pick (A := dskA gd _) (by repeat first | exact .here _ _ | assumption | apply Pick.there)).pick (A := blkA g 107 _) (by repeat first | exact .here _ _ | assumption | apply Pick.there))⟩)
                | (rw [bsR_5 (b := (⟨f0, 0, ea, r, false⟩ : Bl)) rfl harg hX hA hE1]; exact ⟨rfl, (((((((hS.pick (A := rowA 5 1 A59 m59 c59 ((recB (bsX t v)).map bv)) (by repeat first | exact .here _ _ | assumption | apply Pick.there)).pick (A := rowA 5 1 A58 (enc t ++ enc (v + 1).toNat).length c58 ((enc t ++ enc (v + 1).toNat).map bv)) (by repeat first | exact .here _ _ | assumption | apply Pick.there)).pick (A := wrA g8 (enc t ++ enc (v + 1).toNat)) (by repeat first | exact .here _ _ | assumption | apply Pick.there)).pick (A := blkA g7 105 [.int .u64 (((bsX t v)).1 : Int), .int .u64 (((bsX t v)).2 : Int)]) (by repeat first | exact .here _ _ | assumption | apply Pick.there)).drop.drop.drop.drop).pick (A := dskA gd _) (by repeat first | exact .here _ _ | assumption | apply Pick.there)).pick (A := blkA g 107 _) (by repeat first | exact .here _ _ | assumption | apply Pick.there))⟩)
                | (rw [bsR_6 (b := (⟨f0, 0, ea, r, false⟩ : Bl)) rfl harg hX hA hE1 hE2]; exact ⟨rfl, (((((((hS.pick (A := rowA 5 1 A59 m59 c59 ((recB (bsX t v)).map bv)) (by repeat first | exact .here _ _ | assumption | apply Pick.there)).pick (A := rowA 5 1 A58 (enc t ++ enc (v + 1).toNat).length c58 ((enc t ++ enc (v + 1).toNat).map bv)) (by repeat first | exact .here _ _ | assumption | apply Pick.there)).pick (A := wrA g8 (enc t ++ enc (v + 1).toNat)) (by repeat first | exact .here _ _ | assumption | apply Pick.there)).pick (A := blkA g7 105 [.int .u64 (((bsX t v)).1 : Int), .int .u64 (((bsX t v)).2 : Int)]) (by repeat first | exact .here _ _ | assumption | apply Pick.there)).drop.drop.drop.drop).pick (A := dskA gd _) (by repeat first | exact .here _ _ | assumption | apply Pick.there)).pick (A := blkA g 107 _) (by repeat first | exact .here _ _ | assumption | apply Pick.there))⟩)
                | (rw [bsR_7 (b := (⟨f0, 0, ea, r, false⟩ : Bl)) rfl harg hX hA hE1 hE2 hE3]; exact ⟨rfl, (((((((hS.pick (A := rowA 5 1 A59 m59 c59 ((recB (bsX t v)).map bv)) (by repeat first | exact .here _ _ | assumption | apply Pick.there)).pick (A := rowA 5 1 A58 (enc t ++ enc (v + 1).toNat).length c58 ((enc t ++ enc (v + 1).toNat).map bv)) (by repeat first | exact .here _ _ | assumption | apply Pick.there)).pick (A := wrA g8 (enc t ++ enc (v + 1).toNat)) (by repeat first | exact .here _ _ | assumption | apply Pick.there)).pick (A := blkA g7 105 [.int .u64 (((bsX t v)).1 : Int), .int .u64 (((bsX t v)).2 : Int)]) (by repeat first | exact .here _ _ | assumption | apply Pick.there)).drop.drop.drop.drop).pick (A := dskA gd _) (by repeat first | exact .here _ _ | assumption | apply Pick.there)).pick (A := blkA g 107 _) (by repeat first | exact .here _ _ | assumption | apply Pick.there))⟩)
                | (rw [bsR_8 (b := (⟨f0, 0, ea, r, false⟩ : Bl)) rfl harg hX hA hE1 hE2 hE3]; exact ⟨rfl, (((((((hS.pick (A := rowA 5 1 A59 m59 c59 ((recB (bsX t v)).map bv)) (by repeat first | exact .here _ _ | assumption | apply Pick.there)).pick (A := rowA 5 1 A58 (enc t ++ enc (v + 1).toNat).length c58 ((enc t ++ enc (v + 1).toNat).map bv)) (by repeat first | exact .here _ _ | assumption | apply Pick.there)).pick (A := wrA g8 (enc t ++ enc (v + 1).toNat)) (by repeat first | exact .here _ _ | assumption | apply Pick.there)).pick (A := blkA g7 105 [.int .u64 (((bsX t v)).1 : Int), .int .u64 (((bsX t v)).2 : Int)]) (by repeat first | exact .here _ _ | assumption | apply Pick.there)).drop.drop.drop.drop).pick (A := dskA gd _) (by repeat first | exact .here _ _ | assumption | apply Pick.there)).pick (A := blkA g 107 _) (by repeat first | exact .here _ _ | assumption | apply Pick.there))⟩)
            · intro hc13
              have hA : abv (bsX t v) r := of_decide_eq_true (not_back hc13)
              refine c_skip ?_
              refine c_seq ?_
              refine c_region ?_
              refine t_alloc Try.zeroValue135 rfl hS (fun g8 w hS => ?_)
              replace hS := hS.wr0
              refine t_nil ?_
              refine c_seq ?_
              refine c_region ?_
              refine t_q (q_fieldAddr 0 Try.runUnderlying105 rfl Try.sizeOf43 (by decide) rfl rfl) ?_
              refine t_q (q_load1 Try.isAgg43 rfl (hS.cell (by repeat first | exact .here _ _ | assumption | apply Pick.there) rfl)) ?_
              refine t_q (q_fieldAddr 1 Try.runUnderlying105 rfl Try.sizeOf43 (by decide) rfl rfl) ?_
              refine t_q (q_load1 Try.isAgg43 rfl (hS.cell (by repeat first | exact .here _ _ | assumption | apply Pick.there) rfl)) ?_
              refine t_build_ints [_, _] Try.runUnderlying194 Try.sizeOf43 Try.zeroValue43 rfl rfl (by decide) hS (fun g55 w hS => ?_)
              refine t_call Try.call78 (Nat_calls (ns := [(t : Int), (((v + 1).toNat : Nat) : Int)]) hS (by repeat first | exact .here _ _ | assumption | apply Pick.there) (fun _ h => h.rowInts (.here _ _) rfl) (by intro m hm; simp only [List.mem_cons, List.not_mem_nil, or_false] at hm; omega) (by simp) (by simp)) rfl ?_
              rintro e w ⟨rfl, hS⟩
              refine ⟨_, rfl, ?_⟩
              replace hS := hS.swap.recast (congrArg (wrA g8) (show _ = (enc t ++ enc (v + 1).toNat) from by unfold encs; simp; congr 1; omega))
              have hbl : (enc t ++ enc (v + 1).toNat).length ≤ 20 := rec_body (r := (bsX t v)) (bsX_ok harg)
              refine t_nil ?_
              refine c_seq ?_
              refine c_region ?_
              refine t_call Try.call72 (Bytes_calls hS (by repeat first | exact .here _ _ | assumption | apply Pick.there) (by omega)) rfl ?_
              rintro e w ⟨A58, c58, rfl, hc58, hS⟩
              refine ⟨_, rfl, ?_⟩
              refine t_call Try.call20 (wrap_calls (kk := 4) (hS.rowRd (bs := (enc t ++ enc (v + 1).toNat)) (.here _ _) rfl) (by omega)) rfl ?_
              rintro e w ⟨A59, m59, c59, rfl, hm59, hT⟩
              refine ⟨_, rfl, ?_⟩
              have hS : St W w (_ :: _) := hS.lift hT
              obtain ⟨e4, l4⟩ := wrapE_ok (k := 4) (body := (enc t ++ enc (v + 1).toNat)) (by decide) (by omega)
              rw [l4] at hm59 hS
              rw [e4]
              replace hm59 : m59 = (recB (bsX t v)).length := hm59
              replace hS : St W w (rowA 5 1 A59 m59 c59 ((recB (bsX t v)).map bv) :: _) := hS
              have hrl := (rec_len (bsX_ok harg)).2
              refine t_q (q_mv (.tuple _) rfl) ?_
              refine t_q (q_extract rfl rfl) ?_
              refine t_q (q_extract rfl rfl) ?_
              refine t_q (q_as (.slice _ _ _) rfl) ?_
              refine t_q (q_as (.int _ _) rfl) ?_
              refine t_nil ?_
              refine c_seq ?_
              refine c_seq ?_
              refine c_draw ?_
              refine d_keep (blkA g 107 [.pointer (some ⟨gd, 0, none⟩), .int .i64 f0, .int .i64 (f0 + 1), .int .i64 0, .int .i64 ea, .int .u64 ((r).1 : Int), .int .u64 ((r).2 : Int), .bool false]) 19 [0, 1, 2, 3, 4, 5, 6, 7, 8, 9, 10, 11, 12, 13, 14, 15, 16, 17, 18] [0, 1, 2, 3, 4, 5, 6, 7, 8, 9, 10, 11, 12, 13, 14, 15, 16, 17, 18] hS rfl (by kernel_rfl) (by kernel_rfl) (by kernel_rfl) (by kernel_rfl) (fun hap hsel w hS => ?_)
              refine p_q hap hsel 0 rfl rfl ⟨_, hS.pick (by repeat first | exact .here _ _ | assumption | apply Pick.there)⟩ (fun w hI => q_mv (.pointer _) rfl) ?_
              refine p_q hap hsel 1 rfl rfl ⟨_, hS.pick (by repeat first | exact .here _ _ | assumption | apply Pick.there)⟩ (fun w hI => q_nilCheck rfl) ?_
              refine p_q hap hsel 2 rfl rfl ⟨_, hS.pick (by repeat first | exact .here _ _ | assumption | apply Pick.there)⟩ (fun w hI => q_fieldAddr 0 Try.runUnderlying107 rfl Try.sizeOf58 (by decide) rfl rfl) ?_
              refine p_q hap hsel 3 rfl rfl ⟨_, hS.pick (by repeat first | exact .here _ _ | assumption | apply Pick.there)⟩ (fun w hI => q_load1 Try.isAgg58 rfl (hI.choose_spec.cell (by repeat first | exact .here _ _ | assumption | apply Pick.there) rfl)) ?_
              refine p_q hap hsel 4 rfl rfl ⟨_, hS.pick (by repeat first | exact .here _ _ | assumption | apply Pick.there)⟩ (fun w hI => q_mv (.pointer _) rfl) ?_
              refine p_q hap hsel 5 rfl rfl ⟨_, hS.pick (by repeat first | exact .here _ _ | assumption | apply Pick.there)⟩ (fun w hI => q_mv (.pointer _) rfl) ?_
              refine p_q hap hsel 6 rfl rfl ⟨_, hS.pick (by repeat first | exact .here _ _ | assumption | apply Pick.there)⟩ (fun w hI => q_nilCheck rfl) ?_
              refine p_q hap hsel 7 rfl rfl ⟨_, hS.pick (by repeat first | exact .here _ _ | assumption | apply Pick.there)⟩ (fun w hI => q_fieldAddr 3 Try.runUnderlying107 rfl Try.sizeOf3 (by decide) rfl rfl) ?_
              refine p_q hap hsel 8 rfl rfl ⟨_, hS.pick (by repeat first | exact .here _ _ | assumption | apply Pick.there)⟩ (fun w hI => q_load1 Try.isAgg3 rfl (hI.choose_spec.cell (by repeat first | exact .here _ _ | assumption | apply Pick.there) rfl)) ?_
              refine p_q hap hsel 9 rfl rfl ⟨_, hS.pick (by repeat first | exact .here _ _ | assumption | apply Pick.there)⟩ (fun w hI => q_nilCheck rfl) ?_
              refine p_q hap hsel 10 rfl rfl ⟨_, hS.pick (by repeat first | exact .here _ _ | assumption | apply Pick.there)⟩ (fun w hI => q_fieldAddr 1 Try.runUnderlying107 rfl Try.sizeOf73 (by decide) rfl rfl) ?_
              first | refine p_q hap hsel 11 rfl rfl ⟨_, hS.pick (by repeat first | exact .here _ _ | assumption | apply Pick.there)⟩ (fun w hI => q_arr_nat Try.runUnderlying73 Try.sizeOf3 rfl rfl (by omega)) ?_ | refine p_q hap hsel 11 rfl rfl ⟨_, hS.pick (by repeat first | exact .here _ _ | assumption | apply Pick.there)⟩ (fun w hI => q_arr Try.runUnderlying73 Try.sizeOf3 rfl rfl (by omega)) ?_
              refine p_q hap hsel 12 rfl rfl ⟨_, hS.pick (by repeat first | exact .here _ _ | assumption | apply Pick.there)⟩ (fun w hI => (q_cast (v' := .int .i64 (f0 + 0)) (q_load1 Try.isAgg3 rfl (hI.choose_spec.cell (by repeat first | exact .here _ _ | assumption | apply Pick.there) rfl)) (by congr 1; omega))) ?_
              refine p_q hap hsel 14 rfl rfl ⟨_, hS.pick (by repeat first | exact .here _ _ | assumption | apply Pick.there)⟩ (fun w hI => q_mv (.pointer _) rfl) ?_
              refine p_q hap hsel 15 rfl rfl ⟨_, hS.pick (by repeat first | exact .here _ _ | assumption | apply Pick.there)⟩ (fun w hI => q_nilCheck rfl) ?_
              refine p_q hap hsel 16 rfl rfl ⟨_, hS.pick (by repeat first | exact .here _ _ | assumption | apply Pick.there)⟩ (fun w hI => q_fieldAddr 4 Try.runUnderlying107 rfl Try.sizeOf3 (by decide) rfl rfl) ?_
              refine p_q hap hsel 17 rfl rfl ⟨_, hS.pick (by repeat first | exact .here _ _ | assumption | apply Pick.there)⟩ (fun w hI => q_load1 Try.isAgg3 rfl (hI.choose_spec.cell (by repeat first | exact .here _ _ | assumption | apply Pick.there) rfl)) ?_
              refine p_one 13 rfl (by kernel_rfl) ?_
              refine t_call Try.call40 (size_in (i := f0 + 0) hS (by repeat first | exact .here _ _ | assumption | apply Pick.there) hG ⟨by omega, by omega⟩) rfl ?_
              rintro e w ⟨rfl, hS⟩
              refine ⟨_, rfl, ?_⟩
              refine t_nil ?_
              refine ⟨.inr ⟨_, hS.pick (by repeat first | exact .here _ _ | assumption | apply Pick.there)⟩, ?_⟩
              refine p_q hap hsel 18 rfl rfl ⟨_, hS.pick (by repeat first | exact .here _ _ | assumption | apply Pick.there)⟩ (fun w hI => q_geq rfl rfl) ?_
              refine p_end (by kernel_rfl) ?_
              refine c_cond rfl ?_ ?_
              · intro hc22
                have hc22d := of_decide_eq_true hc22
                have hL : bsL d (⟨f0, 0, ea, r, false⟩ : Bl) := by show ea ≤ ((d.F (f0 + 0).toNat).1.length : Int); omega
                have hC : bsC d (⟨f0, 0, ea, r, false⟩ : Bl) = 1 := by unfold bsC; rw [if_pos hL]; rfl
                have hM : bsM d (⟨f0, 0, ea, r, false⟩ : Bl) = f0 + 1 := by unfold bsM; rw [hC]
                have hE1e : bsE1 d (⟨f0, 0, ea, r, false⟩ : Bl) = tnE d (f0 + (1 - 0)) 0 := by unfold bsE1; rw [if_pos hL]
                have hD1 : bsD1 d (⟨f0, 0, ea, r, false⟩ : Bl) = tnD d (f0 + (1 - 0)) 0 (drF d.F (f0 + (1 - 0)).toNat) := by unfold bsD1; rw [if_pos hL]
                refine c_seq ?_
                refine c_seq ?_
                refine c_draw ?_
                refine d_keep (blK g gd f0 0 ea r) 18 [0, 1, 2, 3, 4, 5, 6, 7, 8, 9, 10, 11, 12, 13, 14, 15, 16, 17] [0, 1, 2, 3, 4, 5, 6, 7, 8, 9, 10, 11, 12, 13, 14, 15, 16, 17] hS rfl (by kernel_rfl) (by kernel_rfl) (by kernel_rfl) (by kernel_rfl) (fun hap hsel w hS => ?_)
                refine p_q hap hsel 0 rfl rfl ⟨_, St.unex _ (hS.pick (A := blkA g 107 _) (by repeat first | exact .here _ _ | assumption | apply Pick.there))⟩ (fun w hI => q_mv (.pointer _) rfl) ?_
                refine p_q hap hsel 1 rfl rfl ⟨_, St.unex _ (hS.pick (A := blkA g 107 _) (by repeat first | exact .here _ _ | assumption | apply Pick.there))⟩ (fun w hI => q_mv (.pointer _) rfl) ?_
                refine p_q hap hsel 2 rfl rfl ⟨_, St.unex _ (hS.pick (A := blkA g 107 _) (by repeat first | exact .here _ _ | assumption | apply Pick.there))⟩ (fun w hI => q_nilCheck rfl) ?_
                refine p_q hap hsel 3 rfl rfl ⟨_, St.unex _ (hS.pick (A := blkA g 107 _) (by repeat first | exact .here _ _ | assumption | apply Pick.there))⟩ (fun w hI => q_fieldAddr 0 Try.runUnderlying107 rfl Try.sizeOf58 (by decide) rfl rfl) ?_
                refine p_q hap hsel 4 rfl rfl ⟨_, St.unex _ (hS.pick (A := blkA g 107 _) (by repeat first | exact .here _ _ | assumption | apply Pick.there))⟩ (fun w hI => q_load1 Try.isAgg58 rfl (hI.choose_spec.ex.choose_spec.cell (.here _ _) rfl)) ?_
                refine p_q hap hsel 5 rfl rfl ⟨_, St.unex _ (hS.pick (A := blkA g 107 _) (by repeat first | exact .here _ _ | assumption | apply Pick.there))⟩ (fun w hI => q_mv (.pointer _) rfl) ?_
                refine p_q hap hsel 6 rfl rfl ⟨_, St.unex _ (hS.pick (A := blkA g 107 _) (by repeat first | exact .here _ _ | assumption | apply Pick.there))⟩ (fun w hI => q_mv (.pointer _) rfl) ?_
                refine p_q hap hsel 7 rfl rfl ⟨_, St.unex _ (hS.pick (A := blkA g 107 _) (by repeat first | exact .here _ _ | assumption | apply Pick.there))⟩ (fun w hI => q_nilCheck rfl) ?_
                refine p_q hap hsel 8 rfl rfl ⟨_, St.unex _ (hS.pick (A := blkA g 107 _) (by repeat first | exact .here _ _ | assumption | apply Pick.there))⟩ (fun w hI => q_fieldAddr 3 Try.runUnderlying107 rfl Try.sizeOf3 (by decide) rfl rfl) ?_
                refine p_q hap hsel 9 rfl rfl ⟨_, St.unex _ (hS.pick (A := blkA g 107 _) (by repeat first | exact .here _ _ | assumption | apply Pick.there))⟩ (fun w hI => q_load1 Try.isAgg3 rfl (hI.choose_spec.ex.choose_spec.cell (.here _ _) rfl)) ?_
                refine p_q hap hsel 10 rfl rfl ⟨_, St.unex _ (hS.pick (A := blkA g 107 _) (by repeat first | exact .here _ _ | assumption | apply Pick.there))⟩ (fun w hI => (q_cast (v' := .int .i64 1) (q_sub_i64 rfl rfl (by omega)) (by rfl))) ?_
                refine p_q hap hsel 11 rfl rfl ⟨_, St.unex _ (hS.pick (A := blkA g 107 _) (by repeat first | exact .here _ _ | assumption | apply Pick.there))⟩ (fun w hI => q_nilCheck rfl) ?_
                refine p_q hap hsel 12 rfl rfl ⟨_, St.unex _ (hS.pick (A := blkA g 107 _) (by repeat first | exact .here _ _ | assumption | apply Pick.there))⟩ (fun w hI => q_fieldAddr 1 Try.runUnderlying107 rfl Try.sizeOf73 (by decide) rfl rfl) ?_
                first | refine p_q hap hsel 13 rfl rfl ⟨_, St.unex _ (hS.pick (A := blkA g 107 _) (by repeat first | exact .here _ _ | assumption | apply Pick.there))⟩ (fun w hI => q_arr_nat Try.runUnderlying73 Try.sizeOf3 rfl rfl (by omega)) ?_ | refine p_q hap hsel 13 rfl rfl ⟨_, St.unex _ (hS.pick (A := blkA g 107 _) (by repeat first | exact .here _ _ | assumption | apply Pick.there))⟩ (fun w hI => q_arr Try.runUnderlying73 Try.sizeOf3 rfl rfl (by omega)) ?_
                refine p_q hap hsel 14 rfl rfl ⟨_, St.unex _ (hS.pick (A := blkA g 107 _) (by repeat first | exact .here _ _ | assumption | apply Pick.there))⟩ (fun w hI => (q_cast (v' := .int .i64 (f0 + (1 - 0))) (q_load1 Try.isAgg3 rfl (hI.choose_spec.ex.choose_spec.cell (.here _ _) rfl)) (by congr 1))) ?_
                refine p_one 15 rfl (by kernel_rfl) ?_
                refine t_call Try.call85 (drp_calls (i := f0 + (1 - 0)) hS (by repeat first | exact .here _ _ | assumption | apply Pick.there) hG (by omega)) rfl ?_
                rintro e w ⟨rfl, hS⟩
                refine ⟨_, rfl, ?_⟩
                refine t_nil ?_
                refine ⟨.inr ⟨_, St.unex _ (hS.pick (A := blkA g 107 _) (by repeat first | exact .here _ _ | assumption | apply Pick.there))⟩, ?_⟩
                refine p_one 16 rfl (by kernel_rfl) ?_
                refine t_call Try.call100 (bdone_calls (e0 := tnE d (f0 + (1 - 0)) 0) hS (by repeat first | exact .here _ _ | assumption | apply Pick.there)) rfl ?_
                rintro e w ⟨rfl, hS⟩
                refine ⟨_, rfl, ?_⟩
                refine t_nil ?_
                refine ⟨.inr ⟨_, St.unex _ (hS.pick (A := blkA g 107 _) (by repeat first | exact .here _ _ | assumption | apply Pick.there))⟩, ?_⟩
                refine p_q hap hsel 17 rfl rfl ⟨_, St.unex _ (hS.pick (A := blkA g 107 _) (by repeat first | exact .here _ _ | assumption | apply Pick.there))⟩ (fun w hI => q_not rfl) ?_
                refine p_end (by kernel_rfl) ?_
                refine c_cond rfl ?_ ?_
                · intro hc26
                  have hE1x : tnE d (f0 + (1 - 0)) 0 ≠ 0 := of_decide_eq_false (not_back hc26)
                  have hE1 : bsE1 d (⟨f0, 0, ea, r, false⟩ : Bl) ≠ 0 := by rw [hE1e]; exact hE1x
                  replace hS := (hS.pick (A := blkA g 107 _) (by repeat first | exact .here _ _ | assumption | apply Pick.there)).recast (show _ = blkA g 107 [.pointer (some ⟨gd, 0, none⟩), .int .i64 f0, .int .i64 (f0 + 1), .int .i64 0, .int .i64 ea, .int .u64 ((r).1 : Int), .int .u64 ((r).2 : Int), .bool true] from by rw [decide_eq_true hE1x])
                  replace hS := (hS.pick (A := dskA gd _) (by repeat first | exact .here _ _ | assumption | apply Pick.there)).recast (show _ = dskA gd (bsD1 d (⟨f0, 0, ea, r, false⟩ : Bl)) from congrArg (dskA gd) hD1.symm)
                  refine c_seq ?_
                  refine c_region ?_
                  refine t_q (q_assign) ?_
                  refine t_nil ?_
                  refine c_ret ?_
                  refine r_one rfl rfl ?_
                  first
                    | (rw [bsR_1 (b := ⟨f0, 0, ea, r, true⟩) rfl]; exact ⟨rfl, (((hS).pick (A := dskA gd _) (by repeat first | exact .here _ _ | assumption | apply Pick.there)).pick (A := blkA g 107 _) (by repeat first | exact .here _ _ | assumption | apply Pick.there))⟩)
                    | (rw [bsR_2 (b := (⟨f0, 0, ea, r, false⟩ : Bl)) rfl harg]; exact ⟨rfl, (((hS).pick (A := dskA gd _) (by repeat first | exact .here _ _ | assumption | apply Pick.there)).pick (A := blkA g 107 _) (by repeat first | exact .here _ _ | assumption | apply Pick.there))⟩)
                    | (rw [bsR_3 (b := (⟨f0, 0, ea, r, false⟩ : Bl)) rfl harg hX]; exact ⟨rfl, ((((hS.pick (A := blkA g7 105 [.int .u64 (((bsX t v)).1 : Int), .int .u64 (((bsX t v)).2 : Int)]) (by repeat first | exact .here _ _ | assumption | apply Pick.there)).drop).pick (A := dskA gd _) (by repeat first | exact .here _ _ | assumption | apply Pick.there)).pick (A := blkA g 107 _) (by repeat first | exact .here _ _ | assumption | apply Pick.there))⟩)
                    | (rw [bsR_4 (b := (⟨f0, 0, ea, r, false⟩ : Bl)) rfl harg hX hA]; exact ⟨rfl, ((((hS.pick (A := blkA g7 105 [.int .u64 (((bsX t v)).1 : Int), .int .u64 (((bsX t v)).2 : Int)]) (by repeat first | exact .here _ _ | assumption | apply Pick.there)).drop).pick (A := dskA gd _) (by repeat first | exact .here _ _ | assumption | apply Pick.there)).pick (A := blkA g 107 _) (by repeat first | exact .here _ _ | assumption | apply Pick.there))⟩)
                    | (rw [bsR_5 (b := (⟨f0, 0, ea, r, false⟩ : Bl)) rfl harg hX hA hE1]; exact ⟨rfl, (((((((hS.pick (A := rowA 5 1 A59 m59 c59 ((recB (bsX t v)).map bv)) (by repeat first | exact .here _ _ | assumption | apply Pick.there)).pick (A := rowA 5 1 A58 (enc t ++ enc (v + 1).toNat).length c58 ((enc t ++ enc (v + 1).toNat).map bv)) (by repeat first | exact .here _ _ | assumption | apply Pick.there)).pick (A := wrA g8 (enc t ++ enc (v + 1).toNat)) (by repeat first | exact .here _ _ | assumption | apply Pick.there)).pick (A := blkA g7 105 [.int .u64 (((bsX t v)).1 : Int), .int .u64 (((bsX t v)).2 : Int)]) (by repeat first | exact .here _ _ | assumption | apply Pick.there)).drop.drop.drop.drop).pick (A := dskA gd _) (by repeat first | exact .here _ _ | assumption | apply Pick.there)).pick (A := blkA g 107 _) (by repeat first | exact .here _ _ | assumption | apply Pick.there))⟩)
                    | (rw [bsR_6 (b := (⟨f0, 0, ea, r, false⟩ : Bl)) rfl harg hX hA hE1 hE2]; exact ⟨rfl, (((((((hS.pick (A := rowA 5 1 A59 m59 c59 ((recB (bsX t v)).map bv)) (by repeat first | exact .here _ _ | assumption | apply Pick.there)).pick (A := rowA 5 1 A58 (enc t ++ enc (v + 1).toNat).length c58 ((enc t ++ enc (v + 1).toNat).map bv)) (by repeat first | exact .here _ _ | assumption | apply Pick.there)).pick (A := wrA g8 (enc t ++ enc (v + 1).toNat)) (by repeat first | exact .here _ _ | assumption | apply Pick.there)).pick (A := blkA g7 105 [.int .u64 (((bsX t v)).1 : Int), .int .u64 (((bsX t v)).2 : Int)]) (by repeat first | exact .here _ _ | assumption | apply Pick.there)).drop.drop.drop.drop).pick (A := dskA gd _) (by repeat first | exact .here _ _ | assumption | apply Pick.there)).pick (A := blkA g 107 _) (by repeat first | exact .here _ _ | assumption | apply Pick.there))⟩)
                    | (rw [bsR_7 (b := (⟨f0, 0, ea, r, false⟩ : Bl)) rfl harg hX hA hE1 hE2 hE3]; exact ⟨rfl, (((((((hS.pick (A := rowA 5 1 A59 m59 c59 ((recB (bsX t v)).map bv)) (by repeat first | exact .here _ _ | assumption | apply Pick.there)).pick (A := rowA 5 1 A58 (enc t ++ enc (v + 1).toNat).length c58 ((enc t ++ enc (v + 1).toNat).map bv)) (by repeat first | exact .here _ _ | assumption | apply Pick.there)).pick (A := wrA g8 (enc t ++ enc (v + 1).toNat)) (by repeat first | exact .here _ _ | assumption | apply Pick.there)).pick (A := blkA g7 105 [.int .u64 (((bsX t v)).1 : Int), .int .u64 (((bsX t v)).2 : Int)]) (by repeat first | exact .here _ _ | assumption | apply Pick.there)).drop.drop.drop.drop).pick (A := dskA gd _) (by repeat first | exact .here _ _ | assumption | apply Pick.there)).pick (A := blkA g 107 _) (by repeat first | exact .here _ _ | assumption | apply Pick.there))⟩)
                    | (rw [bsR_8 (b := (⟨f0, 0, ea, r, false⟩ : Bl)) rfl harg hX hA hE1 hE2 hE3]; exact ⟨rfl, (((((((hS.pick (A := rowA 5 1 A59 m59 c59 ((recB (bsX t v)).map bv)) (by repeat first | exact .here _ _ | assumption | apply Pick.there)).pick (A := rowA 5 1 A58 (enc t ++ enc (v + 1).toNat).length c58 ((enc t ++ enc (v + 1).toNat).map bv)) (by repeat first | exact .here _ _ | assumption | apply Pick.there)).pick (A := wrA g8 (enc t ++ enc (v + 1).toNat)) (by repeat first | exact .here _ _ | assumption | apply Pick.there)).pick (A := blkA g7 105 [.int .u64 (((bsX t v)).1 : Int), .int .u64 (((bsX t v)).2 : Int)]) (by repeat first | exact .here _ _ | assumption | apply Pick.there)).drop.drop.drop.drop).pick (A := dskA gd _) (by repeat first | exact .here _ _ | assumption | apply Pick.there)).pick (A := blkA g 107 _) (by repeat first | exact .here _ _ | assumption | apply Pick.there))⟩)
                · intro hc26
                  have hE1x : tnE d (f0 + (1 - 0)) 0 = 0 := of_decide_eq_true (not_back hc26)
                  have hE1 : bsE1 d (⟨f0, 0, ea, r, false⟩ : Bl) = 0 := by rw [hE1e]; exact hE1x
                  replace hS := (hS.pick (A := blkA g 107 _) (by repeat first | exact .here _ _ | assumption | apply Pick.there)).recast (show _ = blkA g 107 [.pointer (some ⟨gd, 0, none⟩), .int .i64 f0, .int .i64 (f0 + 1), .int .i64 0, .int .i64 ea, .int .u64 ((r).1 : Int), .int .u64 ((r).2 : Int), .bool false] from by rw [show decide (tnE d (f0 + (1 - 0)) 0 ≠ 0) = false from by rw [hE1x]; rfl])
                  replace hS := (hS.pick (A := dskA gd _) (by repeat first | exact .here _ _ | assumption | apply Pick.there)).recast (show _ = dskA gd (bsD1 d (⟨f0, 0, ea, r, false⟩ : Bl)) from congrArg (dskA gd) hD1.symm)
                  refine c_skip ?_
                  refine c_region ?_
                  refine t_q (q_mv (.pointer _) rfl) ?_
                  refine t_q (q_mv (.pointer _) rfl) ?_
                  refine t_q (q_nilCheck rfl) ?_
                  refine t_q (q_fieldAddr 3 Try.runUnderlying107 rfl Try.sizeOf3 (by decide) rfl rfl) ?_
                  refine t_q (q_load1 Try.isAgg3 rfl (hS.cell (by repeat first | exact .here _ _ | assumption | apply Pick.there) rfl)) ?_
                  refine t_q (q_cast (v' := .int .i64 1) (q_sub_i64 rfl rfl (by omega)) (by rfl)) ?_
                  refine t_q (q_nilCheck rfl) ?_
                  refine t_q (q_fieldAddr 3 Try.runUnderlying107 rfl Try.sizeOf3 (by decide) rfl rfl) ?_
                  refine t_store (v := (.int _ _)) Try.sizeOf3 hS (by repeat first | exact .here _ _ | assumption | apply Pick.there) rfl rfl rfl rfl rfl rfl (fun w hS => ?_)
                  replace hS := hS.recast (show blkA g 107 _ = blkA g 107 [.pointer (some ⟨gd, 0, none⟩), .int .i64 f0, .int .i64 (f0 + 1), .int .i64 1, .int .i64 ea, .int .u64 ((r).1 : Int), .int .u64 ((r).2 : Int), .bool false] from rfl)
                  refine t_nil ?_
                  refine c_seq ?_
                  refine c_draw ?_
                  refine d_quiet 10 [0, 1, 2, 3, 4, 5, 6, 7, 8, 9] [0, 1, 2, 3, 4, 5, 6, 7, 8, 9] hS rfl (by kernel_rfl) (by kernel_rfl) (by kernel_rfl) (by kernel_rfl) (fun hap hsel w hS => ?_)
                  refine p_q hap hsel 0 rfl rfl hS (fun w hS => q_mv (.pointer _) rfl) ?_
                  refine p_q hap hsel 1 rfl rfl hS (fun w hS => q_mv (.pointer _) rfl) ?_
                  refine p_q hap hsel 2 rfl rfl hS (fun w hS => q_nilCheck rfl) ?_
                  refine p_q hap hsel 3 rfl rfl hS (fun w hS => q_fieldAddr 3 Try.runUnderlying107 rfl Try.sizeOf3 (by decide) rfl rfl) ?_
                  refine p_q hap hsel 4 rfl rfl hS (fun w hS => q_load1 Try.isAgg3 rfl (hS.cell (by repeat first | exact .here _ _ | assumption | apply Pick.there) rfl)) ?_
                  refine p_q hap hsel 5 rfl rfl hS (fun w hS => q_nilCheck rfl) ?_
                  refine p_q hap hsel 6 rfl rfl hS (fun w hS => q_fieldAddr 1 Try.runUnderlying107 rfl Try.sizeOf73 (by decide) rfl rfl) ?_
                  first | refine p_q hap hsel 7 rfl rfl hS (fun w hS => q_arr_nat Try.runUnderlying73 Try.sizeOf3 rfl rfl (by omega)) ?_ | refine p_q hap hsel 7 rfl rfl hS (fun w hS => q_arr Try.runUnderlying73 Try.sizeOf3 rfl rfl (by omega)) ?_
                  refine p_q hap hsel 8 rfl rfl hS (fun w hS => (q_cast (v' := .int .i64 (bsM d (⟨f0, 0, ea, r, false⟩ : Bl))) (q_load1 Try.isAgg3 rfl (hS.cell (by repeat first | exact .here _ _ | assumption | apply Pick.there) rfl)) (congrArg (Value.int .i64) hM.symm))) ?_
                  refine p_q hap hsel 9 rfl rfl hS (fun w hS => q_as (.int _ _) rfl) ?_
                  refine p_end (by kernel_rfl) ?_
                  refine c_seq ?_
                  refine c_seq ?_
                  refine c_region ?_
                  refine t_q (q_mv (.pointer _) rfl) ?_
                  refine t_q (q_mv (.pointer _) rfl) ?_
                  refine t_q (q_nilCheck rfl) ?_
                  refine t_q (q_fieldAddr 0 Try.runUnderlying107 rfl Try.sizeOf58 (by decide) rfl rfl) ?_
                  refine t_q (q_load1 Try.isAgg58 rfl (hS.cell (by repeat first | exact .here _ _ | assumption | apply Pick.there) rfl)) ?_
                  refine t_q (q_mv (.int _ _) rfl) ?_
                  refine t_q (q_mv (.slice _ _ _) rfl) ?_
                  refine t_call Try.call39 (app_calls (i := bsM d (⟨f0, 0, ea, r, false⟩ : Bl)) (ys := recB (bsX t v)) (((hS.pick (A := rowA 5 1 A59 m59 c59 ((recB (bsX t v)).map bv)) (by repeat first | exact .here _ _ | assumption | apply Pick.there)).pick (A := dskA gd _) (by repeat first | exact .here _ _ | assumption | apply Pick.there))) (.here _ _) hG1 (by omega) (fun w h => h.rowRd (A := A59) (c := c59) (bs := recB (bsX t v)) (.here _ _) hm59) hm59 (by omega)) rfl ?_
                  rintro e w ⟨rfl, hS⟩
                  refine ⟨_, rfl, ?_⟩
                  replace hS : St W w (dskA gd (bsD2 d (⟨f0, 0, ea, r, false⟩ : Bl) (recB (bsX t v))) :: _) := hS
                  refine t_call Try.call100 (bdone_calls (e0 := bsE2 d (⟨f0, 0, ea, r, false⟩ : Bl) (recB (bsX t v))) hS (by repeat first | exact .here _ _ | assumption | apply Pick.there)) rfl ?_
                  rintro e w ⟨rfl, hS⟩
                  refine ⟨_, rfl, ?_⟩
                  refine t_q (q_not rfl) ?_
                  refine t_q (q_mv (.bool _) rfl) ?_
                  refine t_case 126 rfl ?_ ?_
                  · intro hg30
                    refine t_no rfl rfl (by rw [(congrArg not (not_back hg30))]; decide) ?_
                    refine t_no rfl rfl (by rw [(congrArg not (not_back hg30))]; decide) ?_
                    refine t_no rfl rfl (by rw [(congrArg not (not_back hg30))]; decide) ?_
                    refine t_no rfl rfl (by rw [(congrArg not (not_back hg30))]; decide) ?_
                    refine t_no rfl rfl (by rw [(congrArg not (not_back hg30))]; decide) ?_
                    refine t_no rfl rfl (by rw [(congrArg not (not_back hg30))]; decide) ?_
                    refine t_no rfl rfl (by rw [(congrArg not (not_back hg30))]; decide) ?_
                    refine t_no rfl rfl (by rw [(congrArg not (not_back hg30))]; decide) ?_
                    refine t_no rfl rfl (by rw [(congrArg not (not_back hg30))]; decide) ?_
                    refine t_q (q_pick_t rfl (congrArg not (not_back hg30))) ?_
                    refine t_nil ?_
                    refine c_cond_t rfl rfl ?_
                    first
                      | (have hE3 : bsE3 d (⟨f0, 0, ea, r, false⟩ : Bl) (recB (bsX t v)) ≠ 0 := of_decide_eq_false (not_back (by assumption) : decide (bsE3 d (⟨f0, 0, ea, r, false⟩ : Bl) (recB (bsX t v)) = 0) = false)
                         replace hS := (hS.pick (A := blkA g 107 _) (by repeat first | exact .here _ _ | assumption | apply Pick.there)).recast (show _ = blkA g 107 [.pointer (some ⟨gd, 0, none⟩), .int .i64 f0, .int .i64 (f0 + 1), .int .i64 (bsC d (⟨f0, 0, ea, r, false⟩ : Bl)), .int .i64 ea, .int .u64 ((r).1 : Int), .int .u64 ((r).2 : Int), .bool true] from by rw [show decide (bsE3 d (⟨f0, 0, ea, r, false⟩ : Bl) (recB (bsX t v)) ≠ 0) = true from by first | exact decide_eq_true hE3 | (rw [hE3]; try rfl)]; try first | rfl | rw [hC]))
                      | (have hE2 : bsE2 d (⟨f0, 0, ea, r, false⟩ : Bl) (recB (bsX t v)) ≠ 0 := of_decide_eq_false (not_back (by assumption) : decide (bsE2 d (⟨f0, 0, ea, r, false⟩ : Bl) (recB (bsX t v)) = 0) = false)
                         replace hS := (hS.pick (A := blkA g 107 _) (by repeat first | exact .here _ _ | assumption | apply Pick.there)).recast (show _ = blkA g 107 [.pointer (some ⟨gd, 0, none⟩), .int .i64 f0, .int .i64 (f0 + 1), .int .i64 (bsC d (⟨f0, 0, ea, r, false⟩ : Bl)), .int .i64 ea, .int .u64 ((r).1 : Int), .int .u64 ((r).2 : Int), .bool true] from by rw [show decide (bsE2 d (⟨f0, 0, ea, r, false⟩ : Bl) (recB (bsX t v)) ≠ 0) = true from by first | exact decide_eq_true hE2 | (rw [hE2]; try rfl)]; try first | rfl | rw [hC]))
                    refine c_seq ?_
                    refine c_region ?_
                    refine t_q (q_assign) ?_
                    refine t_nil ?_
                    refine c_ret ?_
                    refine r_one rfl rfl ?_
                    first
                      | (rw [bsR_1 (b := ⟨f0, 0, ea, r, true⟩) rfl]; exact ⟨rfl, (((hS).pick (A := dskA gd _) (by repeat first | exact .here _ _ | assumption | apply Pick.there)).pick (A := blkA g 107 _) (by repeat first | exact .here _ _ | assumption | apply Pick.there))⟩)
                      | (rw [bsR_2 (b := (⟨f0, 0, ea, r, false⟩ : Bl)) rfl harg]; exact ⟨rfl, (((hS).pick (A := dskA gd _) (by repeat first | exact .here _ _ | assumption | apply Pick.there)).pick (A := blkA g 107 _) (by repeat first | exact .here _ _ | assumption | apply Pick.there))⟩)
                      | (rw [bsR_3 (b := (⟨f0, 0, ea, r, false⟩ : Bl)) rfl harg hX]; exact ⟨rfl, ((((hS.pick (A := blkA g7 105 [.int .u64 (((bsX t v)).1 : Int), .int .u64 (((bsX t v)).2 : Int)]) (by repeat first | exact .here _ _ | assumption | apply Pick.there)).drop).pick (A := dskA gd _) (by repeat first | exact .here _ _ | assumption | apply Pick.there)).pick (A := blkA g 107 _) (by repeat first | exact .here _ _ | assumption | apply Pick.there))⟩)
                      | (rw [bsR_4 (b := (⟨f0, 0, ea, r, false⟩ : Bl)) rfl harg hX hA]; exact ⟨rfl, ((((hS.pick (A := blkA g7 105 [.int .u64 (((bsX t v)).1 : Int), .int .u64 (((bsX t v)).2 : Int)]) (by repeat first | exact .here _ _ | assumption | apply Pick.there)).drop).pick (A := dskA gd _) (by repeat first | exact .here _ _ | assumption | apply Pick.there)).pick (A := blkA g 107 _) (by repeat first | exact .here _ _ | assumption | apply Pick.there))⟩)
                      | (rw [bsR_5 (b := (⟨f0, 0, ea, r, false⟩ : Bl)) rfl harg hX hA hE1]; exact ⟨rfl, (((((((hS.pick (A := rowA 5 1 A59 m59 c59 ((recB (bsX t v)).map bv)) (by repeat first | exact .here _ _ | assumption | apply Pick.there)).pick (A := rowA 5 1 A58 (enc t ++ enc (v + 1).toNat).length c58 ((enc t ++ enc (v + 1).toNat).map bv)) (by repeat first | exact .here _ _ | assumption | apply Pick.there)).pick (A := wrA g8 (enc t ++ enc (v + 1).toNat)) (by repeat first | exact .here _ _ | assumption | apply Pick.there)).pick (A := blkA g7 105 [.int .u64 (((bsX t v)).1 : Int), .int .u64 (((bsX t v)).2 : Int)]) (by repeat first | exact .here _ _ | assumption | apply Pick.there)).drop.drop.drop.drop).pick (A := dskA gd _) (by repeat first | exact .here _ _ | assumption | apply Pick.there)).pick (A := blkA g 107 _) (by repeat first | exact .here _ _ | assumption | apply Pick.there))⟩)
                      | (rw [bsR_6 (b := (⟨f0, 0, ea, r, false⟩ : Bl)) rfl harg hX hA hE1 hE2]; exact ⟨rfl, (((((((hS.pick (A := rowA 5 1 A59 m59 c59 ((recB (bsX t v)).map bv)) (by repeat first | exact .here _ _ | assumption | apply Pick.there)).pick (A := rowA 5 1 A58 (enc t ++ enc (v + 1).toNat).length c58 ((enc t ++ enc (v + 1).toNat).map bv)) (by repeat first | exact .here _ _ | assumption | apply Pick.there)).pick (A := wrA g8 (enc t ++ enc (v + 1).toNat)) (by repeat first | exact .here _ _ | assumption | apply Pick.there)).pick (A := blkA g7 105 [.int .u64 (((bsX t v)).1 : Int), .int .u64 (((bsX t v)).2 : Int)]) (by repeat first | exact .here _ _ | assumption | apply Pick.there)).drop.drop.drop.drop).pick (A := dskA gd _) (by repeat first | exact .here _ _ | assumption | apply Pick.there)).pick (A := blkA g 107 _) (by repeat first | exact .here _ _ | assumption | apply Pick.there))⟩)
                      | (rw [bsR_7 (b := (⟨f0, 0, ea, r, false⟩ : Bl)) rfl harg hX hA hE1 hE2 hE3]; exact ⟨rfl, (((((((hS.pick (A := rowA 5 1 A59 m59 c59 ((recB (bsX t v)).map bv)) (by repeat first | exact .here _ _ | assumption | apply Pick.there)).pick (A := rowA 5 1 A58 (enc t ++ enc (v + 1).toNat).length c58 ((enc t ++ enc (v + 1).toNat).map bv)) (by repeat first | exact .here _ _ | assumption | apply Pick.there)).pick (A := wrA g8 (enc t ++ enc (v + 1).toNat)) (by repeat first | exact .here _ _ | assumption | apply Pick.there)).pick (A := blkA g7 105 [.int .u64 (((bsX t v)).1 : Int), .int .u64 (((bsX t v)).2 : Int)]) (by repeat first | exact .here _ _ | assumption | apply Pick.there)).drop.drop.drop.drop).pick (A := dskA gd _) (by repeat first | exact .here _ _ | assumption | apply Pick.there)).pick (A := blkA g 107 _) (by repeat first | exact .here _ _ | assumption | apply Pick.there))⟩)
                      | (rw [bsR_8 (b := (⟨f0, 0, ea, r, false⟩ : Bl)) rfl harg hX hA hE1 hE2 hE3]; exact ⟨rfl, (((((((hS.pick (A := rowA 5 1 A59 m59 c59 ((recB (bsX t v)).map bv)) (by repeat first | exact .here _ _ | assumption | apply Pick.there)).pick (A := rowA 5 1 A58 (enc t ++ enc (v + 1).toNat).length c58 ((enc t ++ enc (v + 1).toNat).map bv)) (by repeat first | exact .here _ _ | assumption | apply Pick.there)).pick (A := wrA g8 (enc t ++ enc (v + 1).toNat)) (by repeat first | exact .here _ _ | assumption | apply Pick.there)).pick (A := blkA g7 105 [.int .u64 (((bsX t v)).1 : Int), .int .u64 (((bsX t v)).2 : Int)]) (by repeat first | exact .here _ _ | assumption | apply Pick.there)).drop.drop.drop.drop).pick (A := dskA gd _) (by repeat first | exact .here _ _ | assumption | apply Pick.there)).pick (A := blkA g 107 _) (by repeat first | exact .here _ _ | assumption | apply Pick.there))⟩)
                  · intro hg30
                    refine t_yes rfl rfl (congrArg not (not_back hg30)) ?_
                    refine t_q (q_mv (.pointer _) rfl) ?_
                    have hE2 : bsE2 d (⟨f0, 0, ea, r, false⟩ : Bl) (recB (bsX t v)) = 0 := of_decide_eq_true (not_back (by assumption) : decide (bsE2 d (⟨f0, 0, ea, r, false⟩ : Bl) (recB (bsX t v)) = 0) = true)
                    replace hS := (hS.pick (A := blkA g 107 _) (by repeat first | exact .here _ _ | assumption | apply Pick.there)).recast (show _ = blkA g 107 [.pointer (some ⟨gd, 0, none⟩), .int .i64 f0, .int .i64 (f0 + 1), .int .i64 (bsC d (⟨f0, 0, ea, r, false⟩ : Bl)), .int .i64 ea, .int .u64 ((r).1 : Int), .int .u64 ((r).2 : Int), .bool false] from by rw [show decide (bsE2 d (⟨f0, 0, ea, r, false⟩ : Bl) (recB (bsX t v)) ≠ 0) = false from by rw [hE2]; try rfl]; try first | rfl | rw [hC])
                    refine t_yes rfl rfl (congrArg not (not_back hg30)) ?_
                    refine t_q (q_mv (.pointer _) rfl) ?_
                    refine t_yes rfl rfl (congrArg not (not_back hg30)) ?_
                    refine t_q (q_nilCheck rfl) ?_
                    refine t_yes rfl rfl (congrArg not (not_back hg30)) ?_
                    refine t_q (q_fieldAddr 0 Try.runUnderlying107 rfl Try.sizeOf58 (by decide) rfl rfl) ?_
                    refine t_yes rfl rfl (congrArg not (not_back hg30)) ?_
                    refine t_q (q_load1 Try.isAgg58 rfl (hS.cell (by repeat first | exact .here _ _ | assumption | apply Pick.there) rfl)) ?_
                    refine t_yes rfl rfl (congrArg not (not_back hg30)) ?_
                    refine t_q (q_mv (.int _ _) rfl) ?_
                    refine t_yes rfl rfl (congrArg not (not_back hg30)) ?_
                    refine t_call Try.call43 (syn_calls (i := bsM d (⟨f0, 0, ea, r, false⟩ : Bl)) hS (by repeat first | exact .here _ _ | assumption | apply Pick.there) hG2 (by omega)) rfl ?_
                    rintro e w ⟨rfl, hS⟩
                    refine ⟨_, rfl, ?_⟩
                    replace hS : St W w (dskA gd (bsD3 d (⟨f0, 0, ea, r, false⟩ : Bl) (recB (bsX t v))) :: _) := hS
                    refine t_yes rfl rfl (congrArg not (not_back hg30)) ?_
                    refine t_call Try.call100 (bdone_calls (e0 := bsE3 d (⟨f0, 0, ea, r, false⟩ : Bl) (recB (bsX t v))) hS (by repeat first | exact .here _ _ | assumption | apply Pick.there)) rfl ?_
                    rintro e w ⟨rfl, hS⟩
                    refine ⟨_, rfl, ?_⟩
                    refine t_yes rfl rfl (congrArg not (not_back hg30)) ?_
                    refine t_q (q_not rfl) ?_
                    refine t_q (q_pick_f rfl (congrArg not (not_back hg30))) ?_
                    refine t_nil ?_
                    refine c_cond rfl ?_ ?_
                    · intro hc33
                      first
                        | (have hE3 : bsE3 d (⟨f0, 0, ea, r, false⟩ : Bl) (recB (bsX t v)) ≠ 0 := of_decide_eq_false (not_back (by assumption) : decide (bsE3 d (⟨f0, 0, ea, r, false⟩ : Bl) (recB (bsX t v)) = 0) = false)
                           replace hS := (hS.pick (A := blkA g 107 _) (by repeat first | exact .here _ _ | assumption | apply Pick.there)).recast (show _ = blkA g 107 [.pointer (some ⟨gd, 0, none⟩), .int .i64 f0, .int .i64 (f0 + 1), .int .i64 (bsC d (⟨f0, 0, ea, r, false⟩ : Bl)), .int .i64 ea, .int .u64 ((r).1 : Int), .int .u64 ((r).2 : Int), .bool true] from by rw [show decide (bsE3 d (⟨f0, 0, ea, r, false⟩ : Bl) (recB (bsX t v)) ≠ 0) = true from by first | exact decide_eq_true hE3 | (rw [hE3]; try rfl)]; try first | rfl | rw [hC]))
                        | (have hE2 : bsE2 d (⟨f0, 0, ea, r, false⟩ : Bl) (recB (bsX t v)) ≠ 0 := of_decide_eq_false (not_back (by assumption) : decide (bsE2 d (⟨f0, 0, ea, r, false⟩ : Bl) (recB (bsX t v)) = 0) = false)
                           replace hS := (hS.pick (A := blkA g 107 _) (by repeat first | exact .here _ _ | assumption | apply Pick.there)).recast (show _ = blkA g 107 [.pointer (some ⟨gd, 0, none⟩), .int .i64 f0, .int .i64 (f0 + 1), .int .i64 (bsC d (⟨f0, 0, ea, r, false⟩ : Bl)), .int .i64 ea, .int .u64 ((r).1 : Int), .int .u64 ((r).2 : Int), .bool true] from by rw [show decide (bsE2 d (⟨f0, 0, ea, r, false⟩ : Bl) (recB (bsX t v)) ≠ 0) = true from by first | exact decide_eq_true hE2 | (rw [hE2]; try rfl)]; try first | rfl | rw [hC]))
                      refine c_seq ?_
                      refine c_region ?_
                      refine t_q (q_assign) ?_
                      refine t_nil ?_
                      refine c_ret ?_
                      refine r_one rfl rfl ?_
                      first
                        | (rw [bsR_1 (b := ⟨f0, 0, ea, r, true⟩) rfl]; exact ⟨rfl, (((hS).pick (A := dskA gd _) (by repeat first | exact .here _ _ | assumption | apply Pick.there)).pick (A := blkA g 107 _) (by repeat first | exact .here _ _ | assumption | apply Pick.there))⟩)
                        | (rw [bsR_2 (b := (⟨f0, 0, ea, r, false⟩ : Bl)) rfl harg]; exact ⟨rfl, (((hS).pick (A := dskA gd _) (by repeat first | exact .here _ _ | assumption | apply Pick.there)).pick (A := blkA g 107 _) (by repeat first | exact .here _ _ | assumption | apply Pick.there))⟩)
                        | (rw [bsR_3 (b := (⟨f0, 0, ea, r, false⟩ : Bl)) rfl harg hX]; exact ⟨rfl, ((((hS.pick (A := blkA g7 105 [.int .u64 (((bsX t v)).1 : Int), .int .u64 (((bsX t v)).2 : Int)]) (by repeat first | exact .here _ _ | assumption | apply Pick.there)).drop).pick (A := dskA gd _) (by repeat first | exact .here _ _ | assumption | apply Pick.there)).pick (A := blkA g 107 _) (by repeat first | exact .here _ _ | assumption | apply Pick.there))⟩)
                        | (rw [bsR_4 (b := (⟨f0, 0, ea, r, false⟩ : Bl)) rfl harg hX hA]; exact ⟨rfl, ((((hS.pick (A := blkA g7 105 [.int .u64 (((bsX t v)).1 : Int), .int .u64 (((bsX t v)).2 : Int)]) (by repeat first | exact .here _ _ | assumption | apply Pick.there)).drop).pick (A := dskA gd _) (by repeat first | exact .here _ _ | assumption | apply Pick.there)).pick (A := blkA g 107 _) (by repeat first | exact .here _ _ | assumption | apply Pick.there))⟩)
                        | (rw [bsR_5 (b := (⟨f0, 0, ea, r, false⟩ : Bl)) rfl harg hX hA hE1]; exact ⟨rfl, (((((((hS.pick (A := rowA 5 1 A59 m59 c59 ((recB (bsX t v)).map bv)) (by repeat first | exact .here _ _ | assumption | apply Pick.there)).pick (A := rowA 5 1 A58 (enc t ++ enc (v + 1).toNat).length c58 ((enc t ++ enc (v + 1).toNat).map bv)) (by repeat first | exact .here _ _ | assumption | apply Pick.there)).pick (A := wrA g8 (enc t ++ enc (v + 1).toNat)) (by repeat first | exact .here _ _ | assumption | apply Pick.there)).pick (A := blkA g7 105 [.int .u64 (((bsX t v)).1 : Int), .int .u64 (((bsX t v)).2 : Int)]) (by repeat first | exact .here _ _ | assumption | apply Pick.there)).drop.drop.drop.drop).pick (A := dskA gd _) (by repeat first | exact .here _ _ | assumption | apply Pick.there)).pick (A := blkA g 107 _) (by repeat first | exact .here _ _ | assumption | apply Pick.there))⟩)
                        | (rw [bsR_6 (b := (⟨f0, 0, ea, r, false⟩ : Bl)) rfl harg hX hA hE1 hE2]; exact ⟨rfl, (((((((hS.pick (A := rowA 5 1 A59 m59 c59 ((recB (bsX t v)).map bv)) (by repeat first | exact .here _ _ | assumption | apply Pick.there)).pick (A := rowA 5 1 A58 (enc t ++ enc (v + 1).toNat).length c58 ((enc t ++ enc (v + 1).toNat).map bv)) (by repeat first | exact .here _ _ | assumption | apply Pick.there)).pick (A := wrA g8 (enc t ++ enc (v + 1).toNat)) (by repeat first | exact .here _ _ | assumption | apply Pick.there)).pick (A := blkA g7 105 [.int .u64 (((bsX t v)).1 : Int), .int .u64 (((bsX t v)).2 : Int)]) (by repeat first | exact .here _ _ | assumption | apply Pick.there)).drop.drop.drop.drop).pick (A := dskA gd _) (by repeat first | exact .here _ _ | assumption | apply Pick.there)).pick (A := blkA g 107 _) (by repeat first | exact .here _ _ | assumption | apply Pick.there))⟩)
                        | (rw [bsR_7 (b := (⟨f0, 0, ea, r, false⟩ : Bl)) rfl harg hX hA hE1 hE2 hE3]; exact ⟨rfl, (((((((hS.pick (A := rowA 5 1 A59 m59 c59 ((recB (bsX t v)).map bv)) (by repeat first | exact .here _ _ | assumption | apply Pick.there)).pick (A := rowA 5 1 A58 (enc t ++ enc (v + 1).toNat).length c58 ((enc t ++ enc (v + 1).toNat).map bv)) (by repeat first | exact .here _ _ | assumption | apply Pick.there)).pick (A := wrA g8 (enc t ++ enc (v + 1).toNat)) (by repeat first | exact .here _ _ | assumption | apply Pick.there)).pick (A := blkA g7 105 [.int .u64 (((bsX t v)).1 : Int), .int .u64 (((bsX t v)).2 : Int)]) (by repeat first | exact .here _ _ | assumption | apply Pick.there)).drop.drop.drop.drop).pick (A := dskA gd _) (by repeat first | exact .here _ _ | assumption | apply Pick.there)).pick (A := blkA g 107 _) (by repeat first | exact .here _ _ | assumption | apply Pick.there))⟩)
                        | (rw [bsR_8 (b := (⟨f0, 0, ea, r, false⟩ : Bl)) rfl harg hX hA hE1 hE2 hE3]; exact ⟨rfl, (((((((hS.pick (A := rowA 5 1 A59 m59 c59 ((recB (bsX t v)).map bv)) (by repeat first | exact .here _ _ | assumption | apply Pick.there)).pick (A := rowA 5 1 A58 (enc t ++ enc (v + 1).toNat).length c58 ((enc t ++ enc (v + 1).toNat).map bv)) (by repeat first | exact .here _ _ | assumption | apply Pick.there)).pick (A := wrA g8 (enc t ++ enc (v + 1).toNat)) (by repeat first | exact .here _ _ | assumption | apply Pick.there)).pick (A := blkA g7 105 [.int .u64 (((bsX t v)).1 : Int), .int .u64 (((bsX t v)).2 : Int)]) (by repeat first | exact .here _ _ | assumption | apply Pick.there)).drop.drop.drop.drop).pick (A := dskA gd _) (by repeat first | exact .here _ _ | assumption | apply Pick.there)).pick (A := blkA g 107 _) (by repeat first | exact .here _ _ | assumption | apply Pick.there))⟩)
                    · intro hc33
                      have hE3 : bsE3 d (⟨f0, 0, ea, r, false⟩ : Bl) (recB (bsX t v)) = 0 := of_decide_eq_true (not_back (by assumption) : decide (bsE3 d (⟨f0, 0, ea, r, false⟩ : Bl) (recB (bsX t v)) = 0) = true)
                      replace hS := (hS.pick (A := blkA g 107 _) (by repeat first | exact .here _ _ | assumption | apply Pick.there)).recast (show _ = blkA g 107 [.pointer (some ⟨gd, 0, none⟩), .int .i64 f0, .int .i64 (f0 + 1), .int .i64 (bsC d (⟨f0, 0, ea, r, false⟩ : Bl)), .int .i64 ea, .int .u64 ((r).1 : Int), .int .u64 ((r).2 : Int), .bool false] from by rw [show decide (bsE3 d (⟨f0, 0, ea, r, false⟩ : Bl) (recB (bsX t v)) ≠ 0) = false from by first | exact decide_eq_true hE3 | (rw [hE3]; try rfl)]; try first | rfl | rw [hC])
                      refine c_skip ?_
                      refine c_seq ?_
                      refine c_region ?_
                      refine t_q (q_mv (.pointer _) rfl) ?_
                      refine t_q (q_load_blk Try.isAgg105 Try.sizeOf105 rfl (hS.blk (by repeat first | exact .here _ _ | assumption | apply Pick.there)) rfl) ?_
                      refine t_q (q_nilCheck rfl) ?_
                      refine t_q (q_fieldAddr 5 Try.runUnderlying107 rfl Try.sizeOf105 (by decide) rfl rfl) ?_
                      refine t_store (v := (.agg _)) Try.sizeOf105 hS (by repeat first | exact .here _ _ | assumption | apply Pick.there) rfl rfl rfl rfl rfl rfl (fun w hS => ?_)
                      skip
                      refine t_nil ?_
                      refine c_seq ?_
                      refine c_region ?_
                      refine t_q (q_assign) ?_
                      refine t_nil ?_
                      refine c_ret ?_
                      refine r_one rfl rfl ?_
                      first
                        | (rw [bsR_1 (b := ⟨f0, 0, ea, r, true⟩) rfl]; exact ⟨rfl, (((hS).pick (A := dskA gd _) (by repeat first | exact .here _ _ | assumption | apply Pick.there)).pick (A := blkA g 107 _) (by repeat first | exact .here _ _ | assumption | apply Pick.there))⟩)
                        | (rw [bsR_2 (b := (⟨f0, 0, ea, r, false⟩ : Bl)) rfl harg]; exact ⟨rfl, (((hS).pick (A := dskA gd _) (by repeat first | exact .here _ _ | assumption | apply Pick.there)).pick (A := blkA g 107 _) (by repeat first | exact .here _ _ | assumption | apply Pick.there))⟩)
                        | (rw [bsR_3 (b := (⟨f0, 0, ea, r, false⟩ : Bl)) rfl harg hX]; exact ⟨rfl, ((((hS.pick (A := blkA g7 105 [.int .u64 (((bsX t v)).1 : Int), .int .u64 (((bsX t v)).2 : Int)]) (by repeat first | exact .here _ _ | assumption | apply Pick.there)).drop).pick (A := dskA gd _) (by repeat first | exact .here _ _ | assumption | apply Pick.there)).pick (A := blkA g 107 _) (by repeat first | exact .here _ _ | assumption | apply Pick.there))⟩)
                        | (rw [bsR_4 (b := (⟨f0, 0, ea, r, false⟩ : Bl)) rfl harg hX hA]; exact ⟨rfl, ((((hS.pick (A := blkA g7 105 [.int .u64 (((bsX t v)).1 : Int), .int .u64 (((bsX t v)).2 : Int)]) (by repeat first | exact .here _ _ | assumption | apply Pick.there)).drop).pick (A := dskA gd _) (by repeat first | exact .here _ _ | assumption | apply Pick.there)).pick (A := blkA g 107 _) (by repeat first | exact .here _ _ | assumption | apply Pick.there))⟩)
                        | (rw [bsR_5 (b := (⟨f0, 0, ea, r, false⟩ : Bl)) rfl harg hX hA hE1]; exact ⟨rfl, (((((((hS.pick (A := rowA 5 1 A59 m59 c59 ((recB (bsX t v)).map bv)) (by repeat first | exact .here _ _ | assumption | apply Pick.there)).pick (A := rowA 5 1 A58 (enc t ++ enc (v + 1).toNat).length c58 ((enc t ++ enc (v + 1).toNat).map bv)) (by repeat first | exact .here _ _ | assumption | apply Pick.there)).pick (A := wrA g8 (enc t ++ enc (v + 1).toNat)) (by repeat first | exact .here _ _ | assumption | apply Pick.there)).pick (A := blkA g7 105 [.int .u64 (((bsX t v)).1 : Int), .int .u64 (((bsX t v)).2 : Int)]) (by repeat first | exact .here _ _ | assumption | apply Pick.there)).drop.drop.drop.drop).pick (A := dskA gd _) (by repeat first | exact .here _ _ | assumption | apply Pick.there)).pick (A := blkA g 107 _) (by repeat first | exact .here _ _ | assumption | apply Pick.there))⟩)
                        | (rw [bsR_6 (b := (⟨f0, 0, ea, r, false⟩ : Bl)) rfl harg hX hA hE1 hE2]; exact ⟨rfl, (((((((hS.pick (A := rowA 5 1 A59 m59 c59 ((recB (bsX t v)).map bv)) (by repeat first | exact .here _ _ | assumption | apply Pick.there)).pick (A := rowA 5 1 A58 (enc t ++ enc (v + 1).toNat).length c58 ((enc t ++ enc (v + 1).toNat).map bv)) (by repeat first | exact .here _ _ | assumption | apply Pick.there)).pick (A := wrA g8 (enc t ++ enc (v + 1).toNat)) (by repeat first | exact .here _ _ | assumption | apply Pick.there)).pick (A := blkA g7 105 [.int .u64 (((bsX t v)).1 : Int), .int .u64 (((bsX t v)).2 : Int)]) (by repeat first | exact .here _ _ | assumption | apply Pick.there)).drop.drop.drop.drop).pick (A := dskA gd _) (by repeat first | exact .here _ _ | assumption | apply Pick.there)).pick (A := blkA g 107 _) (by repeat first | exact .here _ _ | assumption | apply Pick.there))⟩)
                        | (rw [bsR_7 (b := (⟨f0, 0, ea, r, false⟩ : Bl)) rfl harg hX hA hE1 hE2 hE3]; exact ⟨rfl, (((((((hS.pick (A := rowA 5 1 A59 m59 c59 ((recB (bsX t v)).map bv)) (by repeat first | exact .here _ _ | assumption | apply Pick.there)).pick (A := rowA 5 1 A58 (enc t ++ enc (v + 1).toNat).length c58 ((enc t ++ enc (v + 1).toNat).map bv)) (by repeat first | exact .here _ _ | assumption | apply Pick.there)).pick (A := wrA g8 (enc t ++ enc (v + 1).toNat)) (by repeat first | exact .here _ _ | assumption | apply Pick.there)).pick (A := blkA g7 105 [.int .u64 (((bsX t v)).1 : Int), .int .u64 (((bsX t v)).2 : Int)]) (by repeat first | exact .here _ _ | assumption | apply Pick.there)).drop.drop.drop.drop).pick (A := dskA gd _) (by repeat first | exact .here _ _ | assumption | apply Pick.there)).pick (A := blkA g 107 _) (by repeat first | exact .here _ _ | assumption | apply Pick.there))⟩)
                        | (rw [bsR_8 (b := (⟨f0, 0, ea, r, false⟩ : Bl)) rfl harg hX hA hE1 hE2 hE3]; exact ⟨rfl, (((((((hS.pick (A := rowA 5 1 A59 m59 c59 ((recB (bsX t v)).map bv)) (by repeat first | exact .here _ _ | assumption | apply Pick.there)).pick (A := rowA 5 1 A58 (enc t ++ enc (v + 1).toNat).length c58 ((enc t ++ enc (v + 1).toNat).map bv)) (by repeat first | exact .here _ _ | assumption | apply Pick.there)).pick (A := wrA g8 (enc t ++ enc (v + 1).toNat)) (by repeat first | exact .here _ _ | assumption | apply Pick.there)).pick (A := blkA g7 105 [.int .u64 (((bsX t v)).1 : Int), .int .u64 (((bsX t v)).2 : Int)]) (by repeat first | exact .here _ _ | assumption | apply Pick.there)).drop.drop.drop.drop).pick (A := dskA gd _) (by repeat first | exact .here _ _ | assumption | apply Pick.there)).pick (A := blkA g 107 _) (by repeat first | exact .here _ _ | assumption | apply Pick.there))⟩)
              · intro hc22
                have hc22d := of_decide_eq_false hc22
                have hL : ¬ bsL d (⟨f0, 0, ea, r, false⟩ : Bl) := by show ¬ ea ≤ ((d.F (f0 + 0).toNat).1.length : Int); omega
                have hC : bsC d (⟨f0, 0, ea, r, false⟩ : Bl) = 0 := by unfold bsC; rw [if_neg hL]
                have hM : bsM d (⟨f0, 0, ea, r, false⟩ : Bl) = f0 := by unfold bsM; rw [hC]; show f0 + 0 = f0; omega
                have hE1 : bsE1 d (⟨f0, 0, ea, r, false⟩ : Bl) = 0 := by unfold bsE1; rw [if_neg hL]
                have hD1 : bsD1 d (⟨f0, 0, ea, r, false⟩ : Bl) = d := by unfold bsD1; rw [if_neg hL]
                replace hS := (hS.pick (A := dskA gd d) (by repeat first | exact .here _ _ | assumption | apply Pick.there)).recast (congrArg (dskA gd) hD1.symm)
                refine c_skip ?_
                refine c_seq ?_
                refine c_draw ?_
                refine d_quiet 10 [0, 1, 2, 3, 4, 5, 6, 7, 8, 9] [0, 1, 2, 3, 4, 5, 6, 7, 8, 9] hS rfl (by kernel_rfl) (by kernel_rfl) (by kernel_rfl) (by kernel_rfl) (fun hap hsel w hS => ?_)
                refine p_q hap hsel 0 rfl rfl hS (fun w hS => q_mv (.pointer _) rfl) ?_
                refine p_q hap hsel 1 rfl rfl hS (fun w hS => q_mv (.pointer _) rfl) ?_
                refine p_q hap hsel 2 rfl rfl hS (fun w hS => q_nilCheck rfl) ?_
                refine p_q hap hsel 3 rfl rfl hS (fun w hS => q_fieldAddr 3 Try.runUnderlying107 rfl Try.sizeOf3 (by decide) rfl rfl) ?_
                refine p_q hap hsel 4 rfl rfl hS (fun w hS => q_load1 Try.isAgg3 rfl (hS.cell (by repeat first | exact .here _ _ | assumption | apply Pick.there) rfl)) ?_
                refine p_q hap hsel 5 rfl rfl hS (fun w hS => q_nilCheck rfl) ?_
                refine p_q hap hsel 6 rfl rfl hS (fun w hS => q_fieldAddr 1 Try.runUnderlying107 rfl Try.sizeOf73 (by decide) rfl rfl) ?_
                first | refine p_q hap hsel 7 rfl rfl hS (fun w hS => q_arr_nat Try.runUnderlying73 Try.sizeOf3 rfl rfl (by omega)) ?_ | refine p_q hap hsel 7 rfl rfl hS (fun w hS => q_arr Try.runUnderlying73 Try.sizeOf3 rfl rfl (by omega)) ?_
                refine p_q hap hsel 8 rfl rfl hS (fun w hS => (q_cast (v' := .int .i64 (bsM d (⟨f0, 0, ea, r, false⟩ : Bl))) (q_load1 Try.isAgg3 rfl (hS.cell (by repeat first | exact .here _ _ | assumption | apply Pick.there) rfl)) (congrArg (Value.int .i64) hM.symm))) ?_
                refine p_q hap hsel 9 rfl rfl hS (fun w hS => q_as (.int _ _) rfl) ?_
                refine p_end (by kernel_rfl) ?_
                refine c_seq ?_
                refine c_seq ?_
                refine c_region ?_
                refine t_q (q_mv (.pointer _) rfl) ?_
                refine t_q (q_mv (.pointer _) rfl) ?_
                refine t_q (q_nilCheck rfl) ?_
                refine t_q (q_fieldAddr 0 Try.runUnderlying107 rfl Try.sizeOf58 (by decide) rfl rfl) ?_
                refine t_q (q_load1 Try.isAgg58 rfl (hS.cell (by repeat first | exact .here _ _ | assumption | apply Pick.there) rfl)) ?_
                refine t_q (q_mv (.int _ _) rfl) ?_
                refine t_q (q_mv (.slice _ _ _) rfl) ?_
                refine t_call Try.call39 (app_calls (i := bsM d (⟨f0, 0, ea, r, false⟩ : Bl)) (ys := recB (bsX t v)) (((hS.pick (A := rowA 5 1 A59 m59 c59 ((recB (bsX t v)).map bv)) (by repeat first | exact .here _ _ | assumption | apply Pick.there)).pick (A := dskA gd _) (by repeat first | exact .here _ _ | assumption | apply Pick.there))) (.here _ _) hG1 (by omega) (fun w h => h.rowRd (A := A59) (c := c59) (bs := recB (bsX t v)) (.here _ _) hm59) hm59 (by omega)) rfl ?_
                rintro e w ⟨rfl, hS⟩
                refine ⟨_, rfl, ?_⟩
                replace hS : St W w (dskA gd (bsD2 d (⟨f0, 0, ea, r, false⟩ : Bl) (recB (bsX t v))) :: _) := hS
                refine t_call Try.call100 (bdone_calls (e0 := bsE2 d (⟨f0, 0, ea, r, false⟩ : Bl) (recB (bsX t v))) hS (by repeat first | exact .here _ _ | assumption | apply Pick.there)) rfl ?_
                rintro e w ⟨rfl, hS⟩
                refine ⟨_, rfl, ?_⟩
                refine t_q (q_not rfl) ?_
                refine t_q (q_mv (.bool _) rfl) ?_
                refine t_case 126 rfl ?_ ?_
                · intro hg37
                  refine t_no rfl rfl (by rw [(congrArg not (not_back hg37))]; decide) ?_
                  refine t_no rfl rfl (by rw [(congrArg not (not_back hg37))]; decide) ?_
                  refine t_no rfl rfl (by rw [(congrArg not (not_back hg37))]; decide) ?_
                  refine t_no rfl rfl (by rw [(congrArg not (not_back hg37))]; decide) ?_
                  refine t_no rfl rfl (by rw [(congrArg not (not_back hg37))]; decide) ?_
                  refine t_no rfl rfl (by rw [(congrArg not (not_back hg37))]; decide) ?_
                  refine t_no rfl rfl (by rw [(congrArg not (not_back hg37))]; decide) ?_
                  refine t_no rfl rfl (by rw [(congrArg not (not_back hg37))]; decide) ?_
                  refine t_no rfl rfl (by rw [(congrArg not (not_back hg37))]; decide) ?_
                  refine t_q (q_pick_t rfl (congrArg not (not_back hg37))) ?_
                  refine t_nil ?_
                  refine c_cond_t rfl rfl ?_
                  first
                    | (have hE3 : bsE3 d (⟨f0, 0, ea, r, false⟩ : Bl) (recB (bsX t v)) ≠ 0 := of_decide_eq_false (not_back (by assumption) : decide (bsE3 d (⟨f0, 0, ea, r, false⟩ : Bl) (recB (bsX t v)) = 0) = false)
                       replace hS := (hS.pick (A := blkA g 107 _) (by repeat first | exact .here _ _ | assumption | apply Pick.there)).recast (show _ = blkA g 107 [.pointer (some ⟨gd, 0, none⟩), .int .i64 f0, .int .i64 (f0 + 1), .int .i64 (bsC d (⟨f0, 0, ea, r, false⟩ : Bl)), .int .i64 ea, .int .u64 ((r).1 : Int), .int .u64 ((r).2 : Int), .bool true] from by rw [show decide (bsE3 d (⟨f0, 0, ea, r, false⟩ : Bl) (recB (bsX t v)) ≠ 0) = true from by first | exact decide_eq_true hE3 | (rw [hE3]; try rfl)]; try first | rfl | rw [hC]))
                    | (have hE2 : bsE2 d (⟨f0, 0, ea, r, false⟩ : Bl) (recB (bsX t v)) ≠ 0 := of_decide_eq_false (not_back (by assumption) : decide (bsE2 d (⟨f0, 0, ea, r, false⟩ : Bl) (recB (bsX t v)) = 0) = false)
                       replace hS := (hS.pick (A := blkA g 107 _) (by repeat first | exact .here _ _ | assumption | apply Pick.there)).recast (show _ = blkA g 107 [.pointer (some ⟨gd, 0, none⟩), .int .i64 f0, .int .i64 (f0 + 1), .int .i64 (bsC d (⟨f0, 0, ea, r, false⟩ : Bl)), .int .i64 ea, .int .u64 ((r).1 : Int), .int .u64 ((r).2 : Int), .bool true] from by rw [show decide (bsE2 d (⟨f0, 0, ea, r, false⟩ : Bl) (recB (bsX t v)) ≠ 0) = true from by first | exact decide_eq_true hE2 | (rw [hE2]; try rfl)]; try first | rfl | rw [hC]))
                  refine c_seq ?_
                  refine c_region ?_
                  refine t_q (q_assign) ?_
                  refine t_nil ?_
                  refine c_ret ?_
                  refine r_one rfl rfl ?_
                  first
                    | (rw [bsR_1 (b := ⟨f0, 0, ea, r, true⟩) rfl]; exact ⟨rfl, (((hS).pick (A := dskA gd _) (by repeat first | exact .here _ _ | assumption | apply Pick.there)).pick (A := blkA g 107 _) (by repeat first | exact .here _ _ | assumption | apply Pick.there))⟩)
                    | (rw [bsR_2 (b := (⟨f0, 0, ea, r, false⟩ : Bl)) rfl harg]; exact ⟨rfl, (((hS).pick (A := dskA gd _) (by repeat first | exact .here _ _ | assumption | apply Pick.there)).pick (A := blkA g 107 _) (by repeat first | exact .here _ _ | assumption | apply Pick.there))⟩)
                    | (rw [bsR_3 (b := (⟨f0, 0, ea, r, false⟩ : Bl)) rfl harg hX]; exact ⟨rfl, ((((hS.pick (A := blkA g7 105 [.int .u64 (((bsX t v)).1 : Int), .int .u64 (((bsX t v)).2 : Int)]) (by repeat first | exact .here _ _ | assumption | apply Pick.there)).drop).pick (A := dskA gd _) (by repeat first | exact .here _ _ | assumption | apply Pick.there)).pick (A := blkA g 107 _) (by repeat first | exact .here _ _ | assumption | apply Pick.there))⟩)
                    | (rw [bsR_4 (b := (⟨f0, 0, ea, r, false⟩ : Bl)) rfl harg hX hA]; exact ⟨rfl, ((((hS.pick (A := blkA g7 105 [.int .u64 (((bsX t v)).1 : Int), .int .u64 (((bsX t v)).2 : Int)]) (by repeat first | exact .here _ _ | assumption | apply Pick.there)).drop).pick (A := dskA gd _) (by repeat first | exact .here _ _ | assumption | apply Pick.there)).pick (A := blkA g 107 _) (by repeat first | exact .here _ _ | assumption | apply Pick.there))⟩)
                    | (rw [bsR_5 (b := (⟨f0, 0, ea, r, false⟩ : Bl)) rfl harg hX hA hE1]; exact ⟨rfl, (((((((hS.pick (A := rowA 5 1 A59 m59 c59 ((recB (bsX t v)).map bv)) (by repeat first | exact .here _ _ | assumption | apply Pick.there)).pick (A := rowA 5 1 A58 (enc t ++ enc (v + 1).toNat).length c58 ((enc t ++ enc (v + 1).toNat).map bv)) (by repeat first | exact .here _ _ | assumption | apply Pick.there)).pick (A := wrA g8 (enc t ++ enc (v + 1).toNat)) (by repeat first | exact .here _ _ | assumption | apply Pick.there)).pick (A := blkA g7 105 [.int .u64 (((bsX t v)).1 : Int), .int .u64 (((bsX t v)).2 : Int)]) (by repeat first | exact .here _ _ | assumption | apply Pick.there)).drop.drop.drop.drop).pick (A := dskA gd _) (by repeat first | exact .here _ _ | assumption | apply Pick.there)).pick (A := blkA g 107 _) (by repeat first | exact .here _ _ | assumption | apply Pick.there))⟩)
                    | (rw [bsR_6 (b := (⟨f0, 0, ea, r, false⟩ : Bl)) rfl harg hX hA hE1 hE2]; exact ⟨rfl, (((((((hS.pick (A := rowA 5 1 A59 m59 c59 ((recB (bsX t v)).map bv)) (by repeat first | exact .here _ _ | assumption | apply Pick.there)).pick (A := rowA 5 1 A58 (enc t ++ enc (v + 1).toNat).length c58 ((enc t ++ enc (v + 1).toNat).map bv)) (by repeat first | exact .here _ _ | assumption | apply Pick.there)).pick (A := wrA g8 (enc t ++ enc (v + 1).toNat)) (by repeat first | exact .here _ _ | assumption | apply Pick.there)).pick (A := blkA g7 105 [.int .u64 (((bsX t v)).1 : Int), .int .u64 (((bsX t v)).2 : Int)]) (by repeat first | exact .here _ _ | assumption | apply Pick.there)).drop.drop.drop.drop).pick (A := dskA gd _) (by repeat first | exact .here _ _ | assumption | apply Pick.there)).pick (A := blkA g 107 _) (by repeat first | exact .here _ _ | assumption | apply Pick.there))⟩)
                    | (rw [bsR_7 (b := (⟨f0, 0, ea, r, false⟩ : Bl)) rfl harg hX hA hE1 hE2 hE3]; exact ⟨rfl, (((((((hS.pick (A := rowA 5 1 A59 m59 c59 ((recB (bsX t v)).map bv)) (by repeat first | exact .here _ _ | assumption | apply Pick.there)).pick (A := rowA 5 1 A58 (enc t ++ enc (v + 1).toNat).length c58 ((enc t ++ enc (v + 1).toNat).map bv)) (by repeat first | exact .here _ _ | assumption | apply Pick.there)).pick (A := wrA g8 (enc t ++ enc (v + 1).toNat)) (by repeat first | exact .here _ _ | assumption | apply Pick.there)).pick (A := blkA g7 105 [.int .u64 (((bsX t v)).1 : Int), .int .u64 (((bsX t v)).2 : Int)]) (by repeat first | exact .here _ _ | assumption | apply Pick.there)).drop.drop.drop.drop).pick (A := dskA gd _) (by repeat first | exact .here _ _ | assumption | apply Pick.there)).pick (A := blkA g 107 _) (by repeat first | exact .here _ _ | assumption | apply Pick.there))⟩)
                    | (rw [bsR_8 (b := (⟨f0, 0, ea, r, false⟩ : Bl)) rfl harg hX hA hE1 hE2 hE3]; exact ⟨rfl, (((((((hS.pick (A := rowA 5 1 A59 m59 c59 ((recB (bsX t v)).map bv)) (by repeat first | exact .here _ _ | assumption | apply Pick.there)).pick (A := rowA 5 1 A58 (enc t ++ enc (v + 1).toNat).length c58 ((enc t ++ enc (v + 1).toNat).map bv)) (by repeat first | exact .here _ _ | assumption | apply Pick.there)).pick (A := wrA g8 (enc t ++ enc (v + 1).toNat)) (by repeat first | exact .here _ _ | assumption | apply Pick.there)).pick (A := blkA g7 105 [.int .u64 (((bsX t v)).1 : Int), .int .u64 (((bsX t v)).2 : Int)]) (by repeat first | exact .here _ _ | assumption | apply Pick.there)).drop.drop.drop.drop).pick (A := dskA gd _) (by repeat first | exact .here _ _ | assumption | apply Pick.there)).pick (A := blkA g 107 _) (by repeat first | exact .here _ _ | assumption | apply Pick.there))⟩)
                · intro hg37
                  refine t_yes rfl rfl (congrArg not (not_back hg37)) ?_
                  refine t_q (q_mv (.pointer _) rfl) ?_
                  have hE2 : bsE2 d (⟨f0, 0, ea, r, false⟩ : Bl) (recB (bsX t v)) = 0 := of_decide_eq_true (not_back (by assumption) : decide (bsE2 d (⟨f0, 0, ea, r, false⟩ : Bl) (recB (bsX t v)) = 0) = true)
                  replace hS := (hS.pick (A := blkA g 107 _) (by repeat first | exact .here _ _ | assumption | apply Pick.there)).recast (show _ = blkA g 107 [.pointer (some ⟨gd, 0, none⟩), .int .i64 f0, .int .i64 (f0 + 1), .int .i64 (bsC d (⟨f0, 0, ea, r, false⟩ : Bl)), .int .i64 ea, .int .u64 ((r).1 : Int), .int .u64 ((r).2 : Int), .bool false] from by rw [show decide (bsE2 d (⟨f0, 0, ea, r, false⟩ : Bl) (recB (bsX t v)) ≠ 0) = false from by rw [hE2]; try rfl]; try first | rfl | rw [hC])
                  refine t_yes rfl rfl (congrArg not (not_back hg37)) ?_
                  refine t_q (q_mv (.pointer _) rfl) ?_
                  refine t_yes rfl rfl (congrArg not (not_back hg37)) ?_
                  refine t_q (q_nilCheck rfl) ?_
                  refine t_yes rfl rfl (congrArg not (not_back hg37)) ?_
                  refine t_q (q_fieldAddr 0 Try.runUnderlying107 rfl Try.sizeOf58 (by decide) rfl rfl) ?_
                  refine t_yes rfl rfl (congrArg not (not_back hg37)) ?_
                  refine t_q (q_load1 Try.isAgg58 rfl (hS.cell (by repeat first | exact .here _ _ | assumption | apply Pick.there) rfl)) ?_
                  refine t_yes rfl rfl (congrArg not (not_back hg37)) ?_
                  refine t_q (q_mv (.int _ _) rfl) ?_
                  refine t_yes rfl rfl (congrArg not (not_back hg37)) ?_
                  refine t_call Try.call43 (syn_calls (i := bsM d (⟨f0, 0, ea, r, false⟩ : Bl)) hS (by repeat first | exact .here _ _ | assumption | apply Pick.there) hG2 (by omega)) rfl ?_
                  rintro e w ⟨rfl, hS⟩
                  refine ⟨_, rfl, ?_⟩
                  replace hS : St W w (dskA gd (bsD3 d (⟨f0, 0, ea, r, false⟩ : Bl) (recB (bsX t v))) :: _) := hS
                  refine t_yes rfl rfl (congrArg not (not_back hg37)) ?_
                  refine t_call Try.call100 (bdone_calls (e0 := bsE3 d (⟨f0, 0, ea, r, false⟩ : Bl) (recB (bsX t v))) hS (by repeat first | exact .here _ _ | assumption | apply Pick.there)) rfl ?_
                  rintro e w ⟨rfl, hS⟩
                  refine ⟨_, rfl, ?_⟩
                  refine t_yes rfl rfl (congrArg not (not_back hg37)) ?_
                  refine t_q (q_not rfl) ?_
                  refine t_q (q_pick_f rfl (congrArg not (not_back hg37))) ?_
                  refine t_nil ?_
                  refine c_cond rfl ?_ ?_
                  · intro hc40
                    first
                      | (have hE3 : bsE3 d (⟨f0, 0, ea, r, false⟩ : Bl) (recB (bsX t v)) ≠ 0 := of_decide_eq_false (not_back (by assumption) : decide (bsE3 d (⟨f0, 0, ea, r, false⟩ : Bl) (recB (bsX t v)) = 0) = false)
                         replace hS := (hS.pick (A := blkA g 107 _) (by repeat first | exact .here _ _ | assumption | apply Pick.there)).recast (show _ = blkA g 107 [.pointer (some ⟨gd, 0, none⟩), .int .i64 f0, .int .i64 (f0 + 1), .int .i64 (bsC d (⟨f0, 0, ea, r, false⟩ : Bl)), .int .i64 ea, .int .u64 ((r).1 : Int), .int .u64 ((r).2 : Int), .bool true] from by rw [show decide (bsE3 d (⟨f0, 0, ea, r, false⟩ : Bl) (recB (bsX t v)) ≠ 0) = true from by first | exact decide_eq_true hE3 | (rw [hE3]; try rfl)]; try first | rfl | rw [hC]))
                      | (have hE2 : bsE2 d (⟨f0, 0, ea, r, false⟩ : Bl) (recB (bsX t v)) ≠ 0 := of_decide_eq_false (not_back (by assumption) : decide (bsE2 d (⟨f0, 0, ea, r, false⟩ : Bl) (recB (bsX t v)) = 0) = false)
                         replace hS := (hS.pick (A := blkA g 107 _) (by repeat first | exact .here _ _ | assumption | apply Pick.there)).recast (show _ = blkA g 107 [.pointer (some ⟨gd, 0, none⟩), .int .i64 f0, .int .i64 (f0 + 1), .int .i64 (bsC d (⟨f0, 0, ea, r, false⟩ : Bl)), .int .i64 ea, .int .u64 ((r).1 : Int), .int .u64 ((r).2 : Int), .bool true] from by rw [show decide (bsE2 d (⟨f0, 0, ea, r, false⟩ : Bl) (recB (bsX t v)) ≠ 0) = true from by first | exact decide_eq_true hE2 | (rw [hE2]; try rfl)]; try first | rfl | rw [hC]))
                    refine c_seq ?_
                    refine c_region ?_
                    refine t_q (q_assign) ?_
                    refine t_nil ?_
                    refine c_ret ?_
                    refine r_one rfl rfl ?_
                    first
                      | (rw [bsR_1 (b := ⟨f0, 0, ea, r, true⟩) rfl]; exact ⟨rfl, (((hS).pick (A := dskA gd _) (by repeat first | exact .here _ _ | assumption | apply Pick.there)).pick (A := blkA g 107 _) (by repeat first | exact .here _ _ | assumption | apply Pick.there))⟩)
                      | (rw [bsR_2 (b := (⟨f0, 0, ea, r, false⟩ : Bl)) rfl harg]; exact ⟨rfl, (((hS).pick (A := dskA gd _) (by repeat first | exact .here _ _ | assumption | apply Pick.there)).pick (A := blkA g 107 _) (by repeat first | exact .here _ _ | assumption | apply Pick.there))⟩)
                      | (rw [bsR_3 (b := (⟨f0, 0, ea, r, false⟩ : Bl)) rfl harg hX]; exact ⟨rfl, ((((hS.pick (A := blkA g7 105 [.int .u64 (((bsX t v)).1 : Int), .int .u64 (((bsX t v)).2 : Int)]) (by repeat first | exact .here _ _ | assumption | apply Pick.there)).drop).pick (A := dskA gd _) (by repeat first | exact .here _ _ | assumption | apply Pick.there)).pick (A := blkA g 107 _) (by repeat first | exact .here _ _ | assumption | apply Pick.there))⟩)
                      | (rw [bsR_4 (b := (⟨f0, 0, ea, r, false⟩ : Bl)) rfl harg hX hA]; exact ⟨rfl, ((((hS.pick (A := blkA g7 105 [.int .u64 (((bsX t v)).1 : Int), .int .u64 (((bsX t v)).2 : Int)]) (by repeat first | exact .here _ _ | assumption | apply Pick.there)).drop).pick (A := dskA gd _) (by repeat first | exact .here _ _ | assumption | apply Pick.there)).pick (A := blkA g 107 _) (by repeat first | exact .here _ _ | assumption | apply Pick.there))⟩)
                      | (rw [bsR_5 (b := (⟨f0, 0, ea, r, false⟩ : Bl)) rfl harg hX hA hE1]; exact ⟨rfl, (((((((hS.pick (A := rowA 5 1 A59 m59 c59 ((recB (bsX t v)).map bv)) (by repeat first | exact .here _ _ | assumption | apply Pick.there)).pick (A := rowA 5 1 A58 (enc t ++ enc (v + 1).toNat).length c58 ((enc t ++ enc (v + 1).toNat).map bv)) (by repeat first | exact .here _ _ | assumption | apply Pick.there)).pick (A := wrA g8 (enc t ++ enc (v + 1).toNat)) (by repeat first | exact .here _ _ | assumption | apply Pick.there)).pick (A := blkA g7 105 [.int .u64 (((bsX t v)).1 : Int), .int .u64 (((bsX t v)).2 : Int)]) (by repeat first | exact .here _ _ | assumption | apply Pick.there)).drop.drop.drop.drop).pick (A := dskA gd _) (by repeat first | exact .here _ _ | assumption | apply Pick.there)).pick (A := blkA g 107 _) (by repeat first | exact .here _ _ | assumption | apply Pick.there))⟩)
                      | (rw [bsR_6 (b := (⟨f0, 0, ea, r, false⟩ : Bl)) rfl harg hX hA hE1 hE2]; exact ⟨rfl, (((((((hS.pick (A := rowA 5 1 A59 m59 c59 ((recB (bsX t v)).map bv)) (by repeat first | exact .here _ _ | assumption | apply Pick.there)).pick (A := rowA 5 1 A58 (enc t ++ enc (v + 1).toNat).length c58 ((enc t ++ enc (v + 1).toNat).map bv)) (by repeat first | exact .here _ _ | assumption | apply Pick.there)).pick (A := wrA g8 (enc t ++ enc (v + 1).toNat)) (by repeat first | exact .here _ _ | assumption | apply Pick.there)).pick (A := blkA g7 105 [.int .u64 (((bsX t v)).1 : Int), .int .u64 (((bsX t v)).2 : Int)]) (by repeat first | exact .here _ _ | assumption | apply Pick.there)).drop.drop.drop.drop).pick (A := dskA gd _) (by repeat first | exact .here _ _ | assumption | apply Pick.there)).pick (A := blkA g 107 _) (by repeat first | exact .here _ _ | assumption | apply Pick.there))⟩)
                      | (rw [bsR_7 (b := (⟨f0, 0, ea, r, false⟩ : Bl)) rfl harg hX hA hE1 hE2 hE3]; exact ⟨rfl, (((((((hS.pick (A := rowA 5 1 A59 m59 c59 ((recB (bsX t v)).map bv)) (by repeat first | exact .here _ _ | assumption | apply Pick.there)).pick (A := rowA 5 1 A58 (enc t ++ enc (v + 1).toNat).length c58 ((enc t ++ enc (v + 1).toNat).map bv)) (by repeat first | exact .here _ _ | assumption | apply Pick.there)).pick (A := wrA g8 (enc t ++ enc (v + 1).toNat)) (by repeat first | exact .here _ _ | assumption | apply Pick.there)).pick (A := blkA g7 105 [.int .u64 (((bsX t v)).1 : Int), .int .u64 (((bsX t v)).2 : Int)]) (by repeat first | exact .here _ _ | assumption | apply Pick.there)).drop.drop.drop.drop).pick (A := dskA gd _) (by repeat first | exact .here _ _ | assumption | apply Pick.there)).pick (A := blkA g 107 _) (by repeat first | exact .here _ _ | assumption | apply Pick.there))⟩)
                      | (rw [bsR_8 (b := (⟨f0, 0, ea, r, false⟩ : Bl)) rfl harg hX hA hE1 hE2 hE3]; exact ⟨rfl, (((((((hS.pick (A := rowA 5 1 A59 m59 c59 ((recB (bsX t v)).map bv)) (by repeat first | exact .here _ _ | assumption | apply Pick.there)).pick (A := rowA 5 1 A58 (enc t ++ enc (v + 1).toNat).length c58 ((enc t ++ enc (v + 1).toNat).map bv)) (by repeat first | exact .here _ _ | assumption | apply Pick.there)).pick (A := wrA g8 (enc t ++ enc (v + 1).toNat)) (by repeat first | exact .here _ _ | assumption | apply Pick.there)).pick (A := blkA g7 105 [.int .u64 (((bsX t v)).1 : Int), .int .u64 (((bsX t v)).2 : Int)]) (by repeat first | exact .here _ _ | assumption | apply Pick.there)).drop.drop.drop.drop).pick (A := dskA gd _) (by repeat first | exact .here _ _ | assumption | apply Pick.there)).pick (A := blkA g 107 _) (by repeat first | exact .here _ _ | assumption | apply Pick.there))⟩)
                  · intro hc40
                    have hE3 : bsE3 d (⟨f0, 0, ea, r, false⟩ : Bl) (recB (bsX t v)) = 0 := of_decide_eq_true (not_back (by assumption) : decide (bsE3 d (⟨f0, 0, ea, r, false⟩ : Bl) (recB (bsX t v)) = 0) = true)
                    replace hS := (hS.pick (A := blkA g 107 _) (by repeat first | exact .here _ _ | assumption | apply Pick.there)).recast (show _ = blkA g 107 [.pointer (some ⟨gd, 0, none⟩), .int .i64 f0, .int .i64 (f0 + 1), .int .i64 (bsC d (⟨f0, 0, ea, r, false⟩ : Bl)), .int .i64 ea, .int .u64 ((r).1 : Int), .int .u64 ((r).2 : Int), .bool false] from by rw [show decide (bsE3 d (⟨f0, 0, ea, r, false⟩ : Bl) (recB (bsX t v)) ≠ 0) = false from by first | exact decide_eq_true hE3 | (rw [hE3]; try rfl)]; try first | rfl | rw [hC])
                    refine c_skip ?_
                    refine c_seq ?_
                    refine c_region ?_
                    refine t_q (q_mv (.pointer _) rfl) ?_
                    refine t_q (q_load_blk Try.isAgg105 Try.sizeOf105 rfl (hS.blk (by repeat first | exact .here _ _ | assumption | apply Pick.there)) rfl) ?_
                    refine t_q (q_nilCheck rfl) ?_
                    refine t_q (q_fieldAddr 5 Try.runUnderlying107 rfl Try.sizeOf105 (by decide) rfl rfl) ?_
                    refine t_store (v := (.agg _)) Try.sizeOf105 hS (by repeat first | exact .here _ _ | assumption | apply Pick.there) rfl rfl rfl rfl rfl rfl (fun w hS => ?_)
                    skip
                    refine t_nil ?_
                    refine c_seq ?_
                    refine c_region ?_
                    refine t_q (q_assign) ?_
                    refine t_nil ?_
                    refine c_ret ?_
                    refine r_one rfl rfl ?_
                    first
                      | (rw [bsR_1 (b := ⟨f0, 0, ea, r, true⟩) rfl]; exact ⟨rfl, (((hS).pick (A := dskA gd _) (by repeat first | exact .here _ _ | assumption | apply Pick.there)).pick (A := blkA g 107 _) (by repeat first | exact .here _ _ | assumption | apply Pick.there))⟩)
                      | (rw [bsR_2 (b := (⟨f0, 0, ea, r, false⟩ : Bl)) rfl harg]; exact ⟨rfl, (((hS).pick (A := dskA gd _) (by repeat first | exact .here _ _ | assumption | apply Pick.there)).pick (A := blkA g 107 _) (by repeat first | exact .here _ _ | assumption | apply Pick.there))⟩)
                      | (rw [bsR_3 (b := (⟨f0, 0, ea, r, false⟩ : Bl)) rfl harg hX]; exact ⟨rfl, ((((hS.pick (A := blkA g7 105 [.int .u64 (((bsX t v)).1 : Int), .int .u64 (((bsX t v)).2 : Int)]) (by repeat first | exact .here _ _ | assumption | apply Pick.there)).drop).pick (A := dskA gd _) (by repeat first | exact .here _ _ | assumption | apply Pick.there)).pick (A := blkA g 107 _) (by repeat first | exact .here _ _ | assumption | apply Pick.there))⟩)
                      | (rw [bsR_4 (b := (⟨f0, 0, ea, r, false⟩ : Bl)) rfl harg hX hA]; exact ⟨rfl, ((((hS.pick (A := blkA g7 105 [.int .u64 (((bsX t v)).1 : Int), .int .u64 (((bsX t v)).2 : Int)]) (by repeat first | exact .here _ _ | assumption | apply Pick.there)).drop).pick (A := dskA gd _) (by repeat first | exact .here _ _ | assumption | apply Pick.there)).pick (A := blkA g 107 _) (by repeat first | exact .here _ _ | assumption | apply Pick.there))⟩)
                      | (rw [bsR_5 (b := (⟨f0, 0, ea, r, false⟩ : Bl)) rfl harg hX hA hE1]; exact ⟨rfl, (((((((hS.pick (A := rowA 5 1 A59 m59 c59 ((recB (bsX t v)).map bv)) (by repeat first | exact .here _ _ | assumption | apply Pick.there)).pick (A := rowA 5 1 A58 (enc t ++ enc (v + 1).toNat).length c58 ((enc t ++ enc (v + 1).toNat).map bv)) (by repeat first | exact .here _ _ | assumption | apply Pick.there)).pick (A := wrA g8 (enc t ++ enc (v + 1).toNat)) (by repeat first | exact .here _ _ | assumption | apply Pick.there)).pick (A := blkA g7 105 [.int .u64 (((bsX t v)).1 : Int), .int .u64 (((bsX t v)).2 : Int)]) (by repeat first | exact .here _ _ | assumption | apply Pick.there)).drop.drop.drop.drop).pick (A := dskA gd _) (by repeat first | exact .here _ _ | assumption | apply Pick.there)).pick (A := blkA g 107 _) (by repeat first | exact .here _ _ | assumption | apply Pick.there))⟩)
                      | (rw [bsR_6 (b := (⟨f0, 0, ea, r, false⟩ : Bl)) rfl harg hX hA hE1 hE2]; exact ⟨rfl, (((((((hS.pick (A := rowA 5 1 A59 m59 c59 ((recB (bsX t v)).map bv)) (by repeat first | exact .here _ _ | assumption | apply Pick.there)).pick (A := rowA 5 1 A58 (enc t ++ enc (v + 1).toNat).length c58 ((enc t ++ enc (v + 1).toNat).map bv)) (by repeat first | exact .here _ _ | assumption | apply Pick.there)).pick (A := wrA g8 (enc t ++ enc (v + 1).toNat)) (by repeat first | exact .here _ _ | assumption | apply Pick.there)).pick (A := blkA g7 105 [.int .u64 (((bsX t v)).1 : Int), .int .u64 (((bsX t v)).2 : Int)]) (by repeat first | exact .here _ _ | assumption | apply Pick.there)).drop.drop.drop.drop).pick (A := dskA gd _) (by repeat first | exact .here _ _ | assumption | apply Pick.there)).pick (A := blkA g 107 _) (by repeat first | exact .here _ _ | assumption | apply Pick.there))⟩)
                      | (rw [bsR_7 (b := (⟨f0, 0, ea, r, false⟩ : Bl)) rfl harg hX hA hE1 hE2 hE3]; exact ⟨rfl, (((((((hS.pick (A := rowA 5 1 A59 m59 c59 ((recB (bsX t v)).map bv)) (by repeat first | exact .here _ _ | assumption | apply Pick.there)).pick (A := rowA 5 1 A58 (enc t ++ enc (v + 1).toNat).length c58 ((enc t ++ enc (v + 1).toNat).map bv)) (by repeat first | exact .here _ _ | assumption | apply Pick.there)).pick (A := wrA g8 (enc t ++ enc (v + 1).toNat)) (by repeat first | exact .here _ _ | assumption | apply Pick.there)).pick (A := blkA g7 105 [.int .u64 (((bsX t v)).1 : Int), .int .u64 (((bsX t v)).2 : Int)]) (by repeat first | exact .here _ _ | assumption | apply Pick.there)).drop.drop.drop.drop).pick (A := dskA gd _) (by repeat first | exact .here _ _ | assumption | apply Pick.there)).pick (A := blkA g 107 _) (by repeat first | exact .here _ _ | assumption | apply Pick.there))⟩)
                      | (rw [bsR_8 (b := (⟨f0, 0, ea, r, false⟩ : Bl)) rfl harg hX hA hE1 hE2 hE3]; exact ⟨rfl, (((((((hS.pick (A := rowA 5 1 A59 m59 c59 ((recB (bsX t v)).map bv)) (by repeat first | exact .here _ _ | assumption | apply Pick.there)).pick (A := rowA 5 1 A58 (enc t ++ enc (v + 1).toNat).length c58 ((enc t ++ enc (v + 1).toNat).map bv)) (by repeat first | exact .here _ _ | assumption | apply Pick.there)).pick (A := wrA g8 (enc t ++ enc (v + 1).toNat)) (by repeat first | exact .here _ _ | assumption | apply Pick.there)).pick (A := blkA g7 105 [.int .u64 (((bsX t v)).1 : Int), .int .u64 (((bsX t v)).2 : Int)]) (by repeat first | exact .here _ _ | assumption | apply Pick.there)).drop.drop.drop.drop).pick (A := dskA gd _) (by repeat first | exact .here _ _ | assumption | apply Pick.there)).pick (A := blkA g 107 _) (by repeat first | exact .here _ _ | assumption | apply Pick.there))⟩)
set_option maxHeartbeats 2000000 in
set_option maxRecDepth 100000 in
theorem bsave_1 {w : World} {R : List Asn} {g gd : Nat} {f0 ea : Int} {r : Rc} {br : Bool} {d : Dk} {t : Nat} {v : Int} (hS : St W w (blA g gd (⟨f0, 1, ea, r, br⟩ : Bl) :: dskA gd d :: R)) (ht : t < 18446744073709551616) (hv : -9223372036854775808 ≤ v ∧ v ≤ 9223372036854775807) (hr : recOk r) (hG : DGood d) (hc : d.calls ≤ 999999000) (hf : 0 ≤ f0 ∧ f0 ≤ 30) :
  Calls Try.prog 49 #[.pointer (some ⟨g, 0, none⟩), .int .u64 (t : Int), .int .i64 v] w fun e w' => e = .returned (.int .i64 (bsR d (⟨f0, 1, ea, r, br⟩ : Bl) t v).1) ∧ St W w' (blA g gd (bsR d (⟨f0, 1, ea, r, br⟩ : Bl) t v).2.1 :: dskA gd (bsR d (⟨f0, 1, ea, r, br⟩ : Bl) t v).2.2 :: R) := by
  replace hS : St W w (blkA g 107 [.pointer (some ⟨gd, 0, none⟩), .int .i64 f0, .int .i64 (f0 + 1), .int .i64 1, .int .i64 ea, .int .u64 ((r).1 : Int), .int .u64 ((r).2 : Int), .bool br] :: dskA gd d :: R) := hS
  refine calls_of_wpE (args := [_, _, _]) Try.func49 rfl rfl rfl ?_
  refine c_seq ?_
  refine c_region ?_
  refine t_q (q_assign) ?_
  refine t_nil ?_
  refine c_seq ?_
  refine c_block ?_
  refine c_seq ?_
  refine c_region ?_
  refine t_q (q_mv (.pointer _) rfl) ?_
  refine t_call Try.call98 (bnone_calls hS (by repeat first | exact .here _ _ | assumption | apply Pick.there)) rfl ?_
  rintro e w ⟨rfl, hS⟩
  refine ⟨_, rfl, ?_⟩
  refine t_q (q_as (.bool _) rfl) ?_
  refine t_nil ?_
  refine c_cond_f rfl rfl ?_
  refine c_seq ?_
  refine c_region ?_
  refine t_q (q_mv (.pointer _) rfl) ?_
  refine t_q (q_nilCheck rfl) ?_
  refine t_q (q_fieldAddr 7 Try.runUnderlying107 rfl Try.sizeOf4 (by decide) rfl rfl) ?_
  refine t_q (q_load1 Try.isAgg4 rfl (hS.cell (by repeat first | exact .here _ _ | assumption | apply Pick.there) rfl)) ?_
  refine t_q (q_as (.bool _) rfl) ?_
  refine t_nil ?_
  refine c_cond rfl ?_ ?_
  · intro hc3
    obtain rfl : br = true := hc3
    refine c_seq ?_
    refine c_region ?_
    refine t_q (q_assign) ?_
    refine t_nil ?_
    refine c_ret ?_
    refine r_one rfl rfl ?_
    first
      | (rw [bsR_1 (b := ⟨f0, 1, ea, r, true⟩) rfl]; exact ⟨rfl, (((hS).pick (A := dskA gd _) (by repeat first | exact .here _ _ | assumption | apply Pick.there)).pick (A := blkA g 107 _) (by repeat first | exact .here _ _ | assumption | apply Pick.there))⟩)
      | (rw [bsR_2 (b := (⟨f0, 1, ea, r, false⟩ : Bl)) rfl harg]; exact ⟨rfl, (((hS).pick (A := dskA gd _) (by repeat first | exact .here _ _ | assumption | apply Pick.there)).pick (A := blkA g 107 _) (by repeat first | exact .here _ _ | assumption | apply Pick.there))⟩)
      | (rw [bsR_3 (b := (⟨f0, 1, ea, r, false⟩ : Bl)) rfl harg hX]; exact ⟨rfl, ((((hS.pick (A := blkA g7 105 [.int .u64 (((bsX t v)).1 : Int), .int .u64 (((bsX t v)).2 : Int)]) (by repeat first | exact .here _ _ | assumption | apply Pick.there)).drop).pick (A := dskA gd _) (by repeat first | exact .here _ _ | assumption | apply Pick.there)).pick (A := blkA g 107 _) (by repeat first | exact .here _ _ | assumption | apply Pick.there))⟩)
      | (rw [bsR_4 (b := (⟨f0, 1, ea, r, false⟩ : Bl)) rfl harg hX hA]; exact ⟨rfl, ((((hS.pick (A := blkA g7 105 [.int .u64 (((bsX t v)).1 : Int), .int .u64 (((bsX t v)).2 : Int)]) (by repeat first | exact .here _ _ | assumption | apply Pick.there)).drop).pick (A := dskA gd _) (by repeat first | exact .here _ _ | assumption | apply Pick.there)).pick (A := blkA g 107 _) (by repeat first | exact .here _ _ | assumption | apply Pick.there))⟩)
      | (rw [bsR_5 (b := (⟨f0, 1, ea, r, false⟩ : Bl)) rfl harg hX hA hE1]; exact ⟨rfl, (((((((hS.pick (A := rowA 5 1 A59 m59 c59 ((recB (bsX t v)).map bv)) (by repeat first | exact .here _ _ | assumption | apply Pick.there)).pick (A := rowA 5 1 A58 (enc t ++ enc (v + 1).toNat).length c58 ((enc t ++ enc (v + 1).toNat).map bv)) (by repeat first | exact .here _ _ | assumption | apply Pick.there)).pick (A := wrA g8 (enc t ++ enc (v + 1).toNat)) (by repeat first | exact .here _ _ | assumption | apply Pick.there)).pick (A := blkA g7 105 [.int .u64 (((bsX t v)).1 : Int), .int .u64 (((bsX t v)).2 : Int)]) (by repeat first | exact .here _ _ | assumption | apply Pick.there)).drop.drop.drop.drop).pick (A := dskA gd _) (by repeat first | exact .here _ _ | assumption | apply Pick.there)).pick (A := blkA g 107 _) (by repeat first | exact .here _ _ | assumption | apply Pick.there))⟩)
      | (rw [bsR_6 (b := (⟨f0, 1, ea, r, false⟩ : Bl)) rfl harg hX hA hE1 hE2]; exact ⟨rfl, (((((((hS.pick (A := rowA 5 1 A59 m59 c59 ((recB (bsX t v)).map bv)) (by repeat first | exact .here _ _ | assumption | apply Pick.there)).pick (A := rowA 5 1 A58 (enc t ++ enc (v + 1).toNat).length c58 ((enc t ++ enc (v + 1).toNat).map bv)) (by repeat first | exact .here _ _ | assumption | apply Pick.there)).pick (A := wrA g8 (enc t ++ enc (v + 1).toNat)) (by repeat first | exact .here _ _ | assumption | apply Pick.there)).pick (A := blkA g7 105 [.int .u64 (((bsX t v)).1 : Int), .int .u64 (((bsX t v)).2 : Int)]) (by repeat first | exact .here _ _ | assumption | apply Pick.there)).drop.drop.drop.drop).pick (A := dskA gd _) (by repeat first | exact .here _ _ | assumption | apply Pick.there)).pick (A := blkA g 107 _) (by repeat first | exact .here _ _ | assumption | apply Pick.there))⟩)
      | (rw [bsR_7 (b := (⟨f0, 1, ea, r, false⟩ : Bl)) rfl harg hX hA hE1 hE2 hE3]; exact ⟨rfl, (((((((hS.pick (A := rowA 5 1 A59 m59 c59 ((recB (bsX t v)).map bv)) (by repeat first | exact .here _ _ | assumption | apply Pick.there)).pick (A := rowA 5 1 A58 (enc t ++ enc (v + 1).toNat).length c58 ((enc t ++ enc (v + 1).toNat).map bv)) (by repeat first | exact .here _ _ | assumption | apply Pick.there)).pick (A := wrA g8 (enc t ++ enc (v + 1).toNat)) (by repeat first | exact .here _ _ | assumption | apply Pick.there)).pick (A := blkA g7 105 [.int .u64 (((bsX t v)).1 : Int), .int .u64 (((bsX t v)).2 : Int)]) (by repeat first | exact .here _ _ | assumption | apply Pick.there)).drop.drop.drop.drop).pick (A := dskA gd _) (by repeat first | exact .here _ _ | assumption | apply Pick.there)).pick (A := blkA g 107 _) (by repeat first | exact .here _ _ | assumption | apply Pick.there))⟩)
      | (rw [bsR_8 (b := (⟨f0, 1, ea, r, false⟩ : Bl)) rfl harg hX hA hE1 hE2 hE3]; exact ⟨rfl, (((((((hS.pick (A := rowA 5 1 A59 m59 c59 ((recB (bsX t v)).map bv)) (by repeat first | exact .here _ _ | assumption | apply Pick.there)).pick (A := rowA 5 1 A58 (enc t ++ enc (v + 1).toNat).length c58 ((enc t ++ enc (v + 1).toNat).map bv)) (by repeat first | exact .here _ _ | assumption | apply Pick.there)).pick (A := wrA g8 (enc t ++ enc (v + 1).toNat)) (by repeat first | exact .here _ _ | assumption | apply Pick.there)).pick (A := blkA g7 105 [.int .u64 (((bsX t v)).1 : Int), .int .u64 (((bsX t v)).2 : Int)]) (by repeat first | exact .here _ _ | assumption | apply Pick.there)).drop.drop.drop.drop).pick (A := dskA gd _) (by repeat first | exact .here _ _ | assumption | apply Pick.there)).pick (A := blkA g 107 _) (by repeat first | exact .here _ _ | assumption | apply Pick.there))⟩)
  · intro hc3
    obtain rfl : br = false := hc3
    obtain ⟨hG1, hG2, hG3⟩ := bs_good (b := (⟨f0, 1, ea, r, false⟩ : Bl)) (ys := recB (bsX t v)) hG
    obtain ⟨hc1, hc2, hc3⟩ := bs_cal (d := d) (b := (⟨f0, 1, ea, r, false⟩ : Bl)) (ys := recB (bsX t v))
    replace hS : St W w (blkA g 107 [.pointer (some ⟨gd, 0, none⟩), .int .i64 f0, .int .i64 (f0 + 1), .int .i64 1, .int .i64 ea, .int .u64 ((r).1 : Int), .int .u64 ((r).2 : Int), .bool false] :: _) := hS
    refine c_seq ?_
    refine c_region ?_
    refine t_q (q_mv (.int _ _) rfl) ?_
    refine t_q (q_gtr rfl rfl) ?_
    refine t_q (q_mv (.bool _) rfl) ?_
    refine t_case 23 rfl ?_ ?_
    · intro hg5
      have hg5d := of_decide_eq_true hg5
      refine t_no rfl rfl (by rw [hg5]; decide) ?_
      refine t_no rfl rfl (by rw [hg5]; decide) ?_
      refine t_q (q_pick_t rfl hg5) ?_
      refine t_q (q_mv (.bool _) rfl) ?_
      refine t_no rfl rfl (by decide) ?_
      refine t_no rfl rfl (by decide) ?_
      refine t_q (q_pick_t rfl rfl) ?_
      refine t_q (q_as (.bool _) rfl) ?_
      refine t_nil ?_
      refine c_cond_t rfl rfl ?_
      have harg : bsArg t v := by unfold bsArg; omega
      refine c_seq ?_
      refine c_region ?_
      refine t_q (q_assign) ?_
      refine t_nil ?_
      refine c_ret ?_
      refine r_one rfl rfl ?_
      first
        | (rw [bsR_1 (b := ⟨f0, 1, ea, r, true⟩) rfl]; exact ⟨rfl, (((hS).pick (A := dskA gd _) (by repeat first | exact .here _ _ | assumption | apply Pick.there)).pick (A := blkA g 107 _) (by repeat first | exact .here _ _ | assumption | apply Pick.there))⟩)
        | (rw [bsR_2 (b := (⟨f0, 1, ea, r, false⟩ : Bl)) rfl harg]; exact ⟨rfl, (((hS).pick (A := dskA gd _) (by repeat first | exact .here _ _ | assumption | apply Pick.there)).pick (A := blkA g 107 _) (by repeat first | exact .here _ _ | assumption | apply Pick.there))⟩)
        | (rw [bsR_3 (b := (⟨f0, 1, ea, r, false⟩ : Bl)) rfl harg hX]; exact ⟨rfl, ((((hS.pick (A := blkA g7 105 [.int .u64 (((bsX t v)).1 : Int), .int .u64 (((bsX t v)).2 : Int)]) (by repeat first | exact .here _ _ | assumption | apply Pick.there)).drop).pick (A := dskA gd _) (by repeat first | exact .here _ _ | assumption | apply Pick.there)).pick (A := blkA g 107 _) (by repeat first | exact .here _ _ | assumption | apply Pick.there))⟩)
        | (rw [bsR_4 (b := (⟨f0, 1, ea, r, false⟩ : Bl)) rfl harg hX hA]; exact ⟨rfl, ((((hS.pick (A := blkA g7 105 [.int .u64 (((bsX t v)).1 : Int), .int .u64 (((bsX t v)).2 : Int)]) (by repeat first | exact .here _ _ | assumption | apply Pick.there)).drop).pick (A := dskA gd _) (by repeat first | exact .here _ _ | assumption | apply Pick.there)).pick (A := blkA g 107 _) (by repeat first | exact .here _ _ | assumption | apply Pick.there))⟩)
        | (rw [bsR_5 (b := (⟨f0, 1, ea, r, false⟩ : Bl)) rfl harg hX hA hE1]; exact ⟨rfl, (((((((hS.pick (A := rowA 5 1 A59 m59 c59 ((recB (bsX t v)).map bv)) (by repeat first | exact .here _ _ | assumption | apply Pick.there)).pick (A := rowA 5 1 A58 (enc t ++ enc (v + 1).toNat).length c58 ((enc t ++ enc (v + 1).toNat).map bv)) (by repeat first | exact .here _ _ | assumption | apply Pick.there)).pick (A := wrA g8 (enc t ++ enc (v + 1).toNat)) (by repeat first | exact .here _ _ | assumption | apply Pick.there)).pick (A := blkA g7 105 [.int .u64 (((bsX t v)).1 : Int), .int .u64 (((bsX t v)).2 : Int)]) (by repeat first | exact .here _ _ | assumption | apply Pick.there)).drop.drop.drop.drop).pick (A := dskA gd _) (by repeat first | exact .here _ _ | assumption | apply Pick.there)).pick (A := blkA g 107 _) (by repeat first | exact .here _ _ | assumption | apply Pick.there))⟩)
        | (rw [bsR_6 (b := (⟨f0, 1, ea, r, false⟩ : Bl)) rfl harg hX hA hE1 hE2]; exact ⟨rfl, (((((((hS.pick (A := rowA 5 1 A59 m59 c59 ((recB (bsX t v)).map bv)) (by repeat first | exact .here _ _ | assumption | apply Pick.there)).pick (A := rowA 5 1 A58 (enc t ++ enc (v + 1).toNat).length c58 ((enc t ++ enc (v + 1).toNat).map bv)) (by repeat first | exact .here _ _ | assumption | apply Pick.there)).pick (A := wrA g8 (enc t ++ enc (v + 1).toNat)) (by repeat first | exact .here _ _ | assumption | apply Pick.there)).pick (A := blkA g7 105 [.int .u64 (((bsX t v)).1 : Int), .int .u64 (((bsX t v)).2 : Int)]) (by repeat first | exact .here _ _ | assumption | apply Pick.there)).drop.drop.drop.drop).pick (A := dskA gd _) (by repeat first | exact .here _ _ | assumption | apply Pick.there)).pick (A := blkA g 107 _) (by repeat first | exact .here _ _ | assumption | apply Pick.there))⟩)
        | (rw [bsR_7 (b := (⟨f0, 1, ea, r, false⟩ : Bl)) rfl harg hX hA hE1 hE2 hE3]; exact ⟨rfl, (((((((hS.pick (A := rowA 5 1 A59 m59 c59 ((recB (bsX t v)).map bv)) (by repeat first | exact .here _ _ | assumption | apply Pick.there)).pick (A := rowA 5 1 A58 (enc t ++ enc (v + 1).toNat).length c58 ((enc t ++ enc (v + 1).toNat).map bv)) (by repeat first | exact .here _ _ | assumption | apply Pick.there)).pick (A := wrA g8 (enc t ++ enc (v + 1).toNat)) (by repeat first | exact .here _ _ | assumption | apply Pick.there)).pick (A := blkA g7 105 [.int .u64 (((bsX t v)).1 : Int), .int .u64 (((bsX t v)).2 : Int)]) (by repeat first | exact .here _ _ | assumption | apply Pick.there)).drop.drop.drop.drop).pick (A := dskA gd _) (by repeat first | exact .here _ _ | assumption | apply Pick.there)).pick (A := blkA g 107 _) (by repeat first | exact .here _ _ | assumption | apply Pick.there))⟩)
        | (rw [bsR_8 (b := (⟨f0, 1, ea, r, false⟩ : Bl)) rfl harg hX hA hE1 hE2 hE3]; exact ⟨rfl, (((((((hS.pick (A := rowA 5 1 A59 m59 c59 ((recB (bsX t v)).map bv)) (by repeat first | exact .here _ _ | assumption | apply Pick.there)).pick (A := rowA 5 1 A58 (enc t ++ enc (v + 1).toNat).length c58 ((enc t ++ enc (v + 1).toNat).map bv)) (by repeat first | exact .here _ _ | assumption | apply Pick.there)).pick (A := wrA g8 (enc t ++ enc (v + 1).toNat)) (by repeat first | exact .here _ _ | assumption | apply Pick.there)).pick (A := blkA g7 105 [.int .u64 (((bsX t v)).1 : Int), .int .u64 (((bsX t v)).2 : Int)]) (by repeat first | exact .here _ _ | assumption | apply Pick.there)).drop.drop.drop.drop).pick (A := dskA gd _) (by repeat first | exact .here _ _ | assumption | apply Pick.there)).pick (A := blkA g 107 _) (by repeat first | exact .here _ _ | assumption | apply Pick.there))⟩)
    · intro hg5
      have hg5d := of_decide_eq_false hg5
      refine t_yes rfl rfl hg5 ?_
      refine t_q (q_mv (.int _ _) rfl) ?_
      refine t_yes rfl rfl hg5 ?_
      refine t_q (q_lss rfl rfl) ?_
      refine t_q (q_pick_f rfl hg5) ?_
      refine t_q (q_mv (.bool _) rfl) ?_
      refine t_case 27 rfl ?_ ?_
      · intro hg7
        have hg7d := of_decide_eq_true hg7
        refine t_no rfl rfl (by rw [hg7]; decide) ?_
        refine t_no rfl rfl (by rw [hg7]; decide) ?_
        refine t_q (q_pick_t rfl hg7) ?_
        refine t_q (q_as (.bool _) rfl) ?_
        refine t_nil ?_
        refine c_cond_t rfl rfl ?_
        have harg : bsArg t v := by unfold bsArg; omega
        refine c_seq ?_
        refine c_region ?_
        refine t_q (q_assign) ?_
        refine t_nil ?_
        refine c_ret ?_
        refine r_one rfl rfl ?_
        first
          | (rw [bsR_1 (b := ⟨f0, 1, ea, r, true⟩) rfl]; exact ⟨rfl, (((hS).pick (A := dskA gd _) (by repeat first | exact .here _ _ | assumption | apply Pick.there)).pick (A := blkA g 107 _) (by repeat first | exact .here _ _ | assumption | apply Pick.there))⟩)
          | (rw [bsR_2 (b := (⟨f0, 1, ea, r, false⟩ : Bl)) rfl harg]; exact ⟨rfl, (((hS).pick (A := dskA gd _) (by repeat first | exact .here _ _ | assumption | apply Pick.there)).pick (A := blkA g 107 _) (by repeat first | exact .here _ _ | assumption | apply Pick.there))⟩)
          | (rw [bsR_3 (b := (⟨f0, 1, ea, r, false⟩ : Bl)) rfl harg hX]; exact ⟨rfl, ((((hS.pick (A := blkA g7 105 [.int .u64 (((bsX t v)).1 : Int), .int .u64 (((bsX t v)).2 : Int)]) (by repeat first | exact .here _ _ | assumption | apply Pick.there)).drop).pick (A := dskA gd _) (by repeat first | exact .here _ _ | assumption | apply Pick.there)).pick (A := blkA g 107 _) (by repeat first | exact .here _ _ | assumption | apply Pick.there))⟩)
          | (rw [bsR_4 (b := (⟨f0, 1, ea, r, false⟩ : Bl)) rfl harg hX hA]; exact ⟨rfl, ((((hS.pick (A := blkA g7 105 [.int .u64 (((bsX t v)).1 : Int), .int .u64 (((bsX t v)).2 : Int)]) (by repeat first | exact .here _ _ | assumption | apply Pick.there)).drop).pick (A := dskA gd _) (by repeat first | exact .here _ _ | assumption | apply Pick.there)).pick (A := blkA g 107 _) (by repeat first | exact .here _ _ | assumption | apply Pick.there))⟩)
          | (rw [bsR_5 (b := (⟨f0, 1, ea, r, false⟩ : Bl)) rfl harg hX hA hE1]; exact ⟨rfl, (((((((hS.pick (A := rowA 5 1 A59 m59 c59 ((recB (bsX t v)).map bv)) (by repeat first | exact .here _ _ | assumption | apply Pick.there)).pick (A := rowA 5 1 A58 (enc t ++ enc (v + 1).toNat).length c58 ((enc t ++ enc (v + 1).toNat).map bv)) (by repeat first | exact .here _ _ | assumption | apply Pick.there)).pick (A := wrA g8 (enc t ++ enc (v + 1).toNat)) (by repeat first | exact .here _ _ | assumption | apply Pick.there)).pick (A := blkA g7 105 [.int .u64 (((bsX t v)).1 : Int), .int .u64 (((bsX t v)).2 : Int)]) (by repeat first | exact .here _ _ | assumption | apply Pick.there)).drop.drop.drop.drop).pick (A := dskA gd _) (by repeat first | exact .here _ _ | assumption | apply Pick.there)).pick (A := blkA g 107 _) (by repeat first | exact .here _ _ | assumption | apply Pick.there))⟩)
          | (rw [bsR_6 (b := (⟨f0, 1, ea, r, false⟩ : Bl)) rfl harg hX hA hE1 hE2]; exact ⟨rfl, (((((((hS.pick (A := rowA 5 1 A59 m59 c59 ((recB (bsX t v)).map bv)) (by repeat first | exact .here _ _ | assumption | apply Pick.there)).pick (A := rowA 5 1 A58 (enc t ++ enc (v + 1).toNat).length c58 ((enc t ++ enc (v + 1).toNat).map bv)) (by repeat first | exact .here _ _ | assumption | apply Pick.there)).pick (A := wrA g8 (enc t ++ enc (v + 1).toNat)) (by repeat first | exact .here _ _ | assumption | apply Pick.there)).pick (A := blkA g7 105 [.int .u64 (((bsX t v)).1 : Int), .int .u64 (((bsX t v)).2 : Int)]) (by repeat first | exact .here _ _ | assumption | apply Pick.there)).drop.drop.drop.drop).pick (A := dskA gd _) (by repeat first | exact .here _ _ | assumption | apply Pick.there)).pick (A := blkA g 107 _) (by repeat first | exact .here _ _ | assumption | apply Pick.there))⟩)
          | (rw [bsR_7 (b := (⟨f0, 1, ea, r, false⟩ : Bl)) rfl harg hX hA hE1 hE2 hE3]; exact ⟨rfl, (((((((hS.pick (A := rowA 5 1 A59 m59 c59 ((recB (bsX t v)).map bv)) (by repeat first | exact .here _ _ | assumption | apply Pick.there)).pick (A := rowA 5 1 A58 (enc t ++ enc (v + 1).toNat).length c58 ((enc t ++ enc (v + 1).toNat).map bv)) (by repeat first | exact .here _ _ | assumption | apply Pick.there)).pick (A := wrA g8 (enc t ++ enc (v + 1).toNat)) (by repeat first | exact .here _ _ | assumption | apply Pick.there)).pick (A := blkA g7 105 [.int .u64 (((bsX t v)).1 : Int), .int .u64 (((bsX t v)).2 : Int)]) (by repeat first | exact .here _ _ | assumption | apply Pick.there)).drop.drop.drop.drop).pick (A := dskA gd _) (by repeat first | exact .here _ _ | assumption | apply Pick.there)).pick (A := blkA g 107 _) (by repeat first | exact .here _ _ | assumption | apply Pick.there))⟩)
          | (rw [bsR_8 (b := (⟨f0, 1, ea, r, false⟩ : Bl)) rfl harg hX hA hE1 hE2 hE3]; exact ⟨rfl, (((((((hS.pick (A := rowA 5 1 A59 m59 c59 ((recB (bsX t v)).map bv)) (by repeat first | exact .here _ _ | assumption | apply Pick.there)).pick (A := rowA 5 1 A58 (enc t ++ enc (v + 1).toNat).length c58 ((enc t ++ enc (v + 1).toNat).map bv)) (by repeat first | exact .here _ _ | assumption | apply Pick.there)).pick (A := wrA g8 (enc t ++ enc (v + 1).toNat)) (by repeat first | exact .here _ _ | assumption | apply Pick.there)).pick (A := blkA g7 105 [.int .u64 (((bsX t v)).1 : Int), .int .u64 (((bsX t v)).2 : Int)]) (by repeat first | exact .here _ _ | assumption | apply Pick.there)).drop.drop.drop.drop).pick (A := dskA gd _) (by repeat first | exact .here _ _ | assumption | apply Pick.there)).pick (A := blkA g 107 _) (by repeat first | exact .here _ _ | assumption | apply Pick.there))⟩)
      · intro hg7
        have hg7d := of_decide_eq_false hg7
        refine t_yes rfl rfl hg7 ?_
        refine t_q (q_mv (.int _ _) rfl) ?_
        refine t_yes rfl rfl hg7 ?_
        refine t_q (q_geq rfl rfl) ?_
        refine t_q (q_pick_f rfl hg7) ?_
        refine t_q (q_as (.bool _) rfl) ?_
        refine t_nil ?_
        refine c_cond rfl ?_ ?_
        · intro hc9
          have hc9d := of_decide_eq_true hc9
          have harg : bsArg t v := by unfold bsArg; omega
          refine c_seq ?_
          refine c_region ?_
          refine t_q (q_assign) ?_
          refine t_nil ?_
          refine c_ret ?_
          refine r_one rfl rfl ?_
          first
            | (rw [bsR_1 (b := ⟨f0, 1, ea, r, true⟩) rfl]; exact ⟨rfl, (((hS).pick (A := dskA gd _) (by repeat first | exact .here _ _ | assumption | apply Pick.there)).pick (A := blkA g 107 _) (by repeat first | exact .here _ _ | assumption | apply Pick.there))⟩)
            | (rw [bsR_2 (b := (⟨f0, 1, ea, r, false⟩ : Bl)) rfl harg]; exact ⟨rfl, (((hS).pick (A := dskA gd _) (by repeat first | exact .here _ _ | assumption | apply Pick.there)).pick (A := blkA g 107 _) (by repeat first | exact .here _ _ | assumption | apply Pick.there))⟩)
            | (rw [bsR_3 (b := (⟨f0, 1, ea, r, false⟩ : Bl)) rfl harg hX]; exact ⟨rfl, ((((hS.pick (A := blkA g7 105 [.int .u64 (((bsX t v)).1 : Int), .int .u64 (((bsX t v)).2 : Int)]) (by repeat first | exact .here _ _ | assumption | apply Pick.there)).drop).pick (A := dskA gd _) (by repeat first | exact .here _ _ | assumption | apply Pick.there)).pick (A := blkA g 107 _) (by repeat first | exact .here _ _ | assumption | apply Pick.there))⟩)
            | (rw [bsR_4 (b := (⟨f0, 1, ea, r, false⟩ : Bl)) rfl harg hX hA]; exact ⟨rfl, ((((hS.pick (A := blkA g7 105 [.int .u64 (((bsX t v)).1 : Int), .int .u64 (((bsX t v)).2 : Int)]) (by repeat first | exact .here _ _ | assumption | apply Pick.there)).drop).pick (A := dskA gd _) (by repeat first | exact .here _ _ | assumption | apply Pick.there)).pick (A := blkA g 107 _) (by repeat first | exact .here _ _ | assumption | apply Pick.there))⟩)
            | (rw [bsR_5 (b := (⟨f0, 1, ea, r, false⟩ : Bl)) rfl harg hX hA hE1]; exact ⟨rfl, (((((((hS.pick (A := rowA 5 1 A59 m59 c59 ((recB (bsX t v)).map bv)) (by repeat first | exact .here _ _ | assumption | apply Pick.there)).pick (A := rowA 5 1 A58 (enc t ++ enc (v + 1).toNat).length c58 ((enc t ++ enc (v + 1).toNat).map bv)) (by repeat first | exact .here _ _ | assumption | apply Pick.there)).pick (A := wrA g8 (enc t ++ enc (v + 1).toNat)) (by repeat first | exact .here _ _ | assumption | apply Pick.there)).pick (A := blkA g7 105 [.int .u64 (((bsX t v)).1 : Int), .int .u64 (((bsX t v)).2 : Int)]) (by repeat first | exact .here _ _ | assumption | apply Pick.there)).drop.drop.drop.drop).pick (A := dskA gd _) (by repeat first | exact .here _ _ | assumption | apply Pick.there)).pick (A := blkA g 107 _) (by repeat first | exact .here _ _ | assumption | apply Pick.there))⟩)
            | (rw [bsR_6 (b := (⟨f0, 1, ea, r, false⟩ : Bl)) rfl harg hX hA hE1 hE2]; exact ⟨rfl, (((((((hS.pick (A := rowA 5 1 A59 m59 c59 ((recB (bsX t v)).map bv)) (by repeat first | exact .here _ _ | assumption | apply Pick.there)).pick (A := rowA 5 1 A58 (enc t ++ enc (v + 1).toNat).length c58 ((enc t ++ enc (v + 1).toNat).map bv)) (by repeat first | exact .here _ _ | assumption | apply Pick.there)).pick (A := wrA g8 (enc t ++ enc (v + 1).toNat)) (by repeat first | exact .here _ _ | assumption | apply Pick.there)).pick (A := blkA g7 105 [.int .u64 (((bsX t v)).1 : Int), .int .u64 (((bsX t v)).2 : Int)]) (by repeat first | exact .here _ _ | assumption | apply Pick.there)).drop.drop.drop.drop).pick (A := dskA gd _) (by repeat first | exact .here _ _ | assumption | apply Pick.there)).pick (A := blkA g 107 _) (by repeat first | exact .here _ _ | assumption | apply Pick.there))⟩)
            | (rw [bsR_7 (b := (⟨f0, 1, ea, r, false⟩ : Bl)) rfl harg hX hA hE1 hE2 hE3]; exact ⟨rfl, (((((((hS.pick (A := rowA 5 1 A59 m59 c59 ((recB (bsX t v)).map bv)) (by repeat first | exact .here _ _ | assumption | apply Pick.there)).pick (A := rowA 5 1 A58 (enc t ++ enc (v + 1).toNat).length c58 ((enc t ++ enc (v + 1).toNat).map bv)) (by repeat first | exact .here _ _ | assumption | apply Pick.there)).pick (A := wrA g8 (enc t ++ enc (v + 1).toNat)) (by repeat first | exact .here _ _ | assumption | apply Pick.there)).pick (A := blkA g7 105 [.int .u64 (((bsX t v)).1 : Int), .int .u64 (((bsX t v)).2 : Int)]) (by repeat first | exact .here _ _ | assumption | apply Pick.there)).drop.drop.drop.drop).pick (A := dskA gd _) (by repeat first | exact .here _ _ | assumption | apply Pick.there)).pick (A := blkA g 107 _) (by repeat first | exact .here _ _ | assumption | apply Pick.there))⟩)
            | (rw [bsR_8 (b := (⟨f0, 1, ea, r, false⟩ : Bl)) rfl harg hX hA hE1 hE2 hE3]; exact ⟨rfl, (((((((hS.pick (A := rowA 5 1 A59 m59 c59 ((recB (bsX t v)).map bv)) (by repeat first | exact .here _ _ | assumption | apply Pick.there)).pick (A := rowA 5 1 A58 (enc t ++ enc (v + 1).toNat).length c58 ((enc t ++ enc (v + 1).toNat).map bv)) (by repeat first | exact .here _ _ | assumption | apply Pick.there)).pick (A := wrA g8 (enc t ++ enc (v + 1).toNat)) (by repeat first | exact .here _ _ | assumption | apply Pick.there)).pick (A := blkA g7 105 [.int .u64 (((bsX t v)).1 : Int), .int .u64 (((bsX t v)).2 : Int)]) (by repeat first | exact .here _ _ | assumption | apply Pick.there)).drop.drop.drop.drop).pick (A := dskA gd _) (by repeat first | exact .here _ _ | assumption | apply Pick.there)).pick (A := blkA g 107 _) (by repeat first | exact .here _ _ | assumption | apply Pick.there))⟩)
        · intro hc9
          have hc9d := of_decide_eq_false hc9
          have harg : ¬ bsArg t v := by unfold bsArg; omega
          have harg2 : t ≤ 4611686018427387904 ∧ -1 ≤ v ∧ v ≤ 6 := by unfold bsArg at harg; omega
          refine c_skip ?_
          refine c_seq ?_
          refine c_region ?_
          refine t_q (q_mv (.int _ _) rfl) ?_
          refine t_q (q_mv (.int _ _) rfl) ?_
          refine t_q (q_add_i64 rfl rfl (by omega)) ?_
          refine t_q (q_cast (v' := .int .u64 ((v + 1).toNat : Int)) (q_conv_u64 Try.runUnderlying3 Try.runUnderlying43 rfl (by omega)) (by congr 1; omega)) ?_
          refine t_q (q_build (qs := [(0, 1), (1, 1)]) [(.int _ _), (.int _ _)] Try.zeroValue105 Try.runUnderlying105 ⟨rfl, Try.sizeOf43, rfl, Try.sizeOf43, trivial⟩ rfl rfl) ?_
          refine t_alloc Try.zeroValue105 rfl hS (fun g7 w hS => ?_)
          refine t_store (v := (.agg _)) Try.sizeOf105 hS (by repeat first | exact .here _ _ | assumption | apply Pick.there) rfl rfl rfl rfl rfl rfl (fun w hS => ?_)
          replace hS := hS.recast (show blkA g7 105 _ = blkA g7 105 [.int .u64 (((bsX t v)).1 : Int), .int .u64 (((bsX t v)).2 : Int)] from rfl)
          refine t_nil ?_
          refine c_seq ?_
          refine c_block ?_
          refine c_seq ?_
          refine c_draw ?_
          refine d_quiet 7 [0, 1, 2, 3, 4, 5, 6] [0, 1, 2, 3, 4, 5, 6] hS rfl (by kernel_rfl) (by kernel_rfl) (by kernel_rfl) (by kernel_rfl) (fun hap hsel w hS => ?_)
          refine p_q hap hsel 0 rfl rfl hS (fun w hS => q_load_blk Try.isAgg105 Try.sizeOf105 rfl (hS.blk (by repeat first | exact .here _ _ | assumption | apply Pick.there)) rfl) ?_
          refine p_q hap hsel 1 rfl rfl hS (fun w hS => q_mv (.pointer _) rfl) ?_
          refine p_q hap hsel 2 rfl rfl hS (fun w hS => q_nilCheck rfl) ?_
          refine p_q hap hsel 3 rfl rfl hS (fun w hS => q_fieldAddr 5 Try.runUnderlying107 rfl Try.sizeOf105 (by decide) rfl rfl) ?_
          refine p_q hap hsel 4 rfl rfl hS (fun w hS => (q_cast (v' := .agg #[.int .u64 ((r).1 : Int), .int .u64 ((r).2 : Int)]) (q_load_sub Try.isAgg105 Try.sizeOf105 rfl (hS.blk (by repeat first | exact .here _ _ | assumption | apply Pick.there)) (by show 0 + 5 + 2 ≤ 8; decide)) (rfl))) ?_
          refine p_q hap hsel 5 rfl rfl hS (fun w hS => rc_eq105 (e := (bsX t v)) (q := r) rfl rfl (bsX_ok harg) hr) ?_
          refine p_q hap hsel 6 rfl rfl hS (fun w hS => q_as (.bool _) rfl) ?_
          refine p_end (by kernel_rfl) ?_
          refine c_cond rfl ?_ ?_
          · intro hc11
            have hX : (bsX t v) = r := of_decide_eq_true hc11
            refine c_seq ?_
            refine c_region ?_
            refine t_q (q_assign) ?_
            refine t_nil ?_
            refine c_ret ?_
            refine r_one rfl rfl ?_
            first
              | (rw [bsR_1 (b := ⟨f0, 1, ea, r, true⟩) rfl]; exact ⟨rfl, (((hS).pick (A := dskA gd _) (by repeat first | exact .here _ _ | assumption | apply Pick.there)).pick (A := blkA g 107 _) (by repeat first | exact .here _ _ | assumption | apply Pick.there))⟩)
              | (rw [bsR_2 (b := (⟨f0, 1, ea, r, false⟩ : Bl)) rfl harg]; exact ⟨rfl, (((hS).pick (A := dskA gd _) (by repeat first | exact .here _ _ | assumption | apply Pick.there)).pick (A := blkA g 107 _) (by repeat first | exact .here _ _ | assumption | apply Pick.there))⟩)
              | (rw [bsR_3 (b := (⟨f0, 1, ea, r, false⟩ : Bl)) rfl harg hX]; exact ⟨rfl, ((((hS.pick (A := blkA g7 105 [.int .u64 (((bsX t v)).1 : Int), .int .u64 (((bsX t v)).2 : Int)]) (by repeat first | exact .here _ _ | assumption | apply Pick.there)).drop).pick (A := dskA gd _) (by repeat first | exact .here _ _ | assumption | apply Pick.there)).pick (A := blkA g 107 _) (by repeat first | exact .here _ _ | assumption | apply Pick.there))⟩)
              | (rw [bsR_4 (b := (⟨f0, 1, ea, r, false⟩ : Bl)) rfl harg hX hA]; exact ⟨rfl, ((((hS.pick (A := blkA g7 105 [.int .u64 (((bsX t v)).1 : Int), .int .u64 (((bsX t v)).2 : Int)]) (by repeat first | exact .here _ _ | assumption | apply Pick.there)).drop).pick (A := dskA gd _) (by repeat first | exact .here _ _ | assumption | apply Pick.there)).pick (A := blkA g 107 _) (by repeat first | exact .here _ _ | assumption | apply Pick.there))⟩)
              | (rw [bsR_5 (b := (⟨f0, 1, ea, r, false⟩ : Bl)) rfl harg hX hA hE1]; exact ⟨rfl, (((((((hS.pick (A := rowA 5 1 A59 m59 c59 ((recB (bsX t v)).map bv)) (by repeat first | exact .here _ _ | assumption | apply Pick.there)).pick (A := rowA 5 1 A58 (enc t ++ enc (v + 1).toNat).length c58 ((enc t ++ enc (v + 1).toNat).map bv)) (by repeat first | exact .here _ _ | assumption | apply Pick.there)).pick (A := wrA g8 (enc t ++ enc (v + 1).toNat)) (by repeat first | exact .here _ _ | assumption | apply Pick.there)).pick (A := blkA g7 105 [.int .u64 (((bsX t v)).1 : Int), .int .u64 (((bsX t v)).2 : Int)]) (by repeat first | exact .here _ _ | assumption | apply Pick.there)).drop.drop.drop.drop).pick (A := dskA gd _) (by repeat first | exact .here _ _ | assumption | apply Pick.there)).pick (A := blkA g 107 _) (by repeat first | exact .here _ _ | assumption | apply Pick.there))⟩)
              | (rw [bsR_6 (b := (⟨f0, 1, ea, r, false⟩ : Bl)) rfl harg hX hA hE1 hE2]; exact ⟨rfl, (((((((hS.pick (A := rowA 5 1 A59 m59 c59 ((recB (bsX t v)).map bv)) (by repeat first | exact .here _ _ | assumption | apply Pick.there)).pick (A := rowA 5 1 A58 (enc t ++ enc (v + 1).toNat).length c58 ((enc t ++ enc (v + 1).toNat).map bv)) (by repeat first | exact .here _ _ | assumption | apply Pick.there)).pick (A := wrA g8 (enc t ++ enc (v + 1).toNat)) (by repeat first | exact .here _ _ | assumption | apply Pick.there)).pick (A := blkA g7 105 [.int .u64 (((bsX t v)).1 : Int), .int .u64 (((bsX t v)).2 : Int)]) (by repeat first | exact .here _ _ | assumption | apply Pick.there)).drop.drop.drop.drop).pick (A := dskA gd _) (by repeat first | exact .here _ _ | assumption | apply Pick.there)).pick (A := blkA g 107 _) (by repeat first | exact .here _ _ | assumption | apply Pick.there))⟩)
              | (rw [bsR_7 (b := (⟨f0, 1, ea, r, false⟩ : Bl)) rfl harg hX hA hE1 hE2 hE3]; exact ⟨rfl, (((((((hS.pick (A := rowA 5 1 A59 m59 c59 ((recB (bsX t v)).map bv)) (by repeat first | exact .here _ _ | assumption | apply Pick.there)).pick (A := rowA 5 1 A58 (enc t ++ enc (v + 1).toNat).length c58 ((enc t ++ enc (v + 1).toNat).map bv)) (by repeat first | exact .here _ _ | assumption | apply Pick.there)).pick (A := wrA g8 (enc t ++ enc (v + 1).toNat)) (by repeat first | exact .here _ _ | assumption | apply Pick.there)).pick (A := blkA g7 105 [.int .u64 (((bsX t v)).1 : Int), .int .u64 (((bsX t v)).2 : Int)]) (by repeat first | exact .here _ _ | assumption | apply Pick.there)).drop.drop.drop.drop).pick (A := dskA gd _) (by repeat first | exact .here _ _ | assumption | apply Pick.there)).pick (A := blkA g 107 _) (by repeat first | exact .here _ _ | assumption | apply Pick.there))⟩)
              | (rw [bsR_8 (b := (⟨f0, 1, ea, r, false⟩ : Bl)) rfl harg hX hA hE1 hE2 hE3]; exact ⟨rfl, (((((((hS.pick (A := rowA 5 1 A59 m59 c59 ((recB (bsX t v)).map bv)) (by repeat first | exact .here _ _ | assumption | apply Pick.there)).pick (A := rowA 5 1 A58 (enc t ++ enc (v + 1).toNat).length c58 ((enc t ++ enc (v + 1).toNat).map bv)) (by repeat first | exact .here _ _ | assumption | apply Pick.there)).pick (A := wrA g8 (enc t ++ enc (v + 1).toNat)) (by repeat first | exact .here _ _ | assumption | apply Pick.there)).pick (A := blkA g7 105 [.int .u64 (((bsX t v)).1 : Int), .int .u64 (((bsX t v)).2 : Int)]) (by repeat first | exact .here _ _ | assumption | apply Pick.there)).drop.drop.drop.drop).pick (A := dskA gd _) (by repeat first | exact .here _ _ | assumption | apply Pick.there)).pick (A := blkA g 107 _) (by repeat first | exact .here _ _ | assumption | apply Pick.there))⟩)
          · intro hc11
            have hX : ¬ (bsX t v) = r := of_decide_eq_false hc11
            refine c_seq ?_
            refine c_draw ?_
            refine d_keep2 (blkA g7 105 [.int .u64 (((bsX t v)).1 : Int), .int .u64 (((bsX t v)).2 : Int)]) (blkA g 107 [.pointer (some ⟨gd, 0, none⟩), .int .i64 f0, .int .i64 (f0 + 1), .int .i64 1, .int .i64 ea, .int .u64 ((r).1 : Int), .int .u64 ((r).2 : Int), .bool false]) 8 [0, 1, 2, 3, 4, 5, 6, 7] [0, 1, 2, 3, 4, 5, 6, 7] hS rfl (by kernel_rfl) (by kernel_rfl) (by kernel_rfl) (by kernel_rfl) (fun hap hsel w hS => ?_)
            refine p_q hap hsel 0 rfl rfl ⟨_, ((hS.pick (A := blkA g 107 [.pointer (some ⟨gd, 0, none⟩), .int .i64 f0, .int .i64 (f0 + 1), .int .i64 1, .int .i64 ea, .int .u64 ((r).1 : Int), .int .u64 ((r).2 : Int), .bool false]) (by repeat first | exact .here _ _ | assumption | apply Pick.there)).pick (A := blkA g7 105 [.int .u64 (((bsX t v)).1 : Int), .int .u64 (((bsX t v)).2 : Int)]) (by repeat first | exact .here _ _ | assumption | apply Pick.there))⟩ (fun w hI => q_load_blk Try.isAgg105 Try.sizeOf105 rfl (hI.choose_spec.blk (by repeat first | exact .here _ _ | assumption | apply Pick.there)) rfl) ?_
            refine p_q hap hsel 1 rfl rfl ⟨_, ((hS.pick (A := blkA g 107 [.pointer (some ⟨gd, 0, none⟩), .int .i64 f0, .int .i64 (f0 + 1), .int .i64 1, .int .i64 ea, .int .u64 ((r).1 : Int), .int .u64 ((r).2 : Int), .bool false]) (by repeat first | exact .here _ _ | assumption | apply Pick.there)).pick (A := blkA g7 105 [.int .u64 (((bsX t v)).1 : Int), .int .u64 (((bsX t v)).2 : Int)]) (by repeat first | exact .here _ _ | assumption | apply Pick.there))⟩ (fun w hI => q_mv (.pointer _) rfl) ?_
            refine p_q hap hsel 2 rfl rfl ⟨_, ((hS.pick (A := blkA g 107 [.pointer (some ⟨gd, 0, none⟩), .int .i64 f0, .int .i64 (f0 + 1), .int .i64 1, .int .i64 ea, .int .u64 ((r).1 : Int), .int .u64 ((r).2 : Int), .bool false]) (by repeat first | exact .here _ _ | assumption | apply Pick.there)).pick (A := blkA g7 105 [.int .u64 (((bsX t v)).1 : Int), .int .u64 (((bsX t v)).2 : Int)]) (by repeat first | exact .here _ _ | assumption | apply Pick.there))⟩ (fun w hI => q_nilCheck rfl) ?_
            refine p_q hap hsel 3 rfl rfl ⟨_, ((hS.pick (A := blkA g 107 [.pointer (some ⟨gd, 0, none⟩), .int .i64 f0, .int .i64 (f0 + 1), .int .i64 1, .int .i64 ea, .int .u64 ((r).1 : Int), .int .u64 ((r).2 : Int), .bool false]) (by repeat first | exact .here _ _ | assumption | apply Pick.there)).pick (A := blkA g7 105 [.int .u64 (((bsX t v)).1 : Int), .int .u64 (((bsX t v)).2 : Int)]) (by repeat first | exact .here _ _ | assumption | apply Pick.there))⟩ (fun w hI => q_fieldAddr 5 Try.runUnderlying107 rfl Try.sizeOf105 (by decide) rfl rfl) ?_
            refine p_q hap hsel 4 rfl rfl ⟨_, ((hS.pick (A := blkA g 107 [.pointer (some ⟨gd, 0, none⟩), .int .i64 f0, .int .i64 (f0 + 1), .int .i64 1, .int .i64 ea, .int .u64 ((r).1 : Int), .int .u64 ((r).2 : Int), .bool false]) (by repeat first | exact .here _ _ | assumption | apply Pick.there)).pick (A := blkA g7 105 [.int .u64 (((bsX t v)).1 : Int), .int .u64 (((bsX t v)).2 : Int)]) (by repeat first | exact .here _ _ | assumption | apply Pick.there))⟩ (fun w hI => (q_cast (v' := .agg #[.int .u64 ((r).1 : Int), .int .u64 ((r).2 : Int)]) (q_load_sub Try.isAgg105 Try.sizeOf105 rfl (hI.choose_spec.blk (by repeat first | exact .here _ _ | assumption | apply Pick.there)) (by show 0 + 5 + 2 ≤ 8; decide)) (rfl))) ?_
            refine p_one 5 rfl (by kernel_rfl) ?_
            refine t_call Try.call99 (babv_calls (r := (bsX t v)) (x := r)) rfl ?_
            rintro e w ⟨rfl, hT⟩
            refine ⟨_, rfl, ?_⟩
            replace hS := hS.after hT
            refine t_nil ?_
            refine ⟨.inr ⟨_, ((hS.pick (A := blkA g 107 [.pointer (some ⟨gd, 0, none⟩), .int .i64 f0, .int .i64 (f0 + 1), .int .i64 1, .int .i64 ea, .int .u64 ((r).1 : Int), .int .u64 ((r).2 : Int), .bool false]) (by repeat first | exact .here _ _ | assumption | apply Pick.there)).pick (A := blkA g7 105 [.int .u64 (((bsX t v)).1 : Int), .int .u64 (((bsX t v)).2 : Int)]) (by repeat first | exact .here _ _ | assumption | apply Pick.there))⟩, ?_⟩
            refine p_q hap hsel 6 rfl rfl ⟨_, ((hS.pick (A := blkA g 107 [.pointer (some ⟨gd, 0, none⟩), .int .i64 f0, .int .i64 (f0 + 1), .int .i64 1, .int .i64 ea, .int .u64 ((r).1 : Int), .int .u64 ((r).2 : Int), .bool false]) (by repeat first | exact .here _ _ | assumption | apply Pick.there)).pick (A := blkA g7 105 [.int .u64 (((bsX t v)).1 : Int), .int .u64 (((bsX t v)).2 : Int)]) (by repeat first | exact .here _ _ | assumption | apply Pick.there))⟩ (fun w hI => q_not rfl) ?_
            refine p_q hap hsel 7 rfl rfl ⟨_, ((hS.pick (A := blkA g 107 [.pointer (some ⟨gd, 0, none⟩), .int .i64 f0, .int .i64 (f0 + 1), .int .i64 1, .int .i64 ea, .int .u64 ((r).1 : Int), .int .u64 ((r).2 : Int), .bool false]) (by repeat first | exact .here _ _ | assumption | apply Pick.there)).pick (A := blkA g7 105 [.int .u64 (((bsX t v)).1 : Int), .int .u64 (((bsX t v)).2 : Int)]) (by repeat first | exact .here _ _ | assumption | apply Pick.there))⟩ (fun w hI => q_as (.bool _) rfl) ?_
            refine p_end (by kernel_rfl) ?_
            refine c_cond rfl ?_ ?_
            · intro hc13
              have hA : ¬ abv (bsX t v) r := of_decide_eq_false (not_back hc13)
              refine c_seq ?_
              refine c_region ?_
              refine t_q (q_assign) ?_
              refine t_nil ?_
              refine c_ret ?_
              refine r_one rfl rfl ?_
              first
                | (rw [bsR_1 (b := ⟨f0, 1, ea, r, true⟩) rfl]; exact ⟨rfl, (((hS).pick (A := dskA gd _) (by repeat first | exact .here _ _ | assumption | apply Pick.there)).pick (A := blkA g 107 _) (by repeat first | exact .here _ _ | assumption | apply Pick.there))⟩)
                | (rw [bsR_2 (b := (⟨f0, 1, ea, r, false⟩ : Bl)) rfl harg]; exact ⟨rfl, (((hS).pick (A := dskA gd _) (by repeat first | exact .here _ _ | assumption | apply Pick.there)).pick (A := blkA g 107 _) (by repeat first | exact .here _ _ | assumption | apply Pick.there))⟩)
                | (rw [bsR_3 (b := (⟨f0, 1, ea, r, false⟩ : Bl)) rfl harg hX]; exact ⟨rfl, ((((hS.pick (A := blkA g7 105 [.int .u64 (((bsX t v)).1 : Int), .int .u64 (((bsX t v)).2 : Int)]) (by repeat first | exact .here _ _ | assumption | apply Pick.there)).drop).pick (A := dskA gd _) (by repeat first | exact .here _ _ | assumption | apply Pick.there)).pick (A := blkA g 107 _) (by repeat first | exact .here _ _ | assumption | apply Pick.there))⟩)
                | (rw [bsR_4 (b := (⟨f0, 1, ea, r, false⟩ : Bl)) rfl harg hX hA]; exact ⟨rfl, ((((hS.pick (A := blkA g7 105 [.int .u64 (((bsX t v)).1 : Int), .int .u64 (((bsX t v)).2 : Int)]) (by repeat first | exact .here _ _ | assumption | apply Pick.there)).drop).pick (A := dskA gd _) (by repeat first | exact .here _ _ | assumption | apply Pick.there)).pick (A := blkA g 107 _) (by repeat first | exact .here _ _ | assumption | apply Pick.there))⟩)
                | (rw [bsR_5 (b := (⟨f0, 1, ea, r, false⟩ : Bl)) rfl harg hX hA hE1]; exact ⟨rfl, (((((((hS.pick (A := rowA 5 1 A59 m59 c59 ((recB (bsX t v)).map bv)) (by repeat first | exact .here _ _ | assumption | apply Pick.there)).pick (A := rowA 5 1 A58 (enc t ++ enc (v + 1).toNat).length c58 ((enc t ++ enc (v + 1).toNat).map bv)) (by repeat first | exact .here _ _ | assumption | apply Pick.there)).pick (A := wrA g8 (enc t ++ enc (v + 1).toNat)) (by repeat first | exact .here _ _ | assumption | apply Pick.there)).pick (A := blkA g7 105 [.int .u64 (((bsX t v)).1 : Int), .int .u64 (((bsX t v)).2 : Int)]) (by repeat first | exact .here _ _ | assumption | apply Pick.there)).drop.drop.drop.drop).pick (A := dskA gd _) (by repeat first | exact .here _ _ | assumption | apply Pick.there)).pick (A := blkA g 107 _) (by repeat first | exact .here _ _ | assumption | apply Pick.there))⟩)
                | (rw [bsR_6 (b := (⟨f0, 1, ea, r, false⟩ : Bl)) rfl harg hX hA hE1 hE2]; exact ⟨rfl, (((((((hS.pick (A := rowA 5 1 A59 m59 c59 ((recB (bsX t v)).map bv)) (by repeat first | exact .here _ _ | assumption | apply Pick.there)).pick (A := rowA 5 1 A58 (enc t ++ enc (v + 1).toNat).length c58 ((enc t ++ enc (v + 1).toNat).map bv)) (by repeat first | exact .here _ _ | assumption | apply Pick.there)).pick (A := wrA g8 (enc t ++ enc (v + 1).toNat)) (by repeat first | exact .here _ _ | assumption | apply Pick.there)).pick (A := blkA g7 105 [.int .u64 (((bsX t v)).1 : Int), .int .u64 (((bsX t v)).2 : Int)]) (by repeat first | exact .here _ _ | assumption | apply Pick.there)).drop.drop.drop.drop).pick (A := dskA gd _) (by repeat first | exact .here _ _ | assumption | apply Pick.there)).pick (A := blkA g 107 _) (by repeat first | exact .here _ _ | assumption | apply Pick.there))⟩)
                | (rw [bsR_7 (b := (⟨f0, 1, ea, r, false⟩ : Bl)) rfl harg hX hA hE1 hE2 hE3]; exact ⟨rfl, (((((((hS.pick (A := rowA 5 1 A59 m59 c59 ((recB (bsX t v)).map bv)) (by repeat first | exact .here _ _ | assumption | apply Pick.there)).pick (A := rowA 5 1 A58 (enc t ++ enc (v + 1).toNat).length c58 ((enc t ++ enc (v + 1).toNat).map bv)) (by repeat first | exact .here _ _ | assumption | apply Pick.there)).pick (A := wrA g8 (enc t ++ enc (v + 1).toNat)) (by repeat first | exact .here _ _ | assumption | apply Pick.there)).pick (A := blkA g7 105 [.int .u64 (((bsX t v)).1 : Int), .int .u64 (((bsX t v)).2 : Int)]) (by repeat first | exact .here _ _ | assumption | apply Pick.there)).drop.drop.drop.drop).pick (A := dskA gd _) (by repeat first | exact .here _ _ | assumption | apply Pick.there)).pick (A := blkA g 107 _) (by repeat first | exact .here _ _ | assumption | apply Pick.there))⟩)
                | (rw [bsR_8 (b := (⟨f0, 1, ea, r, false⟩ : Bl)) rfl harg hX hA hE1 hE2 hE3]; exact ⟨rfl, (((((((hS.pick (A := rowA 5 1 A59 m59 c59 ((recB (bsX t v)).map bv)) (by repeat first | exact .here _ _ | assumption | apply Pick.there)).pick (A := rowA 5 1 A58 (enc t ++ enc (v + 1).toNat).length c58 ((enc t ++ enc (v + 1).toNat).map bv)) (by repeat first | exact .here _ _ | assumption | apply Pick.there)).pick (A := wrA g8 (enc t ++ enc (v + 1).toNat)) (by repeat first | exact .here _ _ | assumption | apply Pick.there)).pick (A := blkA g7 105 [.int .u64 (((bsX t v)).1 : Int), .int .u64 (((bsX t v)).2 : Int)]) (by repeat first | exact .here _ _ | assumption | apply Pick.there)).drop.drop.drop.drop).pick (A := dskA gd _) (by repeat first | exact .here _ _ | assumption | apply Pick.there)).pick (A := blkA g 107 _) (by repeat first | exact .here _ _ | assumption | apply Pick.there))⟩)
            · intro hc13
              have hA : abv (bsX t v) r := of_decide_eq_true (not_back hc13)
              refine c_skip ?_
              refine c_seq ?_
              refine c_region ?_
              refine t_alloc Try.zeroValue135 rfl hS (fun g8 w hS => ?_)
              replace hS := hS.wr0
              refine t_nil ?_
              refine c_seq ?_
              refine c_region ?_
              refine t_q (q_fieldAddr 0 Try.runUnderlying105 rfl Try.sizeOf43 (by decide) rfl rfl) ?_
              refine t_q (q_load1 Try.isAgg43 rfl (hS.cell (by repeat first | exact .here _ _ | assumption | apply Pick.there) rfl)) ?_
              refine t_q (q_fieldAddr 1 Try.runUnderlying105 rfl Try.sizeOf43 (by decide) rfl rfl) ?_
              refine t_q (q_load1 Try.isAgg43 rfl (hS.cell (by repeat first | exact .here _ _ | assumption | apply Pick.there) rfl)) ?_
              refine t_build_ints [_, _] Try.runUnderlying194 Try.sizeOf43 Try.zeroValue43 rfl rfl (by decide) hS (fun g55 w hS => ?_)
              refine t_call Try.call78 (Nat_calls (ns := [(t : Int), (((v + 1).toNat : Nat) : Int)]) hS (by repeat first | exact .here _ _ | assumption | apply Pick.there) (fun _ h => h.rowInts (.here _ _) rfl) (by intro m hm; simp only [List.mem_cons, List.not_mem_nil, or_false] at hm; omega) (by simp) (by simp)) rfl ?_
              rintro e w ⟨rfl, hS⟩
              refine ⟨_, rfl, ?_⟩
              replace hS := hS.swap.recast (congrArg (wrA g8) (show _ = (enc t ++ enc (v + 1).toNat) from by unfold encs; simp; congr 1; omega))
              have hbl : (enc t ++ enc (v + 1).toNat).length ≤ 20 := rec_body (r := (bsX t v)) (bsX_ok harg)
              refine t_nil ?_
              refine c_seq ?_
              refine c_region ?_
              refine t_call Try.call72 (Bytes_calls hS (by repeat first | exact .here _ _ | assumption | apply Pick.there) (by omega)) rfl ?_
              rintro e w ⟨A58, c58, rfl, hc58, hS⟩
              refine ⟨_, rfl, ?_⟩
              refine t_call Try.call20 (wrap_calls (kk := 4) (hS.rowRd (bs := (enc t ++ enc (v + 1).toNat)) (.here _ _) rfl) (by omega)) rfl ?_
              rintro e w ⟨A59, m59, c59, rfl, hm59, hT⟩
              refine ⟨_, rfl, ?_⟩
              have hS : St W w (_ :: _) := hS.lift hT
              obtain ⟨e4, l4⟩ := wrapE_ok (k := 4) (body := (enc t ++ enc (v + 1).toNat)) (by decide) (by omega)
              rw [l4] at hm59 hS
              rw [e4]
              replace hm59 : m59 = (recB (bsX t v)).length := hm59
              replace hS : St W w (rowA 5 1 A59 m59 c59 ((recB (bsX t v)).map bv) :: _) := hS
              have hrl := (rec_len (bsX_ok harg)).2
              refine t_q (q_mv (.tuple _) rfl) ?_
              refine t_q (q_extract rfl rfl) ?_
              refine t_q (q_extract rfl rfl) ?_
              refine t_q (q_as (.slice _ _ _) rfl) ?_
              refine t_q (q_as (.int _ _) rfl) ?_
              refine t_nil ?_
              refine c_seq ?_
              refine c_seq ?_
              refine c_draw ?_
              refine d_keep (blkA g 107 [.pointer (some ⟨gd, 0, none⟩), .int .i64 f0, .int .i64 (f0 + 1), .int .i64 1, .int .i64 ea, .int .u64 ((r).1 : Int), .int .u64 ((r).2 : Int), .bool false]) 19 [0, 1, 2, 3, 4, 5, 6, 7, 8, 9, 10, 11, 12, 13, 14, 15, 16, 17, 18] [0, 1, 2, 3, 4, 5, 6, 7, 8, 9, 10, 11, 12, 13, 14, 15, 16, 17, 18] hS rfl (by kernel_rfl) (by kernel_rfl) (by kernel_rfl) (by kernel_rfl) (fun hap hsel w hS => ?_)
              refine p_q hap hsel 0 rfl rfl ⟨_, hS.pick (by repeat first | exact .here _ _ | assumption | apply Pick.there)⟩ (fun w hI => q_mv (.pointer _) rfl) ?_
              refine p_q hap hsel 1 rfl rfl ⟨_, hS.pick (by repeat first | exact .here _ _ | assumption | apply Pick.there)⟩ (fun w hI => q_nilCheck rfl) ?_
              refine p_q hap hsel 2 rfl rfl ⟨_, hS.pick (by repeat first | exact .here _ _ | assumption | apply Pick.there)⟩ (fun w hI => q_fieldAddr 0 Try.runUnderlying107 rfl Try.sizeOf58 (by decide) rfl rfl) ?_
              refine p_q hap hsel 3 rfl rfl ⟨_, hS.pick (by repeat first | exact .here _ _ | assumption | apply Pick.there)⟩ (fun w hI => q_load1 Try.isAgg58 rfl (hI.choose_spec.cell (by repeat first | exact .here _ _ | assumption | apply Pick.there) rfl)) ?_
              refine p_q hap hsel 4 rfl rfl ⟨_, hS.pick (by repeat first | exact .here _ _ | assumption | apply Pick.there)⟩ (fun w hI => q_mv (.pointer _) rfl) ?_
              refine p_q hap hsel 5 rfl rfl ⟨_, hS.pick (by repeat first | exact .here _ _ | assumption | apply Pick.there)⟩ (fun w hI => q_mv (.pointer _) rfl) ?_
              refine p_q hap hsel 6 rfl rfl ⟨_, hS.pick (by repeat first | exact .here _ _ | assumption | apply Pick.there)⟩ (fun w hI => q_nilCheck rfl) ?_
              refine p_q hap hsel 7 rfl rfl ⟨_, hS.pick (by repeat first | exact .here _ _ | assumption | apply Pick.there)⟩ (fun w hI => q_fieldAddr 3 Try.runUnderlying107 rfl Try.sizeOf3 (by decide) rfl rfl) ?_
              refine p_q hap hsel 8 rfl rfl ⟨_, hS.pick (by repeat first | exact .here _ _ | assumption | apply Pick.there)⟩ (fun w hI => q_load1 Try.isAgg3 rfl (hI.choose_spec.cell (by repeat first | exact .here _ _ | assumption | apply Pick.there) rfl)) ?_
              refine p_q hap hsel 9 rfl rfl ⟨_, hS.pick (by repeat first | exact .here _ _ | assumption | apply Pick.there)⟩ (fun w hI => q_nilCheck rfl) ?_
              refine p_q hap hsel 10 rfl rfl ⟨_, hS.pick (by repeat first | exact .here _ _ | assumption | apply Pick.there)⟩ (fun w hI => q_fieldAddr 1 Try.runUnderlying107 rfl Try.sizeOf73 (by decide) rfl rfl) ?_
              first | refine p_q hap hsel 11 rfl rfl ⟨_, hS.pick (by repeat first | exact .here _ _ | assumption | apply Pick.there)⟩ (fun w hI => q_arr_nat Try.runUnderlying73 Try.sizeOf3 rfl rfl (by omega)) ?_ | refine p_q hap hsel 11 rfl rfl ⟨_, hS.pick (by repeat first | exact .here _ _ | assumption | apply Pick.there)⟩ (fun w hI => q_arr Try.runUnderlying73 Try.sizeOf3 rfl rfl (by omega)) ?_
              refine p_q hap hsel 12 rfl rfl ⟨_, hS.pick (by repeat first | exact .here _ _ | assumption | apply Pick.there)⟩ (fun w hI => (q_cast (v' := .int .i64 (f0 + 1)) (q_load1 Try.isAgg3 rfl (hI.choose_spec.cell (by repeat first | exact .here _ _ | assumption | apply Pick.there) rfl)) (rfl))) ?_
              refine p_q hap hsel 14 rfl rfl ⟨_, hS.pick (by repeat first | exact .here _ _ | assumption | apply Pick.there)⟩ (fun w hI => q_mv (.pointer _) rfl) ?_
              refine p_q hap hsel 15 rfl rfl ⟨_, hS.pick (by repeat first | exact .here _ _ | assumption | apply Pick.there)⟩ (fun w hI => q_nilCheck rfl) ?_
              refine p_q hap hsel 16 rfl rfl ⟨_, hS.pick (by repeat first | exact .here _ _ | assumption | apply Pick.there)⟩ (fun w hI => q_fieldAddr 4 Try.runUnderlying107 rfl Try.sizeOf3 (by decide) rfl rfl) ?_
              refine p_q hap hsel 17 rfl rfl ⟨_, hS.pick (by repeat first | exact .here _ _ | assumption | apply Pick.there)⟩ (fun w hI => q_load1 Try.isAgg3 rfl (hI.choose_spec.cell (by repeat first | exact .here _ _ | assumption | apply Pick.there) rfl)) ?_
              refine p_one 13 rfl (by kernel_rfl) ?_
              refine t_call Try.call40 (size_in (i := f0 + 1) hS (by repeat first | exact .here _ _ | assumption | apply Pick.there) hG ⟨by omega, by omega⟩) rfl ?_
              rintro e w ⟨rfl, hS⟩
              refine ⟨_, rfl, ?_⟩
              refine t_nil ?_
              refine ⟨.inr ⟨_, hS.pick (by repeat first | exact .here _ _ | assumption | apply Pick.there)⟩, ?_⟩
              refine p_q hap hsel 18 rfl rfl ⟨_, hS.pick (by repeat first | exact .here _ _ | assumption | apply Pick.there)⟩ (fun w hI => q_geq rfl rfl) ?_
              refine p_end (by kernel_rfl) ?_
              refine c_cond rfl ?_ ?_
              · intro hc22
                have hc22d := of_decide_eq_true hc22
                have hL : bsL d (⟨f0, 1, ea, r, false⟩ : Bl) := by show ea ≤ ((d.F (f0 + 1).toNat).1.length : Int); omega
                have hC : bsC d (⟨f0, 1, ea, r, false⟩ : Bl) = 0 := by unfold bsC; rw [if_pos hL]; rfl
                have hM : bsM d (⟨f0, 1, ea, r, false⟩ : Bl) = f0 := by unfold bsM; rw [hC]; show f0 + 0 = f0; omega
                have hE1e : bsE1 d (⟨f0, 1, ea, r, false⟩ : Bl) = tnE d (f0 + (1 - 1)) 0 := by unfold bsE1; rw [if_pos hL]
                have hD1 : bsD1 d (⟨f0, 1, ea, r, false⟩ : Bl) = tnD d (f0 + (1 - 1)) 0 (drF d.F (f0 + (1 - 1)).toNat) := by unfold bsD1; rw [if_pos hL]
                refine c_seq ?_
                refine c_seq ?_
                refine c_draw ?_
                refine d_keep (blK g gd f0 1 ea r) 18 [0, 1, 2, 3, 4, 5, 6, 7, 8, 9, 10, 11, 12, 13, 14, 15, 16, 17] [0, 1, 2, 3, 4, 5, 6, 7, 8, 9, 10, 11, 12, 13, 14, 15, 16, 17] hS rfl (by kernel_rfl) (by kernel_rfl) (by kernel_rfl) (by kernel_rfl) (fun hap hsel w hS => ?_)
                refine p_q hap hsel 0 rfl rfl ⟨_, St.unex _ (hS.pick (A := blkA g 107 _) (by repeat first | exact .here _ _ | assumption | apply Pick.there))⟩ (fun w hI => q_mv (.pointer _) rfl) ?_
                refine p_q hap hsel 1 rfl rfl ⟨_, St.unex _ (hS.pick (A := blkA g 107 _) (by repeat first | exact .here _ _ | assumption | apply Pick.there))⟩ (fun w hI => q_mv (.pointer _) rfl) ?_
                refine p_q hap hsel 2 rfl rfl ⟨_, St.unex _ (hS.pick (A := blkA g 107 _) (by repeat first | exact .here _ _ | assumption | apply Pick.there))⟩ (fun w hI => q_nilCheck rfl) ?_
                refine p_q hap hsel 3 rfl rfl ⟨_, St.unex _ (hS.pick (A := blkA g 107 _) (by repeat first | exact .here _ _ | assumption | apply Pick.there))⟩ (fun w hI => q_fieldAddr 0 Try.runUnderlying107 rfl Try.sizeOf58 (by decide) rfl rfl) ?_
                refine p_q hap hsel 4 rfl rfl ⟨_, St.unex _ (hS.pick (A := blkA g 107 _) (by repeat first | exact .here _ _ | assumption | apply Pick.there))⟩ (fun w hI => q_load1 Try.isAgg58 rfl (hI.choose_spec.ex.choose_spec.cell (.here _ _) rfl)) ?_
                refine p_q hap hsel 5 rfl rfl ⟨_, St.unex _ (hS.pick (A := blkA g 107 _) (by repeat first | exact .here _ _ | assumption | apply Pick.there))⟩ (fun w hI => q_mv (.pointer _) rfl) ?_
                refine p_q hap hsel 6 rfl rfl ⟨_, St.unex _ (hS.pick (A := blkA g 107 _) (by repeat first | exact .here _ _ | assumption | apply Pick.there))⟩ (fun w hI => q_mv (.pointer _) rfl) ?_
                refine p_q hap hsel 7 rfl rfl ⟨_, St.unex _ (hS.pick (A := blkA g 107 _) (by repeat first | exact .here _ _ | assumption | apply Pick.there))⟩ (fun w hI => q_nilCheck rfl) ?_
                refine p_q hap hsel 8 rfl rfl ⟨_, St.unex _ (hS.pick (A := blkA g 107 _) (by repeat first | exact .here _ _ | assumption | apply Pick.there))⟩ (fun w hI => q_fieldAddr 3 Try.runUnderlying107 rfl Try.sizeOf3 (by decide) rfl rfl) ?_
                refine p_q hap hsel 9 rfl rfl ⟨_, St.unex _ (hS.pick (A := blkA g 107 _) (by repeat first | exact .here _ _ | assumption | apply Pick.there))⟩ (fun w hI => q_load1 Try.isAgg3 rfl (hI.choose_spec.ex.choose_spec.cell (.here _ _) rfl)) ?_
                refine p_q hap hsel 10 rfl rfl ⟨_, St.unex _ (hS.pick (A := blkA g 107 _) (by repeat first | exact .here _ _ | assumption | apply Pick.there))⟩ (fun w hI => (q_cast (v' := .int .i64 0) (q_sub_i64 rfl rfl (by omega)) (by rfl))) ?_
                refine p_q hap hsel 11 rfl rfl ⟨_, St.unex _ (hS.pick (A := blkA g 107 _) (by repeat first | exact .here _ _ | assumption | apply Pick.there))⟩ (fun w hI => q_nilCheck rfl) ?_
                refine p_q hap hsel 12 rfl rfl ⟨_, St.unex _ (hS.pick (A := blkA g 107 _) (by repeat first | exact .here _ _ | assumption | apply Pick.there))⟩ (fun w hI => q_fieldAddr 1 Try.runUnderlying107 rfl Try.sizeOf73 (by decide) rfl rfl) ?_
                first | refine p_q hap hsel 13 rfl rfl ⟨_, St.unex _ (hS.pick (A := blkA g 107 _) (by repeat first | exact .here _ _ | assumption | apply Pick.there))⟩ (fun w hI => q_arr_nat Try.runUnderlying73 Try.sizeOf3 rfl rfl (by omega)) ?_ | refine p_q hap hsel 13 rfl rfl ⟨_, St.unex _ (hS.pick (A := blkA g 107 _) (by repeat first | exact .here _ _ | assumption | apply Pick.there))⟩ (fun w hI => q_arr Try.runUnderlying73 Try.sizeOf3 rfl rfl (by omega)) ?_
                refine p_q hap hsel 14 rfl rfl ⟨_, St.unex _ (hS.pick (A := blkA g 107 _) (by repeat first | exact .here _ _ | assumption | apply Pick.there))⟩ (fun w hI => (q_cast (v' := .int .i64 (f0 + (1 - 1))) (q_load1 Try.isAgg3 rfl (hI.choose_spec.ex.choose_spec.cell (.here _ _) rfl)) (by congr 1; omega))) ?_
                refine p_one 15 rfl (by kernel_rfl) ?_
                refine t_call Try.call85 (drp_calls (i := f0 + (1 - 1)) hS (by repeat first | exact .here _ _ | assumption | apply Pick.there) hG (by omega)) rfl ?_
                rintro e w ⟨rfl, hS⟩
                refine ⟨_, rfl, ?_⟩
                refine t_nil ?_
                refine ⟨.inr ⟨_, St.unex _ (hS.pick (A := blkA g 107 _) (by repeat first | exact .here _ _ | assumption | apply Pick.there))⟩, ?_⟩
                refine p_one 16 rfl (by kernel_rfl) ?_
                refine t_call Try.call100 (bdone_calls (e0 := tnE d (f0 + (1 - 1)) 0) hS (by repeat first | exact .here _ _ | assumption | apply Pick.there)) rfl ?_
                rintro e w ⟨rfl, hS⟩
                refine ⟨_, rfl, ?_⟩
                refine t_nil ?_
                refine ⟨.inr ⟨_, St.unex _ (hS.pick (A := blkA g 107 _) (by repeat first | exact .here _ _ | assumption | apply Pick.there))⟩, ?_⟩
                refine p_q hap hsel 17 rfl rfl ⟨_, St.unex _ (hS.pick (A := blkA g 107 _) (by repeat first | exact .here _ _ | assumption | apply Pick.there))⟩ (fun w hI => q_not rfl) ?_
                refine p_end (by kernel_rfl) ?_
                refine c_cond rfl ?_ ?_
                · intro hc26
                  have hE1x : tnE d (f0 + (1 - 1)) 0 ≠ 0 := of_decide_eq_false (not_back hc26)
                  have hE1 : bsE1 d (⟨f0, 1, ea, r, false⟩ : Bl) ≠ 0 := by rw [hE1e]; exact hE1x
                  replace hS := (hS.pick (A := blkA g 107 _) (by repeat first | exact .here _ _ | assumption | apply Pick.there)).recast (show _ = blkA g 107 [.pointer (some ⟨gd, 0, none⟩), .int .i64 f0, .int .i64 (f0 + 1), .int .i64 1, .int .i64 ea, .int .u64 ((r).1 : Int), .int .u64 ((r).2 : Int), .bool true] from by rw [decide_eq_true hE1x])
                  replace hS := (hS.pick (A := dskA gd _) (by repeat first | exact .here _ _ | assumption | apply Pick.there)).recast (show _ = dskA gd (bsD1 d (⟨f0, 1, ea, r, false⟩ : Bl)) from congrArg (dskA gd) hD1.symm)
                  refine c_seq ?_
                  refine c_region ?_
                  refine t_q (q_assign) ?_
                  refine t_nil ?_
                  refine c_ret ?_
                  refine r_one rfl rfl ?_
                  first
                    | (rw [bsR_1 (b := ⟨f0, 1, ea, r, true⟩) rfl]; exact ⟨rfl, (((hS).pick (A := dskA gd _) (by repeat first | exact .here _ _ | assumption | apply Pick.there)).pick (A := blkA g 107 _) (by repeat first | exact .here _ _ | assumption | apply Pick.there))⟩)
                    | (rw [bsR_2 (b := (⟨f0, 1, ea, r, false⟩ : Bl)) rfl harg]; exact ⟨rfl, (((hS).pick (A := dskA gd _) (by repeat first | exact .here _ _ | assumption | apply Pick.there)).pick (A := blkA g 107 _) (by repeat first | exact .here _ _ | assumption | apply Pick.there))⟩)
                    | (rw [bsR_3 (b := (⟨f0, 1, ea, r, false⟩ : Bl)) rfl harg hX]; exact ⟨rfl, ((((hS.pick (A := blkA g7 105 [.int .u64 (((bsX t v)).1 : Int), .int .u64 (((bsX t v)).2 : Int)]) (by repeat first | exact .here _ _ | assumption | apply Pick.there)).drop).pick (A := dskA gd _) (by repeat first | exact .here _ _ | assumption | apply Pick.there)).pick (A := blkA g 107 _) (by repeat first | exact .here _ _ | assumption | apply Pick.there))⟩)
                    | (rw [bsR_4 (b := (⟨f0, 1, ea, r, false⟩ : Bl)) rfl harg hX hA]; exact ⟨rfl, ((((hS.pick (A := blkA g7 105 [.int .u64 (((bsX t v)).1 : Int), .int .u64 (((bsX t v)).2 : Int)]) (by repeat first | exact .here _ _ | assumption | apply Pick.there)).drop).pick (A := dskA gd _) (by repeat first | exact .here _ _ | assumption | apply Pick.there)).pick (A := blkA g 107 _) (by repeat first | exact .here _ _ | assumption | apply Pick.there))⟩)
                    | (rw [bsR_5 (b := (⟨f0, 1, ea, r, false⟩ : Bl)) rfl harg hX hA hE1]; exact ⟨rfl, (((((((hS.pick (A := rowA 5 1 A59 m59 c59 ((recB (bsX t v)).map bv)) (by repeat first | exact .here _ _ | assumption | apply Pick.there)).pick (A := rowA 5 1 A58 (enc t ++ enc (v + 1).toNat).length c58 ((enc t ++ enc (v + 1).toNat).map bv)) (by repeat first | exact .here _ _ | assumption | apply Pick.there)).pick (A := wrA g8 (enc t ++ enc (v + 1).toNat)) (by repeat first | exact .here _ _ | assumption | apply Pick.there)).pick (A := blkA g7 105 [.int .u64 (((bsX t v)).1 : Int), .int .u64 (((bsX t v)).2 : Int)]) (by repeat first | exact .here _ _ | assumption | apply Pick.there)).drop.drop.drop.drop).pick (A := dskA gd _) (by repeat first | exact .here _ _ | assumption | apply Pick.there)).pick (A := blkA g 107 _) (by repeat first | exact .here _ _ | assumption | apply Pick.there))⟩)
                    | (rw [bsR_6 (b := (⟨f0, 1, ea, r, false⟩ : Bl)) rfl harg hX hA hE1 hE2]; exact ⟨rfl, (((((((hS.pick (A := rowA 5 1 A59 m59 c59 ((recB (bsX t v)).map bv)) (by repeat first | exact .here _ _ | assumption | apply Pick.there)).pick (A := rowA 5 1 A58 (enc t ++ enc (v + 1).toNat).length c58 ((enc t ++ enc (v + 1).toNat).map bv)) (by repeat first | exact .here _ _ | assumption | apply Pick.there)).pick (A := wrA g8 (enc t ++ enc (v + 1).toNat)) (by repeat first | exact .here _ _ | assumption | apply Pick.there)).pick (A := blkA g7 105 [.int .u64 (((bsX t v)).1 : Int), .int .u64 (((bsX t v)).2 : Int)]) (by repeat first | exact .here _ _ | assumption | apply Pick.there)).drop.drop.drop.drop).pick (A := dskA gd _) (by repeat first | exact .here _ _ | assumption | apply Pick.there)).pick (A := blkA g 107 _) (by repeat first | exact .here _ _ | assumption | apply Pick.there))⟩)
                    | (rw [bsR_7 (b := (⟨f0, 1, ea, r, false⟩ : Bl)) rfl harg hX hA hE1 hE2 hE3]; exact ⟨rfl, (((((((hS.pick (A := rowA 5 1 A59 m59 c59 ((recB (bsX t v)).map bv)) (by repeat first | exact .here _ _ | assumption | apply Pick.there)).pick (A := rowA 5 1 A58 (enc t ++ enc (v + 1).toNat).length c58 ((enc t ++ enc (v + 1).toNat).map bv)) (by repeat first | exact .here _ _ | assumption | apply Pick.there)).pick (A := wrA g8 (enc t ++ enc (v + 1).toNat)) (by repeat first | exact .here _ _ | assumption | apply Pick.there)).pick (A := blkA g7 105 [.int .u64 (((bsX t v)).1 : Int), .int .u64 (((bsX t v)).2 : Int)]) (by repeat first | exact .here _ _ | assumption | apply Pick.there)).drop.drop.drop.drop).pick (A := dskA gd _) (by repeat first | exact .here _ _ | assumption | apply Pick.there)).pick (A := blkA g 107 _) (by repeat first | exact .here _ _ | assumption | apply Pick.there))⟩)
                    | (rw [bsR_8 (b := (⟨f0, 1, ea, r, false⟩ : Bl)) rfl harg hX hA hE1 hE2 hE3]; exact ⟨rfl, (((((((hS.pick (A := rowA 5 1 A59 m59 c59 ((recB (bsX t v)).map bv)) (by repeat first | exact .here _ _ | assumption | apply Pick.there)).pick (A := rowA 5 1 A58 (enc t ++ enc (v + 1).toNat).length c58 ((enc t ++ enc (v + 1).toNat).map bv)) (by repeat first | exact .here _ _ | assumption | apply Pick.there)).pick (A := wrA g8 (enc t ++ enc (v + 1).toNat)) (by repeat first | exact .here _ _ | assumption | apply Pick.there)).pick (A := blkA g7 105 [.int .u64 (((bsX t v)).1 : Int), .int .u64 (((bsX t v)).2 : Int)]) (by repeat first | exact .here _ _ | assumption | apply Pick.there)).drop.drop.drop.drop).pick (A := dskA gd _) (by repeat first | exact .here _ _ | assumption | apply Pick.there)).pick (A := blkA g 107 _) (by repeat first | exact .here _ _ | assumption | apply Pick.there))⟩)
                · intro hc26
                  have hE1x : tnE d (f0 + (1 - 1)) 0 = 0 := of_decide_eq_true (not_back hc26)
                  have hE1 : bsE1 d (⟨f0, 1, ea, r, false⟩ : Bl) = 0 := by rw [hE1e]; exact hE1x
                  replace hS := (hS.pick (A := blkA g 107 _) (by repeat first | exact .here _ _ | assumption | apply Pick.there)).recast (show _ = blkA g 107 [.pointer (some ⟨gd, 0, none⟩), .int .i64 f0, .int .i64 (f0 + 1), .int .i64 1, .int .i64 ea, .int .u64 ((r).1 : Int), .int .u64 ((r).2 : Int), .bool false] from by rw [show decide (tnE d (f0 + (1 - 1)) 0 ≠ 0) = false from by rw [hE1x]; rfl])
                  replace hS := (hS.pick (A := dskA gd _) (by repeat first | exact .here _ _ | assumption | apply Pick.there)).recast (show _ = dskA gd (bsD1 d (⟨f0, 1, ea, r, false⟩ : Bl)) from congrArg (dskA gd) hD1.symm)
                  refine c_skip ?_
                  refine c_region ?_
                  refine t_q (q_mv (.pointer _) rfl) ?_
                  refine t_q (q_mv (.pointer _) rfl) ?_
                  refine t_q (q_nilCheck rfl) ?_
                  refine t_q (q_fieldAddr 3 Try.runUnderlying107 rfl Try.sizeOf3 (by decide) rfl rfl) ?_
                  refine t_q (q_load1 Try.isAgg3 rfl (hS.cell (by repeat first | exact .here _ _ | assumption | apply Pick.there) rfl)) ?_
                  refine t_q (q_cast (v' := .int .i64 0) (q_sub_i64 rfl rfl (by omega)) (by rfl)) ?_
                  refine t_q (q_nilCheck rfl) ?_
                  refine t_q (q_fieldAddr 3 Try.runUnderlying107 rfl Try.sizeOf3 (by decide) rfl rfl) ?_
                  refine t_store (v := (.int _ _)) Try.sizeOf3 hS (by repeat first | exact .here _ _ | assumption | apply Pick.there) rfl rfl rfl rfl rfl rfl (fun w hS => ?_)
                  replace hS := hS.recast (show blkA g 107 _ = blkA g 107 [.pointer (some ⟨gd, 0, none⟩), .int .i64 f0, .int .i64 (f0 + 1), .int .i64 0, .int .i64 ea, .int .u64 ((r).1 : Int), .int .u64 ((r).2 : Int), .bool false] from rfl)
                  refine t_nil ?_
                  refine c_seq ?_
                  refine c_draw ?_
                  refine d_quiet 10 [0, 1, 2, 3, 4, 5, 6, 7, 8, 9] [0, 1, 2, 3, 4, 5, 6, 7, 8, 9] hS rfl (by kernel_rfl) (by kernel_rfl) (by kernel_rfl) (by kernel_rfl) (fun hap hsel w hS => ?_)
                  refine p_q hap hsel 0 rfl rfl hS (fun w hS => q_mv (.pointer _) rfl) ?_
                  refine p_q hap hsel 1 rfl rfl hS (fun w hS => q_mv (.pointer _) rfl) ?_
                  refine p_q hap hsel 2 rfl rfl hS (fun w hS => q_nilCheck rfl) ?_
                  refine p_q hap hsel 3 rfl rfl hS (fun w hS => q_fieldAddr 3 Try.runUnderlying107 rfl Try.sizeOf3 (by decide) rfl rfl) ?_
                  refine p_q hap hsel 4 rfl rfl hS (fun w hS => q_load1 Try.isAgg3 rfl (hS.cell (by repeat first | exact .here _ _ | assumption | apply Pick.there) rfl)) ?_
                  refine p_q hap hsel 5 rfl rfl hS (fun w hS => q_nilCheck rfl) ?_
                  refine p_q hap hsel 6 rfl rfl hS (fun w hS => q_fieldAddr 1 Try.runUnderlying107 rfl Try.sizeOf73 (by decide) rfl rfl) ?_
                  first | refine p_q hap hsel 7 rfl rfl hS (fun w hS => q_arr_nat Try.runUnderlying73 Try.sizeOf3 rfl rfl (by omega)) ?_ | refine p_q hap hsel 7 rfl rfl hS (fun w hS => q_arr Try.runUnderlying73 Try.sizeOf3 rfl rfl (by omega)) ?_
                  refine p_q hap hsel 8 rfl rfl hS (fun w hS => (q_cast (v' := .int .i64 (bsM d (⟨f0, 1, ea, r, false⟩ : Bl))) (q_load1 Try.isAgg3 rfl (hS.cell (by repeat first | exact .here _ _ | assumption | apply Pick.there) rfl)) (congrArg (Value.int .i64) hM.symm))) ?_
                  refine p_q hap hsel 9 rfl rfl hS (fun w hS => q_as (.int _ _) rfl) ?_
                  refine p_end (by kernel_rfl) ?_
                  refine c_seq ?_
                  refine c_seq ?_
                  refine c_region ?_
                  refine t_q (q_mv (.pointer _) rfl) ?_
                  refine t_q (q_mv (.pointer _) rfl) ?_
                  refine t_q (q_nilCheck rfl) ?_
                  refine t_q (q_fieldAddr 0 Try.runUnderlying107 rfl Try.sizeOf58 (by decide) rfl rfl) ?_
                  refine t_q (q_load1 Try.isAgg58 rfl (hS.cell (by repeat first | exact .here _ _ | assumption | apply Pick.there) rfl)) ?_
                  refine t_q (q_mv (.int _ _) rfl) ?_
                  refine t_q (q_mv (.slice _ _ _) rfl) ?_
                  refine t_call Try.call39 (app_calls (i := bsM d (⟨f0, 1, ea, r, false⟩ : Bl)) (ys := recB (bsX t v)) (((hS.pick (A := rowA 5 1 A59 m59 c59 ((recB (bsX t v)).map bv)) (by repeat first | exact .here _ _ | assumption | apply Pick.there)).pick (A := dskA gd _) (by repeat first | exact .here _ _ | assumption | apply Pick.there))) (.here _ _) hG1 (by omega) (fun w h => h.rowRd (A := A59) (c := c59) (bs := recB (bsX t v)) (.here _ _) hm59) hm59 (by omega)) rfl ?_
                  rintro e w ⟨rfl, hS⟩
                  refine ⟨_, rfl, ?_⟩
                  replace hS : St W w (dskA gd (bsD2 d (⟨f0, 1, ea, r, false⟩ : Bl) (recB (bsX t v))) :: _) := hS
                  refine t_call Try.call100 (bdone_calls (e0 := bsE2 d (⟨f0, 1, ea, r, false⟩ : Bl) (recB (bsX t v))) hS (by repeat first | exact .here _ _ | assumption | apply Pick.there)) rfl ?_
                  rintro e w ⟨rfl, hS⟩
                  refine ⟨_, rfl, ?_⟩
                  refine t_q (q_not rfl) ?_
                  refine t_q (q_mv (.bool _) rfl) ?_
                  refine t_case 126 rfl ?_ ?_
                  · intro hg30
                    refine t_no rfl rfl (by rw [(congrArg not (not_back hg30))]; decide) ?_
                    refine t_no rfl rfl (by rw [(congrArg not (not_back hg30))]; decide) ?_
                    refine t_no rfl rfl (by rw [(congrArg not (not_back hg30))]; decide) ?_
                    refine t_no rfl rfl (by rw [(congrArg not (not_back hg30))]; decide) ?_
                    refine t_no rfl rfl (by rw [(congrArg not (not_back hg30))]; decide) ?_
                    refine t_no rfl rfl (by rw [(congrArg not (not_back hg30))]; decide) ?_
                    refine t_no rfl rfl (by rw [(congrArg not (not_back hg30))]; decide) ?_
                    refine t_no rfl rfl (by rw [(congrArg not (not_back hg30))]; decide) ?_
                    refine t_no rfl rfl (by rw [(congrArg not (not_back hg30))]; decide) ?_
                    refine t_q (q_pick_t rfl (congrArg not (not_back hg30))) ?_
                    refine t_nil ?_
                    refine c_cond_t rfl rfl ?_
                    first
                      | (have hE3 : bsE3 d (⟨f0, 1, ea, r, false⟩ : Bl) (recB (bsX t v)) ≠ 0 := of_decide_eq_false (not_back (by assumption) : decide (bsE3 d (⟨f0, 1, ea, r, false⟩ : Bl) (recB (bsX t v)) = 0) = false)
                         replace hS := (hS.pick (A := blkA g 107 _) (by repeat first | exact .here _ _ | assumption | apply Pick.there)).recast (show _ = blkA g 107 [.pointer (some ⟨gd, 0, none⟩), .int .i64 f0, .int .i64 (f0 + 1), .int .i64 (bsC d (⟨f0, 1, ea, r, false⟩ : Bl)), .int .i64 ea, .int .u64 ((r).1 : Int), .int .u64 ((r).2 : Int), .bool true] from by rw [show decide (bsE3 d (⟨f0, 1, ea, r, false⟩ : Bl) (recB (bsX t v)) ≠ 0) = true from by first | exact decide_eq_true hE3 | (rw [hE3]; try rfl)]; try first | rfl | rw [hC]))
                      | (have hE2 : bsE2 d (⟨f0, 1, ea, r, false⟩ : Bl) (recB (bsX t v)) ≠ 0 := of_decide_eq_false (not_back (by assumption) : decide (bsE2 d (⟨f0, 1, ea, r, false⟩ : Bl) (recB (bsX t v)) = 0) = false)
                         replace hS := (hS.pick (A := blkA g 107 _) (by repeat first | exact .here _ _ | assumption | apply Pick.there)).recast (show _ = blkA g 107 [.pointer (some ⟨gd, 0, none⟩), .int .i64 f0, .int .i64 (f0 + 1), .int .i64 (bsC d (⟨f0, 1, ea, r, false⟩ : Bl)), .int .i64 ea, .int .u64 ((r).1 : Int), .int .u64 ((r).2 : Int), .bool true] from by rw [show decide (bsE2 d (⟨f0, 1, ea, r, false⟩ : Bl) (recB (bsX t v)) ≠ 0) = true from by first | exact decide_eq_true hE2 | (rw [hE2]; try rfl)]; try first | rfl | rw [hC]))
                    refine c_seq ?_
                    refine c_region ?_
                    refine t_q (q_assign) ?_
                    refine t_nil ?_
                    refine c_ret ?_
                    refine r_one rfl rfl ?_
                    first
                      | (rw [bsR_1 (b := ⟨f0, 1, ea, r, true⟩) rfl]; exact ⟨rfl, (((hS).pick (A := dskA gd _) (by repeat first | exact .here _ _ | assumption | apply Pick.there)).pick (A := blkA g 107 _) (by repeat first | exact .here _ _ | assumption | apply Pick.there))⟩)
                      | (rw [bsR_2 (b := (⟨f0, 1, ea, r, false⟩ : Bl)) rfl harg]; exact ⟨rfl, (((hS).pick (A := dskA gd _) (by repeat first | exact .here _ _ | assumption | apply Pick.there)).pick (A := blkA g 107 _) (by repeat first | exact .here _ _ | assumption | apply Pick.there))⟩)
                      | (rw [bsR_3 (b := (⟨f0, 1, ea, r, false⟩ : Bl)) rfl harg hX]; exact ⟨rfl, ((((hS.pick (A := blkA g7 105 [.int .u64 (((bsX t v)).1 : Int), .int .u64 (((bsX t v)).2 : Int)]) (by repeat first | exact .here _ _ | assumption | apply Pick.there)).drop).pick (A := dskA gd _) (by repeat first | exact .here _ _ | assumption | apply Pick.there)).pick (A := blkA g 107 _) (by repeat first | exact .here _ _ | assumption | apply Pick.there))⟩)
                      | (rw [bsR_4 (b := (⟨f0, 1, ea, r, false⟩ : Bl)) rfl harg hX hA]; exact ⟨rfl, ((((hS.pick (A := blkA g7 105 [.int .u64 (((bsX t v)).1 : Int), .int .u64 (((bsX t v)).2 : Int)]) (by repeat first | exact .here _ _ | assumption | apply Pick.there)).drop).pick (A := dskA gd _) (by repeat first | exact .here _ _ | assumption | apply Pick.there)).pick (A := blkA g 107 _) (by repeat first | exact .here _ _ | assumption | apply Pick.there))⟩)
                      | (rw [bsR_5 (b := (⟨f0, 1, ea, r, false⟩ : Bl)) rfl harg hX hA hE1]; exact ⟨rfl, (((((((hS.pick (A := rowA 5 1 A59 m59 c59 ((recB (bsX t v)).map bv)) (by repeat first | exact .here _ _ | assumption | apply Pick.there)).pick (A := rowA 5 1 A58 (enc t ++ enc (v + 1).toNat).length c58 ((enc t ++ enc (v + 1).toNat).map bv)) (by repeat first | exact .here _ _ | assumption | apply Pick.there)).pick (A := wrA g8 (enc t ++ enc (v + 1).toNat)) (by repeat first | exact .here _ _ | assumption | apply Pick.there)).pick (A := blkA g7 105 [.int .u64 (((bsX t v)).1 : Int), .int .u64 (((bsX t v)).2 : Int)]) (by repeat first | exact .here _ _ | assumption | apply Pick.there)).drop.drop.drop.drop).pick (A := dskA gd _) (by repeat first | exact .here _ _ | assumption | apply Pick.there)).pick (A := blkA g 107 _) (by repeat first | exact .here _ _ | assumption | apply Pick.there))⟩)
                      | (rw [bsR_6 (b := (⟨f0, 1, ea, r, false⟩ : Bl)) rfl harg hX hA hE1 hE2]; exact ⟨rfl, (((((((hS.pick (A := rowA 5 1 A59 m59 c59 ((recB (bsX t v)).map bv)) (by repeat first | exact .here _ _ | assumption | apply Pick.there)).pick (A := rowA 5 1 A58 (enc t ++ enc (v + 1).toNat).length c58 ((enc t ++ enc (v + 1).toNat).map bv)) (by repeat first | exact .here _ _ | assumption | apply Pick.there)).pick (A := wrA g8 (enc t ++ enc (v + 1).toNat)) (by repeat first | exact .here _ _ | assumption | apply Pick.there)).pick (A := blkA g7 105 [.int .u64 (((bsX t v)).1 : Int), .int .u64 (((bsX t v)).2 : Int)]) (by repeat first | exact .here _ _ | assumption | apply Pick.there)).drop.drop.drop.drop).pick (A := dskA gd _) (by repeat first | exact .here _ _ | assumption | apply Pick.there)).pick (A := blkA g 107 _) (by repeat first | exact .here _ _ | assumption | apply Pick.there))⟩)
                      | (rw [bsR_7 (b := (⟨f0, 1, ea, r, false⟩ : Bl)) rfl harg hX hA hE1 hE2 hE3]; exact ⟨rfl, (((((((hS.pick (A := rowA 5 1 A59 m59 c59 ((recB (bsX t v)).map bv)) (by repeat first | exact .here _ _ | assumption | apply Pick.there)).pick (A := rowA 5 1 A58 (enc t ++ enc (v + 1).toNat).length c58 ((enc t ++ enc (v + 1).toNat).map bv)) (by repeat first | exact .here _ _ | assumption | apply Pick.there)).pick (A := wrA g8 (enc t ++ enc (v + 1).toNat)) (by repeat first | exact .here _ _ | assumption | apply Pick.there)).pick (A := blkA g7 105 [.int .u64 (((bsX t v)).1 : Int), .int .u64 (((bsX t v)).2 : Int)]) (by repeat first | exact .here _ _ | assumption | apply Pick.there)).drop.drop.drop.drop).pick (A := dskA gd _) (by repeat first | exact .here _ _ | assumption | apply Pick.there)).pick (A := blkA g 107 _) (by repeat first | exact .here _ _ | assumption | apply Pick.there))⟩)
                      | (rw [bsR_8 (b := (⟨f0, 1, ea, r, false⟩ : Bl)) rfl harg hX hA hE1 hE2 hE3]; exact ⟨rfl, (((((((hS.pick (A := rowA 5 1 A59 m59 c59 ((recB (bsX t v)).map bv)) (by repeat first | exact .here _ _ | assumption | apply Pick.there)).pick (A := rowA 5 1 A58 (enc t ++ enc (v + 1).toNat).length c58 ((enc t ++ enc (v + 1).toNat).map bv)) (by repeat first | exact .here _ _ | assumption | apply Pick.there)).pick (A := wrA g8 (enc t ++ enc (v + 1).toNat)) (by repeat first | exact .here _ _ | assumption | apply Pick.there)).pick (A := blkA g7 105 [.int .u64 (((bsX t v)).1 : Int), .int .u64 (((bsX t v)).2 : Int)]) (by repeat first | exact .here _ _ | assumption | apply Pick.there)).drop.drop.drop.drop).pick (A := dskA gd _) (by repeat first | exact .here _ _ | assumption | apply Pick.there)).pick (A := blkA g 107 _) (by repeat first | exact .here _ _ | assumption | apply Pick.there))⟩)
                  · intro hg30
                    refine t_yes rfl rfl (congrArg not (not_back hg30)) ?_
                    refine t_q (q_mv (.pointer _) rfl) ?_
                    have hE2 : bsE2 d (⟨f0, 1, ea, r, false⟩ : Bl) (recB (bsX t v)) = 0 := of_decide_eq_true (not_back (by assumption) : decide (bsE2 d (⟨f0, 1, ea, r, false⟩ : Bl) (recB (bsX t v)) = 0) = true)
                    replace hS := (hS.pick (A := blkA g 107 _) (by repeat first | exact .here _ _ | assumption | apply Pick.there)).recast (show _ = blkA g 107 [.pointer (some ⟨gd, 0, none⟩), .int .i64 f0, .int .i64 (f0 + 1), .int .i64 (bsC d (⟨f0, 1, ea, r, false⟩ : Bl)), .int .i64 ea, .int .u64 ((r).1 : Int), .int .u64 ((r).2 : Int), .bool false] from by rw [show decide (bsE2 d (⟨f0, 1, ea, r, false⟩ : Bl) (recB (bsX t v)) ≠ 0) = false from by rw [hE2]; try rfl]; try first | rfl | rw [hC])
                    refine t_yes rfl rfl (congrArg not (not_back hg30)) ?_
                    refine t_q (q_mv (.pointer _) rfl) ?_
                    refine t_yes rfl rfl (congrArg not (not_back hg30)) ?_
                    refine t_q (q_nilCheck rfl) ?_
                    refine t_yes rfl rfl (congrArg not (not_back hg30)) ?_
                    refine t_q (q_fieldAddr 0 Try.runUnderlying107 rfl Try.sizeOf58 (by decide) rfl rfl) ?_
                    refine t_yes rfl rfl (congrArg not (not_back hg30)) ?_
                    refine t_q (q_load1 Try.isAgg58 rfl (hS.cell (by repeat first | exact .here _ _ | assumption | apply Pick.there) rfl)) ?_
                    refine t_yes rfl rfl (congrArg not (not_back hg30)) ?_
                    refine t_q (q_mv (.int _ _) rfl) ?_
                    refine t_yes rfl rfl (congrArg not (not_back hg30)) ?_
                    refine t_call Try.call43 (syn_calls (i := bsM d (⟨f0, 1, ea, r, false⟩ : Bl)) hS (by repeat first | exact .here _ _ | assumption | apply Pick.there) hG2 (by omega)) rfl ?_
                    rintro e w ⟨rfl, hS⟩
                    refine ⟨_, rfl, ?_⟩
                    replace hS : St W w (dskA gd (bsD3 d (⟨f0, 1, ea, r, false⟩ : Bl) (recB (bsX t v))) :: _) := hS
                    refine t_yes rfl rfl (congrArg not (not_back hg30)) ?_
                    refine t_call Try.call100 (bdone_calls (e0 := bsE3 d (⟨f0, 1, ea, r, false⟩ : Bl) (recB (bsX t v))) hS (by repeat first | exact .here _ _ | assumption | apply Pick.there)) rfl ?_
                    rintro e w ⟨rfl, hS⟩
                    refine ⟨_, rfl, ?_⟩
                    refine t_yes rfl rfl (congrArg not (not_back hg30)) ?_
                    refine t_q (q_not rfl) ?_
                    refine t_q (q_pick_f rfl (congrArg not (not_back hg30))) ?_
                    refine t_nil ?_
                    refine c_cond rfl ?_ ?_
                    · intro hc33
                      first
                        | (have hE3 : bsE3 d (⟨f0, 1, ea, r, false⟩ : Bl) (recB (bsX t v)) ≠ 0 := of_decide_eq_false (not_back (by assumption) : decide (bsE3 d (⟨f0, 1, ea, r, false⟩ : Bl) (recB (bsX t v)) = 0) = false)
                           replace hS := (hS.pick (A := blkA g 107 _) (by repeat first | exact .here _ _ | assumption | apply Pick.there)).recast (show _ = blkA g 107 [.pointer (some ⟨gd, 0, none⟩), .int .i64 f0, .int .i64 (f0 + 1), .int .i64 (bsC d (⟨f0, 1, ea, r, false⟩ : Bl)), .int .i64 ea, .int .u64 ((r).1 : Int), .int .u64 ((r).2 : Int), .bool true] from by rw [show decide (bsE3 d (⟨f0, 1, ea, r, false⟩ : Bl) (recB (bsX t v)) ≠ 0) = true from by first | exact decide_eq_true hE3 | (rw [hE3]; try rfl)]; try first | rfl | rw [hC]))
                        | (have hE2 : bsE2 d (⟨f0, 1, ea, r, false⟩ : Bl) (recB (bsX t v)) ≠ 0 := of_decide_eq_false (not_back (by assumption) : decide (bsE2 d (⟨f0, 1, ea, r, false⟩ : Bl) (recB (bsX t v)) = 0) = false)
                           replace hS := (hS.pick (A := blkA g 107 _) (by repeat first | exact .here _ _ | assumption | apply Pick.there)).recast (show _ = blkA g 107 [.pointer (some ⟨gd, 0, none⟩), .int .i64 f0, .int .i64 (f0 + 1), .int .i64 (bsC d (⟨f0, 1, ea, r, false⟩ : Bl)), .int .i64 ea, .int .u64 ((r).1 : Int), .int .u64 ((r).2 : Int), .bool true] from by rw [show decide (bsE2 d (⟨f0, 1, ea, r, false⟩ : Bl) (recB (bsX t v)) ≠ 0) = true from by first | exact decide_eq_true hE2 | (rw [hE2]; try rfl)]; try first | rfl | rw [hC]))
                      refine c_seq ?_
                      refine c_region ?_
                      refine t_q (q_assign) ?_
                      refine t_nil ?_
                      refine c_ret ?_
                      refine r_one rfl rfl ?_
                      first
                        | (rw [bsR_1 (b := ⟨f0, 1, ea, r, true⟩) rfl]; exact ⟨rfl, (((hS).pick (A := dskA gd _) (by repeat first | exact .here _ _ | assumption | apply Pick.there)).pick (A := blkA g 107 _) (by repeat first | exact .here _ _ | assumption | apply Pick.there))⟩)
                        | (rw [bsR_2 (b := (⟨f0, 1, ea, r, false⟩ : Bl)) rfl harg]; exact ⟨rfl, (((hS).pick (A := dskA gd _) (by repeat first | exact .here _ _ | assumption | apply Pick.there)).pick (A := blkA g 107 _) (by repeat first | exact .here _ _ | assumption | apply Pick.there))⟩)
                        | (rw [bsR_3 (b := (⟨f0, 1, ea, r, false⟩ : Bl)) rfl harg hX]; exact ⟨rfl, ((((hS.pick (A := blkA g7 105 [.int .u64 (((bsX t v)).1 : Int), .int .u64 (((bsX t v)).2 : Int)]) (by repeat first | exact .here _ _ | assumption | apply Pick.there)).drop).pick (A := dskA gd _) (by repeat first | exact .here _ _ | assumption | apply Pick.there)).pick (A := blkA g 107 _) (by repeat first | exact .here _ _ | assumption | apply Pick.there))⟩)
                        | (rw [bsR_4 (b := (⟨f0, 1, ea, r, false⟩ : Bl)) rfl harg hX hA]; exact ⟨rfl, ((((hS.pick (A := blkA g7 105 [.int .u64 (((bsX t v)).1 : Int), .int .u64 (((bsX t v)).2 : Int)]) (by repeat first | exact .here _ _ | assumption | apply Pick.there)).drop).pick (A := dskA gd _) (by repeat first | exact .here _ _ | assumption | apply Pick.there)).pick (A := blkA g 107 _) (by repeat first | exact .here _ _ | assumption | apply Pick.there))⟩)
                        | (rw [bsR_5 (b := (⟨f0, 1, ea, r, false⟩ : Bl)) rfl harg hX hA hE1]; exact ⟨rfl, (((((((hS.pick (A := rowA 5 1 A59 m59 c59 ((recB (bsX t v)).map bv)) (by repeat first | exact .here _ _ | assumption | apply Pick.there)).pick (A := rowA 5 1 A58 (enc t ++ enc (v + 1).toNat).length c58 ((enc t ++ enc (v + 1).toNat).map bv)) (by repeat first | exact .here _ _ | assumption | apply Pick.there)).pick (A := wrA g8 (enc t ++ enc (v + 1).toNat)) (by repeat first | exact .here _ _ | assumption | apply Pick.there)).pick (A := blkA g7 105 [.int .u64 (((bsX t v)).1 : Int), .int .u64 (((bsX t v)).2 : Int)]) (by repeat first | exact .here _ _ | assumption | apply Pick.there)).drop.drop.drop.drop).pick (A := dskA gd _) (by repeat first | exact .here _ _ | assumption | apply Pick.there)).pick (A := blkA g 107 _) (by repeat first | exact .here _ _ | assumption | apply Pick.there))⟩)
                        | (rw [bsR_6 (b := (⟨f0, 1, ea, r, false⟩ : Bl)) rfl harg hX hA hE1 hE2]; exact ⟨rfl, (((((((hS.pick (A := rowA 5 1 A59 m59 c59 ((recB (bsX t v)).map bv)) (by repeat first | exact .here _ _ | assumption | apply Pick.there)).pick (A := rowA 5 1 A58 (enc t ++ enc (v + 1).toNat).length c58 ((enc t ++ enc (v + 1).toNat).map bv)) (by repeat first | exact .here _ _ | assumption | apply Pick.there)).pick (A := wrA g8 (enc t ++ enc (v + 1).toNat)) (by repeat first | exact .here _ _ | assumption | apply Pick.there)).pick (A := blkA g7 105 [.int .u64 (((bsX t v)).1 : Int), .int .u64 (((bsX t v)).2 : Int)]) (by repeat first | exact .here _ _ | assumption | apply Pick.there)).drop.drop.drop.drop).pick (A := dskA gd _) (by repeat first | exact .here _ _ | assumption | apply Pick.there)).pick (A := blkA g 107 _) (by repeat first | exact .here _ _ | assumption | apply Pick.there))⟩)
                        | (rw [bsR_7 (b := (⟨f0, 1, ea, r, false⟩ : Bl)) rfl harg hX hA hE1 hE2 hE3]; exact ⟨rfl, (((((((hS.pick (A := rowA 5 1 A59 m59 c59 ((recB (bsX t v)).map bv)) (by repeat first | exact .here _ _ | assumption | apply Pick.there)).pick (A := rowA 5 1 A58 (enc t ++ enc (v + 1).toNat).length c58 ((enc t ++ enc (v + 1).toNat).map bv)) (by repeat first | exact .here _ _ | assumption | apply Pick.there)).pick (A := wrA g8 (enc t ++ enc (v + 1).toNat)) (by repeat first | exact .here _ _ | assumption | apply Pick.there)).pick (A := blkA g7 105 [.int .u64 (((bsX t v)).1 : Int), .int .u64 (((bsX t v)).2 : Int)]) (by repeat first | exact .here _ _ | assumption | apply Pick.there)).drop.drop.drop.drop).pick (A := dskA gd _) (by repeat first | exact .here _ _ | assumption | apply Pick.there)).pick (A := blkA g 107 _) (by repeat first | exact .here _ _ | assumption | apply Pick.there))⟩)
                        | (rw [bsR_8 (b := (⟨f0, 1, ea, r, false⟩ : Bl)) rfl harg hX hA hE1 hE2 hE3]; exact ⟨rfl, (((((((hS.pick (A := rowA 5 1 A59 m59 c59 ((recB (bsX t v)).map bv)) (by repeat first | exact .here _ _ | assumption | apply Pick.there)).pick (A := rowA 5 1 A58 (enc t ++ enc (v + 1).toNat).length c58 ((enc t ++ enc (v + 1).toNat).map bv)) (by repeat first | exact .here _ _ | assumption | apply Pick.there)).pick (A := wrA g8 (enc t ++ enc (v + 1).toNat)) (by repeat first | exact .here _ _ | assumption | apply Pick.there)).pick (A := blkA g7 105 [.int .u64 (((bsX t v)).1 : Int), .int .u64 (((bsX t v)).2 : Int)]) (by repeat first | exact .here _ _ | assumption | apply Pick.there)).drop.drop.drop.drop).pick (A := dskA gd _) (by repeat first | exact .here _ _ | assumption | apply Pick.there)).pick (A := blkA g 107 _) (by repeat first | exact .here _ _ | assumption | apply Pick.there))⟩)
                    · intro hc33
                      have hE3 : bsE3 d (⟨f0, 1, ea, r, false⟩ : Bl) (recB (bsX t v)) = 0 := of_decide_eq_true (not_back (by assumption) : decide (bsE3 d (⟨f0, 1, ea, r, false⟩ : Bl) (recB (bsX t v)) = 0) = true)
                      replace hS := (hS.pick (A := blkA g 107 _) (by repeat first | exact .here _ _ | assumption | apply Pick.there)).recast (show _ = blkA g 107 [.pointer (some ⟨gd, 0, none⟩), .int .i64 f0, .int .i64 (f0 + 1), .int .i64 (bsC d (⟨f0, 1, ea, r, false⟩ : Bl)), .int .i64 ea, .int .u64 ((r).1 : Int), .int .u64 ((r).2 : Int), .bool false] from by rw [show decide (bsE3 d (⟨f0, 1, ea, r, false⟩ : Bl) (recB (bsX t v)) ≠ 0) = false from by first | exact decide_eq_true hE3 | (rw [hE3]; try rfl)]; try first | rfl | rw [hC])
                      refine c_skip ?_
                      refine c_seq ?_
                      refine c_region ?_
                      refine t_q (q_mv (.pointer _) rfl) ?_
                      refine t_q (q_load_blk Try.isAgg105 Try.sizeOf105 rfl (hS.blk (by repeat first | exact .here _ _ | assumption | apply Pick.there)) rfl) ?_
                      refine t_q (q_nilCheck rfl) ?_
                      refine t_q (q_fieldAddr 5 Try.runUnderlying107 rfl Try.sizeOf105 (by decide) rfl rfl) ?_
                      refine t_store (v := (.agg _)) Try.sizeOf105 hS (by repeat first | exact .here _ _ | assumption | apply Pick.there) rfl rfl rfl rfl rfl rfl (fun w hS => ?_)
                      skip
                      refine t_nil ?_
                      refine c_seq ?_
                      refine c_region ?_
                      refine t_q (q_assign) ?_
                      refine t_nil ?_
                      refine c_ret ?_
                      refine r_one rfl rfl ?_
                      first
                        | (rw [bsR_1 (b := ⟨f0, 1, ea, r, true⟩) rfl]; exact ⟨rfl, (((hS).pick (A := dskA gd _) (by repeat first | exact .here _ _ | assumption | apply Pick.there)).pick (A := blkA g 107 _) (by repeat first | exact .here _ _ | assumption | apply Pick.there))⟩)
                        | (rw [bsR_2 (b := (⟨f0, 1, ea, r, false⟩ : Bl)) rfl harg]; exact ⟨rfl, (((hS).pick (A := dskA gd _) (by repeat first | exact .here _ _ | assumption | apply Pick.there)).pick (A := blkA g 107 _) (by repeat first | exact .here _ _ | assumption | apply Pick.there))⟩)
                        | (rw [bsR_3 (b := (⟨f0, 1, ea, r, false⟩ : Bl)) rfl harg hX]; exact ⟨rfl, ((((hS.pick (A := blkA g7 105 [.int .u64 (((bsX t v)).1 : Int), .int .u64 (((bsX t v)).2 : Int)]) (by repeat first | exact .here _ _ | assumption | apply Pick.there)).drop).pick (A := dskA gd _) (by repeat first | exact .here _ _ | assumption | apply Pick.there)).pick (A := blkA g 107 _) (by repeat first | exact .here _ _ | assumption | apply Pick.there))⟩)
                        | (rw [bsR_4 (b := (⟨f0, 1, ea, r, false⟩ : Bl)) rfl harg hX hA]; exact ⟨rfl, ((((hS.pick (A := blkA g7 105 [.int .u64 (((bsX t v)).1 : Int), .int .u64 (((bsX t v)).2 : Int)]) (by repeat first | exact .here _ _ | assumption | apply Pick.there)).drop).pick (A := dskA gd _) (by repeat first | exact .here _ _ | assumption | apply Pick.there)).pick (A := blkA g 107 _) (by repeat first | exact .here _ _ | assumption | apply Pick.there))⟩)
                        | (rw [bsR_5 (b := (⟨f0, 1, ea, r, false⟩ : Bl)) rfl harg hX hA hE1]; exact ⟨rfl, (((((((hS.pick (A := rowA 5 1 A59 m59 c59 ((recB (bsX t v)).map bv)) (by repeat first | exact .here _ _ | assumption | apply Pick.there)).pick (A := rowA 5 1 A58 (enc t ++ enc (v + 1).toNat).length c58 ((enc t ++ enc (v + 1).toNat).map bv)) (by repeat first | exact .here _ _ | assumption | apply Pick.there)).pick (A := wrA g8 (enc t ++ enc (v + 1).toNat)) (by repeat first | exact .here _ _ | assumption | apply Pick.there)).pick (A := blkA g7 105 [.int .u64 (((bsX t v)).1 : Int), .int .u64 (((bsX t v)).2 : Int)]) (by repeat first | exact .here _ _ | assumption | apply Pick.there)).drop.drop.drop.drop).pick (A := dskA gd _) (by repeat first | exact .here _ _ | assumption | apply Pick.there)).pick (A := blkA g 107 _) (by repeat first | exact .here _ _ | assumption | apply Pick.there))⟩)
                        | (rw [bsR_6 (b := (⟨f0, 1, ea, r, false⟩ : Bl)) rfl harg hX hA hE1 hE2]; exact ⟨rfl, (((((((hS.pick (A := rowA 5 1 A59 m59 c59 ((recB (bsX t v)).map bv)) (by repeat first | exact .here _ _ | assumption | apply Pick.there)).pick (A := rowA 5 1 A58 (enc t ++ enc (v + 1).toNat).length c58 ((enc t ++ enc (v + 1).toNat).map bv)) (by repeat first | exact .here _ _ | assumption | apply Pick.there)).pick (A := wrA g8 (enc t ++ enc (v + 1).toNat)) (by repeat first | exact .here _ _ | assumption | apply Pick.there)).pick (A := blkA g7 105 [.int .u64 (((bsX t v)).1 : Int), .int .u64 (((bsX t v)).2 : Int)]) (by repeat first | exact .here _ _ | assumption | apply Pick.there)).drop.drop.drop.drop).pick (A := dskA gd _) (by repeat first | exact .here _ _ | assumption | apply Pick.there)).pick (A := blkA g 107 _) (by repeat first | exact .here _ _ | assumption | apply Pick.there))⟩)
                        | (rw [bsR_7 (b := (⟨f0, 1, ea, r, false⟩ : Bl)) rfl harg hX hA hE1 hE2 hE3]; exact ⟨rfl, (((((((hS.pick (A := rowA 5 1 A59 m59 c59 ((recB (bsX t v)).map bv)) (by repeat first | exact .here _ _ | assumption | apply Pick.there)).pick (A := rowA 5 1 A58 (enc t ++ enc (v + 1).toNat).length c58 ((enc t ++ enc (v + 1).toNat).map bv)) (by repeat first | exact .here _ _ | assumption | apply Pick.there)).pick (A := wrA g8 (enc t ++ enc (v + 1).toNat)) (by repeat first | exact .here _ _ | assumption | apply Pick.there)).pick (A := blkA g7 105 [.int .u64 (((bsX t v)).1 : Int), .int .u64 (((bsX t v)).2 : Int)]) (by repeat first | exact .here _ _ | assumption | apply Pick.there)).drop.drop.drop.drop).pick (A := dskA gd _) (by repeat first | exact .here _ _ | assumption | apply Pick.there)).pick (A := blkA g 107 _) (by repeat first | exact .here _ _ | assumption | apply Pick.there))⟩)
                        | (rw [bsR_8 (b := (⟨f0, 1, ea, r, false⟩ : Bl)) rfl harg hX hA hE1 hE2 hE3]; exact ⟨rfl, (((((((hS.pick (A := rowA 5 1 A59 m59 c59 ((recB (bsX t v)).map bv)) (by repeat first | exact .here _ _ | assumption | apply Pick.there)).pick (A := rowA 5 1 A58 (enc t ++ enc (v + 1).toNat).length c58 ((enc t ++ enc (v + 1).toNat).map bv)) (by repeat first | exact .here _ _ | assumption | apply Pick.there)).pick (A := wrA g8 (enc t ++ enc (v + 1).toNat)) (by repeat first | exact .here _ _ | assumption | apply Pick.there)).pick (A := blkA g7 105 [.int .u64 (((bsX t v)).1 : Int), .int .u64 (((bsX t v)).2 : Int)]) (by repeat first | exact .here _ _ | assumption | apply Pick.there)).drop.drop.drop.drop).pick (A := dskA gd _) (by repeat first | exact .here _ _ | assumption | apply Pick.there)).pick (A := blkA g 107 _) (by repeat first | exact .here _ _ | assumption | apply Pick.there))⟩)
              · intro hc22
                have hc22d := of_decide_eq_false hc22
                have hL : ¬ bsL d (⟨f0, 1, ea, r, false⟩ : Bl) := by show ¬ ea ≤ ((d.F (f0 + 1).toNat).1.length : Int); omega
                have hC : bsC d (⟨f0, 1, ea, r, false⟩ : Bl) = 1 := by unfold bsC; rw [if_neg hL]
                have hM : bsM d (⟨f0, 1, ea, r, false⟩ : Bl) = f0 + 1 := by unfold bsM; rw [hC]
                have hE1 : bsE1 d (⟨f0, 1, ea, r, false⟩ : Bl) = 0 := by unfold bsE1; rw [if_neg hL]
                have hD1 : bsD1 d (⟨f0, 1, ea, r, false⟩ : Bl) = d := by unfold bsD1; rw [if_neg hL]
                replace hS := (hS.pick (A := dskA gd d) (by repeat first | exact .here _ _ | assumption | apply Pick.there)).recast (congrArg (dskA gd) hD1.symm)
                refine c_skip ?_
                refine c_seq ?_
                refine c_draw ?_
                refine d_quiet 10 [0, 1, 2, 3, 4, 5, 6, 7, 8, 9] [0, 1, 2, 3, 4, 5, 6, 7, 8, 9] hS rfl (by kernel_rfl) (by kernel_rfl) (by kernel_rfl) (by kernel_rfl) (fun hap hsel w hS => ?_)
                refine p_q hap hsel 0 rfl rfl hS (fun w hS => q_mv (.pointer _) rfl) ?_
                refine p_q hap hsel 1 rfl rfl hS (fun w hS => q_mv (.pointer _) rfl) ?_
                refine p_q hap hsel 2 rfl rfl hS (fun w hS => q_nilCheck rfl) ?_
                refine p_q hap hsel 3 rfl rfl hS (fun w hS => q_fieldAddr 3 Try.runUnderlying107 rfl Try.sizeOf3 (by decide) rfl rfl) ?_
                refine p_q hap hsel 4 rfl rfl hS (fun w hS => q_load1 Try.isAgg3 rfl (hS.cell (by repeat first | exact .here _ _ | assumption | apply Pick.there) rfl)) ?_
                refine p_q hap hsel 5 rfl rfl hS (fun w hS => q_nilCheck rfl) ?_
                refine p_q hap hsel 6 rfl rfl hS (fun w hS => q_fieldAddr 1 Try.runUnderlying107 rfl Try.sizeOf73 (by decide) rfl rfl) ?_
                first | refine p_q hap hsel 7 rfl rfl hS (fun w hS => q_arr_nat Try.runUnderlying73 Try.sizeOf3 rfl rfl (by omega)) ?_ | refine p_q hap hsel 7 rfl rfl hS (fun w hS => q_arr Try.runUnderlying73 Try.sizeOf3 rfl rfl (by omega)) ?_
                refine p_q hap hsel 8 rfl rfl hS (fun w hS => (q_cast (v' := .int .i64 (bsM d (⟨f0, 1, ea, r, false⟩ : Bl))) (q_load1 Try.isAgg3 rfl (hS.cell (by repeat first | exact .here _ _ | assumption | apply Pick.there) rfl)) (congrArg (Value.int .i64) hM.symm))) ?_
                refine p_q hap hsel 9 rfl rfl hS (fun w hS => q_as (.int _ _) rfl) ?_
                refine p_end (by kernel_rfl) ?_
                refine c_seq ?_
                refine c_seq ?_
                refine c_region ?_
                refine t_q (q_mv (.pointer _) rfl) ?_
                refine t_q (q_mv (.pointer _) rfl) ?_
                refine t_q (q_nilCheck rfl) ?_
                refine t_q (q_fieldAddr 0 Try.runUnderlying107 rfl Try.sizeOf58 (by decide) rfl rfl) ?_
                refine t_q (q_load1 Try.isAgg58 rfl (hS.cell (by repeat first | exact .here _ _ | assumption | apply Pick.there) rfl)) ?_
                refine t_q (q_mv (.int _ _) rfl) ?_
                refine t_q (q_mv (.slice _ _ _) rfl) ?_
                refine t_call Try.call39 (app_calls (i := bsM d (⟨f0, 1, ea, r, false⟩ : Bl)) (ys := recB (bsX t v)) (((hS.pick (A := rowA 5 1 A59 m59 c59 ((recB (bsX t v)).map bv)) (by repeat first | exact .here _ _ | assumption | apply Pick.there)).pick (A := dskA gd _) (by repeat first | exact .here _ _ | assumption | apply Pick.there))) (.here _ _) hG1 (by omega) (fun w h => h.rowRd (A := A59) (c := c59) (bs := recB (bsX t v)) (.here _ _) hm59) hm59 (by omega)) rfl ?_
                rintro e w ⟨rfl, hS⟩
                refine ⟨_, rfl, ?_⟩
                replace hS : St W w (dskA gd (bsD2 d (⟨f0, 1, ea, r, false⟩ : Bl) (recB (bsX t v))) :: _) := hS
                refine t_call Try.call100 (bdone_calls (e0 := bsE2 d (⟨f0, 1, ea, r, false⟩ : Bl) (recB (bsX t v))) hS (by repeat first | exact .here _ _ | assumption | apply Pick.there)) rfl ?_
                rintro e w ⟨rfl, hS⟩
                refine ⟨_, rfl, ?_⟩
                refine t_q (q_not rfl) ?_
                refine t_q (q_mv (.bool _) rfl) ?_
                refine t_case 126 rfl ?_ ?_
                · intro hg37
                  refine t_no rfl rfl (by rw [(congrArg not (not_back hg37))]; decide) ?_
                  refine t_no rfl rfl (by rw [(congrArg not (not_back hg37))]; decide) ?_
                  refine t_no rfl rfl (by rw [(congrArg not (not_back hg37))]; decide) ?_
                  refine t_no rfl rfl (by rw [(congrArg not (not_back hg37))]; decide) ?_
                  refine t_no rfl rfl (by rw [(congrArg not (not_back hg37))]; decide) ?_
                  refine t_no rfl rfl (by rw [(congrArg not (not_back hg37))]; decide) ?_
                  refine t_no rfl rfl (by rw [(congrArg not (not_back hg37))]; decide) ?_
                  refine t_no rfl rfl (by rw [(congrArg not (not_back hg37))]; decide) ?_
                  refine t_no rfl rfl (by rw [(congrArg not (not_back hg37))]; decide) ?_
                  refine t_q (q_pick_t rfl (congrArg not (not_back hg37))) ?_
                  refine t_nil ?_
                  refine c_cond_t rfl rfl ?_
                  first
                    | (have hE3 : bsE3 d (⟨f0, 1, ea, r, false⟩ : Bl) (recB (bsX t v)) ≠ 0 := of_decide_eq_false (not_back (by assumption) : decide (bsE3 d (⟨f0, 1, ea, r, false⟩ : Bl) (recB (bsX t v)) = 0) = false)
                       replace hS := (hS.pick (A := blkA g 107 _) (by repeat first | exact .here _ _ | assumption | apply Pick.there)).recast (show _ = blkA g 107 [.pointer (some ⟨gd, 0, none⟩), .int .i64 f0, .int .i64 (f0 + 1), .int .i64 (bsC d (⟨f0, 1, ea, r, false⟩ : Bl)), .int .i64 ea, .int .u64 ((r).1 : Int), .int .u64 ((r).2 : Int), .bool true] from by rw [show decide (bsE3 d (⟨f0, 1, ea, r, false⟩ : Bl) (recB (bsX t v)) ≠ 0) = true from by first | exact decide_eq_true hE3 | (rw [hE3]; try rfl)]; try first | rfl | rw [hC]))
                    | (have hE2 : bsE2 d (⟨f0, 1, ea, r, false⟩ : Bl) (recB (bsX t v)) ≠ 0 := of_decide_eq_false (not_back (by assumption) : decide (bsE2 d (⟨f0, 1, ea, r, false⟩ : Bl) (recB (bsX t v)) = 0) = false)
                       replace hS := (hS.pick (A := blkA g 107 _) (by repeat first | exact .here _ _ | assumption | apply Pick.there)).recast (show _ = blkA g 107 [.pointer (some ⟨gd, 0, none⟩), .int .i64 f0, .int .i64 (f0 + 1), .int .i64 (bsC d (⟨f0, 1, ea, r, false⟩ : Bl)), .int .i64 ea, .int .u64 ((r).1 : Int), .int .u64 ((r).2 : Int), .bool true] from by rw [show decide (bsE2 d (⟨f0, 1, ea, r, false⟩ : Bl) (recB (bsX t v)) ≠ 0) = true from by first | exact decide_eq_true hE2 | (rw [hE2]; try rfl)]; try first | rfl | rw [hC]))
                  refine c_seq ?_
                  refine c_region ?_
                  refine t_q (q_assign) ?_
                  refine t_nil ?_
                  refine c_ret ?_
                  refine r_one rfl rfl ?_
                  first
                    | (rw [bsR_1 (b := ⟨f0, 1, ea, r, true⟩) rfl]; exact ⟨rfl, (((hS).pick (A := dskA gd _) (by repeat first | exact .here _ _ | assumption | apply Pick.there)).pick (A := blkA g 107 _) (by repeat first | exact .here _ _ | assumption | apply Pick.there))⟩)
                    | (rw [bsR_2 (b := (⟨f0, 1, ea, r, false⟩ : Bl)) rfl harg]; exact ⟨rfl, (((hS).pick (A := dskA gd _) (by repeat first | exact .here _ _ | assumption | apply Pick.there)).pick (A := blkA g 107 _) (by repeat first | exact .here _ _ | assumption | apply Pick.there))⟩)
                    | (rw [bsR_3 (b := (⟨f0, 1, ea, r, false⟩ : Bl)) rfl harg hX]; exact ⟨rfl, ((((hS.pick (A := blkA g7 105 [.int .u64 (((bsX t v)).1 : Int), .int .u64 (((bsX t v)).2 : Int)]) (by repeat first | exact .here _ _ | assumption | apply Pick.there)).drop).pick (A := dskA gd _) (by repeat first | exact .here _ _ | assumption | apply Pick.there)).pick (A := blkA g 107 _) (by repeat first | exact .here _ _ | assumption | apply Pick.there))⟩)
                    | (rw [bsR_4 (b := (⟨f0, 1, ea, r, false⟩ : Bl)) rfl harg hX hA]; exact ⟨rfl, ((((hS.pick (A := blkA g7 105 [.int .u64 (((bsX t v)).1 : Int), .int .u64 (((bsX t v)).2 : Int)]) (by repeat first | exact .here _ _ | assumption | apply Pick.there)).drop).pick (A := dskA gd _) (by repeat first | exact .here _ _ | assumption | apply Pick.there)).pick (A := blkA g 107 _) (by repeat first | exact .here _ _ | assumption | apply Pick.there))⟩)
                    | (rw [bsR_5 (b := (⟨f0, 1, ea, r, false⟩ : Bl)) rfl harg hX hA hE1]; exact ⟨rfl, (((((((hS.pick (A := rowA 5 1 A59 m59 c59 ((recB (bsX t v)).map bv)) (by repeat first | exact .here _ _ | assumption | apply Pick.there)).pick (A := rowA 5 1 A58 (enc t ++ enc (v + 1).toNat).length c58 ((enc t ++ enc (v + 1).toNat).map bv)) (by repeat first | exact .here _ _ | assumption | apply Pick.there)).pick (A := wrA g8 (enc t ++ enc (v + 1).toNat)) (by repeat first | exact .here _ _ | assumption | apply Pick.there)).pick (A := blkA g7 105 [.int .u64 (((bsX t v)).1 : Int), .int .u64 (((bsX t v)).2 : Int)]) (by repeat first | exact .here _ _ | assumption | apply Pick.there)).drop.drop.drop.drop).pick (A := dskA gd _) (by repeat first | exact .here _ _ | assumption | apply Pick.there)).pick (A := blkA g 107 _) (by repeat first | exact .here _ _ | assumption | apply Pick.there))⟩)
                    | (rw [bsR_6 (b := (⟨f0, 1, ea, r, false⟩ : Bl)) rfl harg hX hA hE1 hE2]; exact ⟨rfl, (((((((hS.pick (A := rowA 5 1 A59 m59 c59 ((recB (bsX t v)).map bv)) (by repeat first | exact .here _ _ | assumption | apply Pick.there)).pick (A := rowA 5 1 A58 (enc t ++ enc (v + 1).toNat).length c58 ((enc t ++ enc (v + 1).toNat).map bv)) (by repeat first | exact .here _ _ | assumption | apply Pick.there)).pick (A := wrA g8 (enc t ++ enc (v + 1).toNat)) (by repeat first | exact .here _ _ | assumption | apply Pick.there)).pick (A := blkA g7 105 [.int .u64 (((bsX t v)).1 : Int), .int .u64 (((bsX t v)).2 : Int)]) (by repeat first | exact .here _ _ | assumption | apply Pick.there)).drop.drop.drop.drop).pick (A := dskA gd _) (by repeat first | exact .here _ _ | assumption | apply Pick.there)).pick (A := blkA g 107 _) (by repeat first | exact .here _ _ | assumption | apply Pick.there))⟩)
                    | (rw [bsR_7 (b := (⟨f0, 1, ea, r, false⟩ : Bl)) rfl harg hX hA hE1 hE2 hE3]; exact ⟨rfl, (((((((hS.pick (A := rowA 5 1 A59 m59 c59 ((recB (bsX t v)).map bv)) (by repeat first | exact .here _ _ | assumption | apply Pick.there)).pick (A := rowA 5 1 A58 (enc t ++ enc (v + 1).toNat).length c58 ((enc t ++ enc (v + 1).toNat).map bv)) (by repeat first | exact .here _ _ | assumption | apply Pick.there)).pick (A := wrA g8 (enc t ++ enc (v + 1).toNat)) (by repeat first | exact .here _ _ | assumption | apply Pick.there)).pick (A := blkA g7 105 [.int .u64 (((bsX t v)).1 : Int), .int .u64 (((bsX t v)).2 : Int)]) (by repeat first | exact .here _ _ | assumption | apply Pick.there)).drop.drop.drop.drop).pick (A := dskA gd _) (by repeat first | exact .here _ _ | assumption | apply Pick.there)).pick (A := blkA g 107 _) (by repeat first | exact .here _ _ | assumption | apply Pick.there))⟩)
                    | (rw [bsR_8 (b := (⟨f0, 1, ea, r, false⟩ : Bl)) rfl harg hX hA hE1 hE2 hE3]; exact ⟨rfl, (((((((hS.pick (A := rowA 5 1 A59 m59 c59 ((recB (bsX t v)).map bv)) (by repeat first | exact .here _ _ | assumption | apply Pick.there)).pick (A := rowA 5 1 A58 (enc t ++ enc (v + 1).toNat).length c58 ((enc t ++ enc (v + 1).toNat).map bv)) (by repeat first | exact .here _ _ | assumption | apply Pick.there)).pick (A := wrA g8 (enc t ++ enc (v + 1).toNat)) (by repeat first | exact .here _ _ | assumption | apply Pick.there)).pick (A := blkA g7 105 [.int .u64 (((bsX t v)).1 : Int), .int .u64 (((bsX t v)).2 : Int)]) (by repeat first | exact .here _ _ | assumption | apply Pick.there)).drop.drop.drop.drop).pick (A := dskA gd _) (by repeat first | exact .here _ _ | assumption | apply Pick.there)).pick (A := blkA g 107 _) (by repeat first | exact .here _ _ | assumption | apply Pick.there))⟩)
                · intro hg37
                  refine t_yes rfl rfl (congrArg not (not_back hg37)) ?_
                  refine t_q (q_mv (.pointer _) rfl) ?_
                  have hE2 : bsE2 d (⟨f0, 1, ea, r, false⟩ : Bl) (recB (bsX t v)) = 0 := of_decide_eq_true (not_back (by assumption) : decide (bsE2 d (⟨f0, 1, ea, r, false⟩ : Bl) (recB (bsX t v)) = 0) = true)
                  replace hS := (hS.pick (A := blkA g 107 _) (by repeat first | exact .here _ _ | assumption | apply Pick.there)).recast (show _ = blkA g 107 [.pointer (some ⟨gd, 0, none⟩), .int .i64 f0, .int .i64 (f0 + 1), .int .i64 (bsC d (⟨f0, 1, ea, r, false⟩ : Bl)), .int .i64 ea, .int .u64 ((r).1 : Int), .int .u64 ((r).2 : Int), .bool false] from by rw [show decide (bsE2 d (⟨f0, 1, ea, r, false⟩ : Bl) (recB (bsX t v)) ≠ 0) = false from by rw [hE2]; try rfl]; try first | rfl | rw [hC])
                  refine t_yes rfl rfl (congrArg not (not_back hg37)) ?_
                  refine t_q (q_mv (.pointer _) rfl) ?_
                  refine t_yes rfl rfl (congrArg not (not_back hg37)) ?_
                  refine t_q (q_nilCheck rfl) ?_
                  refine t_yes rfl rfl (congrArg not (not_back hg37)) ?_
                  refine t_q (q_fieldAddr 0 Try.runUnderlying107 rfl Try.sizeOf58 (by decide) rfl rfl) ?_
                  refine t_yes rfl rfl (congrArg not (not_back hg37)) ?_
                  refine t_q (q_load1 Try.isAgg58 rfl (hS.cell (by repeat first | exact .here _ _ | assumption | apply Pick.there) rfl)) ?_
                  refine t_yes rfl rfl (congrArg not (not_back hg37)) ?_
                  refine t_q (q_mv (.int _ _) rfl) ?_
                  refine t_yes rfl rfl (congrArg not (not_back hg37)) ?_
                  refine t_call Try.call43 (syn_calls (i := bsM d (⟨f0, 1, ea, r, false⟩ : Bl)) hS (by repeat first | exact .here _ _ | assumption | apply Pick.there) hG2 (by omega)) rfl ?_
                  rintro e w ⟨rfl, hS⟩
                  refine ⟨_, rfl, ?_⟩
                  replace hS : St W w (dskA gd (bsD3 d (⟨f0, 1, ea, r, false⟩ : Bl) (recB (bsX t v))) :: _) := hS
                  refine t_yes rfl rfl (congrArg not (not_back hg37)) ?_
                  refine t_call Try.call100 (bdone_calls (e0 := bsE3 d (⟨f0, 1, ea, r, false⟩ : Bl) (recB (bsX t v))) hS (by repeat first | exact .here _ _ | assumption | apply Pick.there)) rfl ?_
                  rintro e w ⟨rfl, hS⟩
                  refine ⟨_, rfl, ?_⟩
                  refine t_yes rfl rfl (congrArg not (not_back hg37)) ?_
                  refine t_q (q_not rfl) ?_
                  refine t_q (q_pick_f rfl (congrArg not (not_back hg37))) ?_
                  refine t_nil ?_
                  refine c_cond rfl ?_ ?_
                  · intro hc40
                    first
                      | (have hE3 : bsE3 d (⟨f0, 1, ea, r, false⟩ : Bl) (recB (bsX t v)) ≠ 0 := of_decide_eq_false (not_back (by assumption) : decide (bsE3 d (⟨f0, 1, ea, r, false⟩ : Bl) (recB (bsX t v)) = 0) = false)
                         replace hS := (hS.pick (A := blkA g 107 _) (by repeat first | exact .here _ _ | assumption | apply Pick.there)).recast (show _ = blkA g 107 [.pointer (some ⟨gd, 0, none⟩), .int .i64 f0, .int .i64 (f0 + 1), .int .i64 (bsC d (⟨f0, 1, ea, r, false⟩ : Bl)), .int .i64 ea, .int .u64 ((r).1 : Int), .int .u64 ((r).2 : Int), .bool true] from by rw [show decide (bsE3 d (⟨f0, 1, ea, r, false⟩ : Bl) (recB (bsX t v)) ≠ 0) = true from by first | exact decide_eq_true hE3 | (rw [hE3]; try rfl)]; try first | rfl | rw [hC]))
                      | (have hE2 : bsE2 d (⟨f0, 1, ea, r, false⟩ : Bl) (recB (bsX t v)) ≠ 0 := of_decide_eq_false (not_back (by assumption) : decide (bsE2 d (⟨f0, 1, ea, r, false⟩ : Bl) (recB (bsX t v)) = 0) = false)
                         replace hS := (hS.pick (A := blkA g 107 _) (by repeat first | exact .here _ _ | assumption | apply Pick.there)).recast (show _ = blkA g 107 [.pointer (some ⟨gd, 0, none⟩), .int .i64 f0, .int .i64 (f0 + 1), .int .i64 (bsC d (⟨f0, 1, ea, r, false⟩ : Bl)), .int .i64 ea, .int .u64 ((r).1 : Int), .int .u64 ((r).2 : Int), .bool true] from by rw [show decide (bsE2 d (⟨f0, 1, ea, r, false⟩ : Bl) (recB (bsX t v)) ≠ 0) = true from by first | exact decide_eq_true hE2 | (rw [hE2]; try rfl)]; try first | rfl | rw [hC]))
                    refine c_seq ?_
                    refine c_region ?_
                    refine t_q (q_assign) ?_
                    refine t_nil ?_
                    refine c_ret ?_
                    refine r_one rfl rfl ?_
                    first
                      | (rw [bsR_1 (b := ⟨f0, 1, ea, r, true⟩) rfl]; exact ⟨rfl, (((hS).pick (A := dskA gd _) (by repeat first | exact .here _ _ | assumption | apply Pick.there)).pick (A := blkA g 107 _) (by repeat first | exact .here _ _ | assumption | apply Pick.there))⟩)
                      | (rw [bsR_2 (b := (⟨f0, 1, ea, r, false⟩ : Bl)) rfl harg]; exact ⟨rfl, (((hS).pick (A := dskA gd _) (by repeat first | exact .here _ _ | assumption | apply Pick.there)).pick (A := blkA g 107 _) (by repeat first | exact .here _ _ | assumption | apply Pick.there))⟩)
                      | (rw [bsR_3 (b := (⟨f0, 1, ea, r, false⟩ : Bl)) rfl harg hX]; exact ⟨rfl, ((((hS.pick (A := blkA g7 105 [.int .u64 (((bsX t v)).1 : Int), .int .u64 (((bsX t v)).2 : Int)]) (by repeat first | exact .here _ _ | assumption | apply Pick.there)).drop).pick (A := dskA gd _) (by repeat first | exact .here _ _ | assumption | apply Pick.there)).pick (A := blkA g 107 _) (by repeat first | exact .here _ _ | assumption | apply Pick.there))⟩)
                      | (rw [bsR_4 (b := (⟨f0, 1, ea, r, false⟩ : Bl)) rfl harg hX hA]; exact ⟨rfl, ((((hS.pick (A := blkA g7 105 [.int .u64 (((bsX t v)).1 : Int), .int .u64 (((bsX t v)).2 : Int)]) (by repeat first | exact .here _ _ | assumption | apply Pick.there)).drop).pick (A := dskA gd _) (by repeat first | exact .here _ _ | assumption | apply Pick.there)).pick (A := blkA g 107 _) (by repeat first | exact .here _ _ | assumption | apply Pick.there))⟩)
                      | (rw [bsR_5 (b := (⟨f0, 1, ea, r, false⟩ : Bl)) rfl harg hX hA hE1]; exact ⟨rfl, (((((((hS.pick (A := rowA 5 1 A59 m59 c59 ((recB (bsX t v)).map bv)) (by repeat first | exact .here _ _ | assumption | apply Pick.there)).pick (A := rowA 5 1 A58 (enc t ++ enc (v + 1).toNat).length c58 ((enc t ++ enc (v + 1).toNat).map bv)) (by repeat first | exact .here _ _ | assumption | apply Pick.there)).pick (A := wrA g8 (enc t ++ enc (v + 1).toNat)) (by repeat first | exact .here _ _ | assumption | apply Pick.there)).pick (A := blkA g7 105 [.int .u64 (((bsX t v)).1 : Int), .int .u64 (((bsX t v)).2 : Int)]) (by repeat first | exact .here _ _ | assumption | apply Pick.there)).drop.drop.drop.drop).pick (A := dskA gd _) (by repeat first | exact .here _ _ | assumption | apply Pick.there)).pick (A := blkA g 107 _) (by repeat first | exact .here _ _ | assumption | apply Pick.there))⟩)
                      | (rw [bsR_6 (b := (⟨f0, 1, ea, r, false⟩ : Bl)) rfl harg hX hA hE1 hE2]; exact ⟨rfl, (((((((hS.pick (A := rowA 5 1 A59 m59 c59 ((recB (bsX t v)).map bv)) (by repeat first | exact .here _ _ | assumption | apply Pick.there)).pick (A := rowA 5 1 A58 (enc t ++ enc (v + 1).toNat).length c58 ((enc t ++ enc (v + 1).toNat).map bv)) (by repeat first | exact .here _ _ | assumption | apply Pick.there)).pick (A := wrA g8 (enc t ++ enc (v + 1).toNat)) (by repeat first | exact .here _ _ | assumption | apply Pick.there)).pick (A := blkA g7 105 [.int .u64 (((bsX t v)).1 : Int), .int .u64 (((bsX t v)).2 : Int)]) (by repeat first | exact .here _ _ | assumption | apply Pick.there)).drop.drop.drop.drop).pick (A := dskA gd _) (by repeat first | exact .here _ _ | assumption | apply Pick.there)).pick (A := blkA g 107 _) (by repeat first | exact .here _ _ | assumption | apply Pick.there))⟩)
                      | (rw [bsR_7 (b := (⟨f0, 1, ea, r, false⟩ : Bl)) rfl harg hX hA hE1 hE2 hE3]; exact ⟨rfl, (((((((hS.pick (A := rowA 5 1 A59 m59 c59 ((recB (bsX t v)).map bv)) (by repeat first | exact .here _ _ | assumption | apply Pick.there)).pick (A := rowA 5 1 A58 (enc t ++ enc (v + 1).toNat).length c58 ((enc t ++ enc (v + 1).toNat).map bv)) (by repeat first | exact .here _ _ | assumption | apply Pick.there)).pick (A := wrA g8 (enc t ++ enc (v + 1).toNat)) (by repeat first | exact .here _ _ | assumption | apply Pick.there)).pick (A := blkA g7 105 [.int .u64 (((bsX t v)).1 : Int), .int .u64 (((bsX t v)).2 : Int)]) (by repeat first | exact .here _ _ | assumption | apply Pick.there)).drop.drop.drop.drop).pick (A := dskA gd _) (by repeat first | exact .here _ _ | assumption | apply Pick.there)).pick (A := blkA g 107 _) (by repeat first | exact .here _ _ | assumption | apply Pick.there))⟩)
                      | (rw [bsR_8 (b := (⟨f0, 1, ea, r, false⟩ : Bl)) rfl harg hX hA hE1 hE2 hE3]; exact ⟨rfl, (((((((hS.pick (A := rowA 5 1 A59 m59 c59 ((recB (bsX t v)).map bv)) (by repeat first | exact .here _ _ | assumption | apply Pick.there)).pick (A := rowA 5 1 A58 (enc t ++ enc (v + 1).toNat).length c58 ((enc t ++ enc (v + 1).toNat).map bv)) (by repeat first | exact .here _ _ | assumption | apply Pick.there)).pick (A := wrA g8 (enc t ++ enc (v + 1).toNat)) (by repeat first | exact .here _ _ | assumption | apply Pick.there)).pick (A := blkA g7 105 [.int .u64 (((bsX t v)).1 : Int), .int .u64 (((bsX t v)).2 : Int)]) (by repeat first | exact .here _ _ | assumption | apply Pick.there)).drop.drop.drop.drop).pick (A := dskA gd _) (by repeat first | exact .here _ _ | assumption | apply Pick.there)).pick (A := blkA g 107 _) (by repeat first | exact .here _ _ | assumption | apply Pick.there))⟩)
                  · intro hc40
                    have hE3 : bsE3 d (⟨f0, 1, ea, r, false⟩ : Bl) (recB (bsX t v)) = 0 := of_decide_eq_true (not_back (by assumption) : decide (bsE3 d (⟨f0, 1, ea, r, false⟩ : Bl) (recB (bsX t v)) = 0) = true)
                    replace hS := (hS.pick (A := blkA g 107 _) (by repeat first | exact .here _ _ | assumption | apply Pick.there)).recast (show _ = blkA g 107 [.pointer (some ⟨gd, 0, none⟩), .int .i64 f0, .int .i64 (f0 + 1), .int .i64 (bsC d (⟨f0, 1, ea, r, false⟩ : Bl)), .int .i64 ea, .int .u64 ((r).1 : Int), .int .u64 ((r).2 : Int), .bool false] from by rw [show decide (bsE3 d (⟨f0, 1, ea, r, false⟩ : Bl) (recB (bsX t v)) ≠ 0) = false from by first | exact decide_eq_true hE3 | (rw [hE3]; try rfl)]; try first | rfl | rw [hC])
                    refine c_skip ?_
                    refine c_seq ?_
                    refine c_region ?_
                    refine t_q (q_mv (.pointer _) rfl) ?_
                    refine t_q (q_load_blk Try.isAgg105 Try.sizeOf105 rfl (hS.blk (by repeat first | exact .here _ _ | assumption | apply Pick.there)) rfl) ?_
                    refine t_q (q_nilCheck rfl) ?_
                    refine t_q (q_fieldAddr 5 Try.runUnderlying107 rfl Try.sizeOf105 (by decide) rfl rfl) ?_
                    refine t_store (v := (.agg _)) Try.sizeOf105 hS (by repeat first | exact .here _ _ | assumption | apply Pick.there) rfl rfl rfl rfl rfl rfl (fun w hS => ?_)
                    skip
                    refine t_nil ?_
                    refine c_seq ?_
                    refine c_region ?_
                    refine t_q (q_assign) ?_
                    refine t_nil ?_
                    refine c_ret ?_
                    refine r_one rfl rfl ?_
                    first
                      | (rw [bsR_1 (b := ⟨f0, 1, ea, r, true⟩) rfl]; exact ⟨rfl, (((hS).pick (A := dskA gd _) (by repeat first | exact .here _ _ | assumption | apply Pick.there)).pick (A := blkA g 107 _) (by repeat first | exact .here _ _ | assumption | apply Pick.there))⟩)
                      | (rw [bsR_2 (b := (⟨f0, 1, ea, r, false⟩ : Bl)) rfl harg]; exact ⟨rfl, (((hS).pick (A := dskA gd _) (by repeat first | exact .here _ _ | assumption | apply Pick.there)).pick (A := blkA g 107 _) (by repeat first | exact .here _ _ | assumption | apply Pick.there))⟩)
                      | (rw [bsR_3 (b := (⟨f0, 1, ea, r, false⟩ : Bl)) rfl harg hX]; exact ⟨rfl, ((((hS.pick (A := blkA g7 105 [.int .u64 (((bsX t v)).1 : Int), .int .u64 (((bsX t v)).2 : Int)]) (by repeat first | exact .here _ _ | assumption | apply Pick.there)).drop).pick (A := dskA gd _) (by repeat first | exact .here _ _ | assumption | apply Pick.there)).pick (A := blkA g 107 _) (by repeat first | exact .here _ _ | assumption | apply Pick.there))⟩)
                      | (rw [bsR_4 (b := (⟨f0, 1, ea, r, false⟩ : Bl)) rfl harg hX hA]; exact ⟨rfl, ((((hS.pick (A := blkA g7 105 [.int .u64 (((bsX t v)).1 : Int), .int .u64 (((bsX t v)).2 : Int)]) (by repeat first | exact .here _ _ | assumption | apply Pick.there)).drop).pick (A := dskA gd _) (by repeat first | exact .here _ _ | assumption | apply Pick.there)).pick (A := blkA g 107 _) (by repeat first | exact .here _ _ | assumption | apply Pick.there))⟩)
                      | (rw [bsR_5 (b := (⟨f0, 1, ea, r, false⟩ : Bl)) rfl harg hX hA hE1]; exact ⟨rfl, (((((((hS.pick (A := rowA 5 1 A59 m59 c59 ((recB (bsX t v)).map bv)) (by repeat first | exact .here _ _ | assumption | apply Pick.there)).pick (A := rowA 5 1 A58 (enc t ++ enc (v + 1).toNat).length c58 ((enc t ++ enc (v + 1).toNat).map bv)) (by repeat first | exact .here _ _ | assumption | apply Pick.there)).pick (A := wrA g8 (enc t ++ enc (v + 1).toNat)) (by repeat first | exact .here _ _ | assumption | apply Pick.there)).pick (A := blkA g7 105 [.int .u64 (((bsX t v)).1 : Int), .int .u64 (((bsX t v)).2 : Int)]) (by repeat first | exact .here _ _ | assumption | apply Pick.there)).drop.drop.drop.drop).pick (A := dskA gd _) (by repeat first | exact .here _ _ | assumption | apply Pick.there)).pick (A := blkA g 107 _) (by repeat first | exact .here _ _ | assumption | apply Pick.there))⟩)
                      | (rw [bsR_6 (b := (⟨f0, 1, ea, r, false⟩ : Bl)) rfl harg hX hA hE1 hE2]; exact ⟨rfl, (((((((hS.pick (A := rowA 5 1 A59 m59 c59 ((recB (bsX t v)).map bv)) (by repeat first | exact .here _ _ | assumption | apply Pick.there)).pick (A := rowA 5 1 A58 (enc t ++ enc (v + 1).toNat).length c58 ((enc t ++ enc (v + 1).toNat).map bv)) (by repeat first | exact .here _ _ | assumption | apply Pick.there)).pick (A := wrA g8 (enc t ++ enc (v + 1).toNat)) (by repeat first | exact .here _ _ | assumption | apply Pick.there)).pick (A := blkA g7 105 [.int .u64 (((bsX t v)).1 : Int), .int .u64 (((bsX t v)).2 : Int)]) (by repeat first | exact .here _ _ | assumption | apply Pick.there)).drop.drop.drop.drop).pick (A := dskA gd _) (by repeat first | exact .here _ _ | assumption | apply Pick.there)).pick (A := blkA g 107 _) (by repeat first | exact .here _ _ | assumption | apply Pick.there))⟩)
                      | (rw [bsR_7 (b := (⟨f0, 1, ea, r, false⟩ : Bl)) rfl harg hX hA hE1 hE2 hE3]; exact ⟨rfl, (((((((hS.pick (A := rowA 5 1 A59 m59 c59 ((recB (bsX t v)).map bv)) (by repeat first | exact .here _ _ | assumption | apply Pick.there)).pick (A := rowA 5 1 A58 (enc t ++ enc (v + 1).toNat).length c58 ((enc t ++ enc (v + 1).toNat).map bv)) (by repeat first | exact .here _ _ | assumption | apply Pick.there)).pick (A := wrA g8 (enc t ++ enc (v + 1).toNat)) (by repeat first | exact .here _ _ | assumption | apply Pick.there)).pick (A := blkA g7 105 [.int .u64 (((bsX t v)).1 : Int), .int .u64 (((bsX t v)).2 : Int)]) (by repeat first | exact .here _ _ | assumption | apply Pick.there)).drop.drop.drop.drop).pick (A := dskA gd _) (by repeat first | exact .here _ _ | assumption | apply Pick.there)).pick (A := blkA g 107 _) (by repeat first | exact .here _ _ | assumption | apply Pick.there))⟩)
                      | (rw [bsR_8 (b := (⟨f0, 1, ea, r, false⟩ : Bl)) rfl harg hX hA hE1 hE2 hE3]; exact ⟨rfl, (((((((hS.pick (A := rowA 5 1 A59 m59 c59 ((recB (bsX t v)).map bv)) (by repeat first | exact .here _ _ | assumption | apply Pick.there)).pick (A := rowA 5 1 A58 (enc t ++ enc (v + 1).toNat).length c58 ((enc t ++ enc (v + 1).toNat).map bv)) (by repeat first | exact .here _ _ | assumption | apply Pick.there)).pick (A := wrA g8 (enc t ++ enc (v + 1).toNat)) (by repeat first | exact .here _ _ | assumption | apply Pick.there)).pick (A := blkA g7 105 [.int .u64 (((bsX t v)).1 : Int), .int .u64 (((bsX t v)).2 : Int)]) (by repeat first | exact .here _ _ | assumption | apply Pick.there)).drop.drop.drop.drop).pick (A := dskA gd _) (by repeat first | exact .here _ _ | assumption | apply Pick.there)).pick (A := blkA g 107 _) (by repeat first | exact .here _ _ | assumption | apply Pick.there))⟩)
theorem bsave_calls {w : World} {R : List Asn} {g gd : Nat} {b : Bl} {d : Dk} {t : Nat} {v : Int} (hS : St W w (blA g gd b :: dskA gd d :: R)) (hcn : b.cn = 0 ∨ b.cn = 1) (ht : t < 18446744073709551616) (hv : -9223372036854775808 ≤ v ∧ v ≤ 9223372036854775807) (hr : recOk b.r) (hG : DGood d) (hc : d.calls ≤ 999999000) (hf : 0 ≤ b.f0 ∧ b.f0 ≤ 30) :
  Calls Try.prog 49 #[.pointer (some ⟨g, 0, none⟩), .int .u64 (t : Int), .int .i64 v] w fun e w' => e = .returned (.int .i64 (bsR d b t v).1) ∧ St W w' (blA g gd (bsR d b t v).2.1 :: dskA gd (bsR d b t v).2.2 :: R) := by
  obtain ⟨f0, cn, ea, r, br⟩ := b
  rcases hcn with h | h
  · obtain rfl : cn = 0 := h
    exact bsave_0 hS ht hv hr hG hc hf
  · obtain rfl : cn = 1 := h
    exact bsave_1 hS ht hv hr hG hc hf
end Go.Proofs.Ytlppgpidakfnlaa
