/- Whatever is done, each call tells what the document says, and the files have that: the walk. -/
import Derived.Test.YtcikoealneldkaaDi
namespace Go.Proofs.Ytcikoealneldkaa
open Go Go.RowKit Go.Lib
variable {W : World}
attribute [local irreducible] blkA rowA rdrA rowC packA fcells qtl dtl dskA qdkA
set_option maxHeartbeats 1000000 in
set_option maxRecDepth 100000 in
theorem DiskPlays_calls {A : Option Addr} {c : Nat} {l : List DskOp} (hl : RdDsk W A l) (hok : ∀ e ∈ l, e.Ok W) (hm : l.length ≤ maxLen) : Calls Try.prog 14 #[.slice A l.length c] W fun e w' => e = .returned (.bool true) ∧ St W w' [] := by
  have hS := St.init W
  refine calls_of_wpE (args := [_]) Try.func14 rfl rfl rfl ?_
  refine c_seq ?_
  refine c_region ?_
  refine t_q (q_assign) ?_
  refine t_nil ?_
  refine c_seq ?_
  refine c_seq ?_
  refine c_region ?_
  refine t_q (q_mv (.slice _ _ _) rfl) ?_
  refine t_call Try.call73 (dlight_calls (hl.st hS) hok hm) rfl ?_
  rintro e w ⟨b10, rfl, hlt, hT⟩
  refine ⟨_, rfl, ?_⟩
  replace hS := hS.after hT
  refine t_q (q_not rfl) ?_
  refine t_nil ?_
  refine c_cond rfl ?_ ?_
  · intro hc2
    refine c_seq ?_
    refine c_region ?_
    refine t_call Try.call74 (dlives_calls) rfl ?_
    rintro e w ⟨rfl, hT⟩
    refine ⟨_, rfl, ?_⟩
    replace hS := hS.after hT
    refine t_q (q_as (.bool _) rfl) ?_
    refine t_nil ?_
    refine c_ret ?_
    refine r_one rfl rfl ?_
    exact ⟨rfl, hS.nil⟩
  · intro hc2
    have hlb : LightB l := hlt (by simpa using hc2)
    have hl100 := hlb.1
    refine c_skip ?_
    refine c_seq ?_
    refine c_region ?_
    refine t_call Try.call75 (dnew_calls hS) rfl ?_
    rintro e w ⟨gp, rfl, hS⟩
    refine ⟨_, rfl, ?_⟩
    refine t_call Try.call76 (qdnew_calls hS) rfl ?_
    rintro e w ⟨gq, rfl, hS⟩
    refine ⟨_, rfl, ?_⟩
    refine t_q (q_as (.pointer _) rfl) ?_
    refine t_q (q_as (.pointer _) rfl) ?_
    refine t_nil ?_
    refine c_seq ?_
    refine c_seq ?_
    refine c_region ?_
    refine t_q (q_mv (.pointer _) rfl) ?_
    refine t_q (q_eql_ptr_nil Try.runUnderlying88 rfl rfl) ?_
    refine t_nil ?_
    refine c_cond_f rfl rfl ?_
    refine c_skip ?_
    refine c_seq ?_
    refine c_seq ?_
    refine c_region ?_
    refine t_q (q_mv (.slice _ _ _) rfl) ?_
    refine t_q (q_len_slice Try.runUnderlying86 rfl) ?_
    refine t_q (q_move) ?_
    refine t_nil ?_
    refine c_block ?_
    refine c_loop [2, 3, 6, 7, 8, 19, 20, 21, 22, 23, 24, 25, 26, 27, 28, 29, 30, 31, 32, 33, 34, 35, 36, 37, 38, 39] (fun k σ w => ∃ (j : Nat) (d : Dk) (gd : Nat), σ 19 = .int .i64 (j : Int) ∧ σ 3 = .pointer (some ⟨gd, 0, none⟩) ∧ j ≤ l.length ∧ l.length - j ≤ k ∧ DGood d ∧ d.calls ≤ j ∧ St W w [dskA gd d, qdkA gq d]) (l.length) rfl (⟨0, D0, gp, rfl, rfl, by omega, by omega, DGood.zero, Int.le_refl 0, ((hS.pick (A := qdkA gq D0) (by repeat first | exact .here _ _ | assumption | apply Pick.there)).pick (A := dskA gp D0) (by repeat first | exact .here _ _ | assumption | apply Pick.there))⟩) ?_
    skip
    rintro k σ w ⟨j, d, gd, h19, h3, hj, hk, hG, hcj, hS⟩
    refine c_know 19 h19 ?_
    refine c_know 3 h3 ?_
    clear h19 h3
    refine c_seq ?_
    refine c_region ?_
    refine t_q (q_lss rfl rfl) ?_
    refine t_nil ?_
    refine c_seq ?_
    refine c_cond rfl ?_ ?_
    · intro hc7
      have hc7d := of_decide_eq_true hc7
      refine c_skip ?_
      refine c_seq ?_
      refine c_block ?_
      refine c_seq ?_
      refine c_region ?_
      first | refine t_index_nat Try.runUnderlying86 Try.sizeOf96 (hl.st hS) rfl rfl (by omega) (fun ad8 hl8 hx8 => ?_) | refine t_index Try.runUnderlying86 Try.sizeOf96 (hl.st hS) rfl rfl (by omega) (fun ad8 hl8 hx8 => ?_)
      refine t_q (q_loadN Try.isAgg96 Try.sizeOf96 rfl hl8 hx8) ?_
      refine t_alloc Try.zeroValue96 rfl hS (fun g6 w hS => ?_)
      refine t_store (v := (.agg _)) Try.sizeOf96 hS (by repeat first | exact .here _ _ | assumption | apply Pick.there) rfl rfl rfl rfl rfl rfl (fun w hS => ?_)
      replace hS := hS.recast (show blkA g6 96 _ = blkA g6 96 (l.getD j default).cells from rfl)
      have hxo : ((l.getD j default)).Ok W := dsk_at hok (by omega)
      have hxn := hxo.n
      obtain ⟨hxb, hxk⟩ := hlb.2 j (by omega)
      have hcle := do_calls_le d (l.getD j default)
      refine t_nil ?_
      refine c_seq ?_
      refine c_region ?_
      refine t_q (q_mv (.pointer _) rfl) ?_
      refine t_q (q_mv (.pointer _) rfl) ?_
      refine t_q (q_load_blk Try.isAgg96 Try.sizeOf96 rfl (hS.blk (by repeat first | exact .here _ _ | assumption | apply Pick.there)) rfl) ?_
      refine t_call Try.call79 (do_calls (((hS.pick (A := qdkA gq d) (by repeat first | exact .here _ _ | assumption | apply Pick.there)).pick (A := dskA gd d) (by repeat first | exact .here _ _ | assumption | apply Pick.there))) hxo hG hG (by omega) (by omega)) rfl ?_
      rintro e w ⟨gN, bN, rfl, hbN, hS⟩
      refine ⟨_, rfl, ?_⟩
      obtain rfl := hbN rfl
      refine t_q (q_mv (.tuple _) rfl) ?_
      refine t_q (q_extract rfl rfl) ?_
      refine t_q (q_extract rfl rfl) ?_
      refine t_q (q_as (.pointer _) rfl) ?_
      refine t_q (q_as (.bool _) rfl) ?_
      refine t_nil ?_
      refine c_seq ?_
      refine c_region ?_
      refine t_q (q_mv (.pointer _) rfl) ?_
      refine t_q (q_as (.pointer _) rfl) ?_
      refine t_nil ?_
      refine c_seq ?_
      refine c_region ?_
      refine t_q (q_mv (.bool _) rfl) ?_
      refine t_q (q_not rfl) ?_
      refine t_q (q_mv (.bool _) rfl) ?_
      refine t_yes rfl rfl rfl ?_
      refine t_q (q_mv (.pointer _) rfl) ?_
      refine t_yes rfl rfl rfl ?_
      refine t_q (q_mv (.pointer _) rfl) ?_
      refine t_yes rfl rfl rfl ?_
      refine t_call Try.call89 (dlike_calls hS (hG.doD hxn)) rfl ?_
      rintro e w ⟨rfl, hS⟩
      refine ⟨_, rfl, ?_⟩
      refine t_yes rfl rfl rfl ?_
      refine t_q (q_not rfl) ?_
      refine t_q (q_pick_f rfl rfl) ?_
      refine t_nil ?_
      refine c_cond_f rfl rfl ?_
      refine c_skip ?_
      refine c_region ?_
      refine t_q (q_add_i64 rfl rfl (by omega)) ?_
      refine t_q (q_mv (.int _ _) rfl) ?_
      refine t_nil ?_
      exact ⟨k - 1, by omega, j + 1, doD d (l.getD j default), gN, rfl, rfl, by omega, by omega, hG.doD hxn, by omega, hS.front2⟩
    · intro hc7
      have hc7d := of_decide_eq_false hc7
      refine c_exit ?_
      refine ite_t rfl ?_
      refine c_seq ?_
      refine c_region ?_
      refine t_call Try.call74 (dlives_calls) rfl ?_
      rintro e w ⟨rfl, hT⟩
      refine ⟨_, rfl, ?_⟩
      replace hS := hS.after hT
      refine t_q (q_as (.bool _) rfl) ?_
      refine t_nil ?_
      refine c_ret ?_
      refine r_one rfl rfl ?_
      exact ⟨rfl, hS.nil⟩
end Go.Proofs.Ytcikoealneldkaa
