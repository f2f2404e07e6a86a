/- The chapter's example of acks. -/
import Derived.Test.YtcikoealneldkaaAo
namespace Go.Proofs.Ytcikoealneldkaa
open Go Go.RowKit Go.Lib
variable {W : World}
theorem new_in {n : Int} (h : 1 ≤ n ∧ n ≤ 7) : Calls Try.prog 30 #[.int .i64 n] W fun e w' => e = .returned (.tuple #[.agg (tcs n (fun _ => 0)).toArray, .int .i64 0]) ∧ St W w' [] := by
  have := new_calls (W := W) (n := n)
  rw [if_pos h, if_pos h] at this
  exact this
theorem new_out {n : Int} (h : ¬ (1 ≤ n ∧ n ≤ 7)) : Calls Try.prog 30 #[.int .i64 n] W fun e w' => e = .returned (.tuple #[.agg (tcs 0 (fun _ => 0)).toArray, .int .i64 2]) ∧ St W w' [] := by
  have := new_calls (W := W) (n := n)
  rw [if_neg h, if_neg h] at this
  exact this
theorem add_in {n r v : Int} {s : Nat → Int} (hn : n ≤ 7) (hs : Sb s) (h : (0 ≤ r ∧ r < n) ∧ (1 ≤ v ∧ v ≤ 32)) : Calls Try.prog 35 #[.agg (tcs n s).toArray, .int .i64 r, .int .i64 v] W fun e w' => e = .returned (.tuple #[.agg (tcs n (addT s r v)).toArray, .int .i64 0]) ∧ St W w' [] := by
  have := add_calls (W := W) (r := r) (v := v) hn hs
  rw [if_pos h, if_pos h] at this
  exact this
theorem add_out {n r v : Int} {s : Nat → Int} (hn : n ≤ 7) (hs : Sb s) (h : ¬ ((0 ≤ r ∧ r < n) ∧ (1 ≤ v ∧ v ≤ 32))) : Calls Try.prog 35 #[.agg (tcs n s).toArray, .int .i64 r, .int .i64 v] W fun e w' => e = .returned (.tuple #[.agg (tcs n s).toArray, .int .i64 2]) ∧ St W w' [] := by
  have := add_calls (W := W) (r := r) (v := v) hn hs
  rw [if_neg h, if_neg h] at this
  exact this
theorem zero_b : Sb (fun _ => 0) := fun _ => (show (0 : Int) ≤ 0 ∧ (0 : Int) < 4294967296 by decide)

set_option maxRecDepth 100000 in
theorem alives_calls : Calls Try.prog 29 #[] W fun e w' => e = .returned (.bool true) ∧ St W w' [] := by
  have hS := St.init W
  refine calls_of_wpE (args := []) Try.func29 rfl rfl rfl ?_
  refine c_seq ?_
  refine c_region ?_
  refine t_q (q_assign) ?_
  refine t_nil ?_
  refine c_seq ?_
  refine c_region ?_
  refine t_call Try.call30 (new_in (by omega)) rfl ?_
  rintro e w ⟨rfl, hT⟩
  refine ⟨_, rfl, ?_⟩
  replace hS := hS.after hT
  refine t_q (q_mv (.tuple _) rfl) ?_
  refine t_q (q_extract rfl rfl) ?_
  refine t_q (q_extract rfl rfl) ?_
  refine t_alloc Try.zeroValue27 rfl hS (fun g1 w hS => ?_)
  refine t_store (v := (.agg _)) Try.sizeOf27 hS (by repeat first | exact .here _ _ | assumption | apply Pick.there) rfl rfl rfl rfl rfl rfl (fun w hS => ?_)
  replace hS := hS.recast (show blkA g1 27 _ = blkA g1 27 (tcs 2 (fun _ => 0)) from rfl)
  refine t_q (q_as (.int _ _) rfl) ?_
  refine t_nil ?_
  refine c_seq ?_
  refine c_region ?_
  refine t_q (q_load_blk Try.isAgg27 Try.sizeOf27 rfl (hS.blk (by repeat first | exact .here _ _ | assumption | apply Pick.there)) rfl) ?_
  refine t_call Try.call35 (add_in (by omega) zero_b (by omega)) rfl ?_
  rintro e w ⟨rfl, hT⟩
  refine ⟨_, rfl, ?_⟩
  replace hS := hS.after hT
  refine t_q (q_mv (.tuple _) rfl) ?_
  refine t_q (q_extract rfl rfl) ?_
  refine t_q (q_extract rfl rfl) ?_
  refine t_store (v := (.agg _)) Try.sizeOf27 hS (by repeat first | exact .here _ _ | assumption | apply Pick.there) rfl rfl rfl rfl rfl rfl (fun w hS => ?_)
  replace hS := hS.recast (show blkA g1 27 _ = blkA g1 27 (tcs 2 (addT (fun _ => 0) 0 3)) from rfl)
  refine t_q (q_as (.int _ _) rfl) ?_
  refine t_nil ?_
  refine c_seq ?_
  refine c_region ?_
  refine t_q (q_load_blk Try.isAgg27 Try.sizeOf27 rfl (hS.blk (by repeat first | exact .here _ _ | assumption | apply Pick.there)) rfl) ?_
  refine t_call Try.call32 (all_calls (by omega) (addT_b zero_b 0 3)) rfl ?_
  rintro e w ⟨rfl, hT⟩
  refine ⟨_, rfl, ?_⟩
  replace hS := hS.after hT
  refine t_q (q_as (.bool _) rfl) ?_
  refine t_nil ?_
  refine c_seq ?_
  refine c_region ?_
  refine t_q (q_load_blk Try.isAgg27 Try.sizeOf27 rfl (hS.blk (by repeat first | exact .here _ _ | assumption | apply Pick.there)) rfl) ?_
  refine t_call Try.call35 (add_in (by omega) (addT_b zero_b 0 3) (by omega)) rfl ?_
  rintro e w ⟨rfl, hT⟩
  refine ⟨_, rfl, ?_⟩
  replace hS := hS.after hT
  refine t_q (q_mv (.tuple _) rfl) ?_
  refine t_q (q_extract rfl rfl) ?_
  refine t_q (q_extract rfl rfl) ?_
  refine t_store (v := (.agg _)) Try.sizeOf27 hS (by repeat first | exact .here _ _ | assumption | apply Pick.there) rfl rfl rfl rfl rfl rfl (fun w hS => ?_)
  replace hS := hS.recast (show blkA g1 27 _ = blkA g1 27 (tcs 2 (addT (addT (fun _ => 0) 0 3) 1 3)) from rfl)
  refine t_q (q_as (.int _ _) rfl) ?_
  refine t_nil ?_
  refine c_seq ?_
  refine c_region ?_
  refine t_q (q_mv (.int _ _) rfl) ?_
  refine t_q (q_cast (v' := .bool true) (q_eql rfl rfl) (by rfl)) ?_
  refine t_q (q_mv (.bool _) rfl) ?_
  refine t_yes rfl rfl rfl ?_
  refine t_q (q_mv (.int _ _) rfl) ?_
  refine t_yes rfl rfl rfl ?_
  refine t_q (q_cast (v' := .bool true) (q_eql rfl rfl) (by rfl)) ?_
  refine t_q (q_pick_t rfl rfl) ?_
  refine t_q (q_mv (.bool _) rfl) ?_
  refine t_yes rfl rfl rfl ?_
  refine t_q (q_mv (.int _ _) rfl) ?_
  refine t_yes rfl rfl rfl ?_
  refine t_q (q_cast (v' := .bool true) (q_eql rfl rfl) (by rfl)) ?_
  refine t_q (q_pick_t rfl rfl) ?_
  refine t_q (q_mv (.bool _) rfl) ?_
  refine t_yes rfl rfl rfl ?_
  refine t_q (q_mv (.bool _) rfl) ?_
  refine t_yes rfl rfl rfl ?_
  refine t_q (q_cast (v' := .bool true) (q_not rfl) (by rfl)) ?_
  refine t_q (q_pick_t rfl rfl) ?_
  refine t_q (q_mv (.bool _) rfl) ?_
  refine t_yes rfl rfl rfl ?_
  refine t_q (q_load_blk Try.isAgg27 Try.sizeOf27 rfl (hS.blk (by repeat first | exact .here _ _ | assumption | apply Pick.there)) rfl) ?_
  refine t_yes rfl rfl rfl ?_
  refine t_call Try.call32 (all_calls (by omega) (addT_b (addT_b zero_b 0 3) 1 3)) rfl ?_
  rintro e w ⟨rfl, hT⟩
  refine ⟨_, rfl, ?_⟩
  replace hS := hS.after hT
  refine t_q (q_cast (v' := .bool true) (q_pick_t rfl rfl) (by rfl)) ?_
  refine t_q (q_mv (.bool _) rfl) ?_
  refine t_yes rfl rfl rfl ?_
  refine t_build_ints [_, _] Try.runUnderlying94 Try.sizeOf3 Try.zeroValue3 rfl rfl (by decide) hS (fun g41 w hS => ?_)
  refine t_yes rfl rfl rfl ?_
  refine t_call Try.call134 (set_calls (hS.rowInts (.here _ _) rfl) (by simp)) rfl ?_
  rintro e w ⟨rfl, hT⟩
  refine ⟨_, rfl, ?_⟩
  replace hS := hS.after hT
  refine t_yes rfl rfl rfl ?_
  refine t_q (q_cast (v' := .bool true) (q_eql rfl rfl) (by rfl)) ?_
  refine t_q (q_pick_t rfl rfl) ?_
  refine t_q (q_as (.bool _) rfl) ?_
  refine t_nil ?_
  refine c_ret ?_
  refine r_one rfl rfl ?_
  exact ⟨rfl, hS.nil⟩
end Go.Proofs.Ytcikoealneldkaa
