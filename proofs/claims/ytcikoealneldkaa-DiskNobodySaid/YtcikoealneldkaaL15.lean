/- A disk that is nil has nothing, and takes nothing: the walk. -/
import Derived.Test.YtcikoealneldkaaDi
namespace Go.Proofs.Ytcikoealneldkaa
open Go Go.RowKit Go.Lib
variable {W : World}
attribute [local irreducible] blkA rowA rdrA rowC packA fcells qtl dtl dskA qdkA
set_option maxRecDepth 100000 in
theorem DiskNobody_calls {i : Int} {B : Option Addr} {m cm : Nat} : Calls Try.prog 15 #[.int .i64 i, .slice B m cm] W fun e w' => e = .returned (.bool true) ∧ St W w' [] := by
  have hS := St.init W
  refine calls_of_wpE (args := [_, _]) Try.func15 rfl rfl rfl ?_
  refine c_seq ?_
  refine c_region ?_
  refine t_q (q_assign) ?_
  refine t_nil ?_
  refine c_seq ?_
  refine c_region ?_
  refine t_q (q_assign) ?_
  refine t_nil ?_
  refine c_seq ?_
  refine c_region ?_
  refine t_q (q_mv (.pointer _) rfl) ?_
  refine t_call Try.call90 (arm_nil) rfl ?_
  rintro e w ⟨rfl, hT⟩
  refine ⟨_, rfl, ?_⟩
  replace hS := hS.after hT
  refine t_nil ?_
  refine c_seq ?_
  refine c_region ?_
  refine t_q (q_mv (.pointer _) rfl) ?_
  refine t_call Try.call83 (crash_nil) rfl ?_
  rintro e w ⟨rfl, hT⟩
  refine ⟨_, rfl, ?_⟩
  replace hS := hS.after hT
  refine t_nil ?_
  refine c_seq ?_
  refine c_region ?_
  refine t_q (q_mv (.pointer _) rfl) ?_
  refine t_q (q_mv (.int _ _) rfl) ?_
  refine t_q (q_mv (.slice _ _ _) rfl) ?_
  refine t_call Try.call77 (app_nil) rfl ?_
  rintro e w ⟨rfl, hT⟩
  refine ⟨_, rfl, ?_⟩
  replace hS := hS.after hT
  refine t_q (q_cast (v' := .bool true) (q_eql rfl rfl) (by rfl)) ?_
  refine t_q (q_mv (.bool _) rfl) ?_
  refine t_yes rfl rfl rfl ?_
  refine t_q (q_mv (.pointer _) rfl) ?_
  refine t_yes rfl rfl rfl ?_
  refine t_q (q_mv (.int _ _) rfl) ?_
  refine t_yes rfl rfl rfl ?_
  refine t_call Try.call78 (syn_nil) rfl ?_
  rintro e w ⟨rfl, hT⟩
  refine ⟨_, rfl, ?_⟩
  replace hS := hS.after hT
  refine t_yes rfl rfl rfl ?_
  refine t_q (q_cast (v' := .bool true) (q_eql rfl rfl) (by rfl)) ?_
  refine t_q (q_pick_t rfl rfl) ?_
  refine t_q (q_mv (.bool _) rfl) ?_
  refine t_yes rfl rfl rfl ?_
  refine t_q (q_mv (.pointer _) rfl) ?_
  refine t_yes rfl rfl rfl ?_
  refine t_q (q_mv (.int _ _) rfl) ?_
  refine t_yes rfl rfl rfl ?_
  refine t_call Try.call91 (cut_nil) rfl ?_
  rintro e w ⟨rfl, hT⟩
  refine ⟨_, rfl, ?_⟩
  replace hS := hS.after hT
  refine t_yes rfl rfl rfl ?_
  refine t_q (q_cast (v' := .bool true) (q_eql rfl rfl) (by rfl)) ?_
  refine t_q (q_pick_t rfl rfl) ?_
  refine t_q (q_mv (.bool _) rfl) ?_
  refine t_yes rfl rfl rfl ?_
  refine t_q (q_mv (.pointer _) rfl) ?_
  refine t_yes rfl rfl rfl ?_
  refine t_q (q_mv (.int _ _) rfl) ?_
  refine t_yes rfl rfl rfl ?_
  refine t_call Try.call92 (drp_nil) rfl ?_
  rintro e w ⟨rfl, hT⟩
  refine ⟨_, rfl, ?_⟩
  replace hS := hS.after hT
  refine t_yes rfl rfl rfl ?_
  refine t_q (q_cast (v' := .bool true) (q_eql rfl rfl) (by rfl)) ?_
  refine t_q (q_pick_t rfl rfl) ?_
  refine t_q (q_mv (.bool _) rfl) ?_
  refine t_yes rfl rfl rfl ?_
  refine t_q (q_mv (.pointer _) rfl) ?_
  refine t_yes rfl rfl rfl ?_
  refine t_q (q_mv (.int _ _) rfl) ?_
  refine t_yes rfl rfl rfl ?_
  refine t_call Try.call80 (read_nil) rfl ?_
  rintro e w ⟨rfl, hT⟩
  refine ⟨_, rfl, ?_⟩
  replace hS := hS.after hT
  refine t_yes rfl rfl rfl ?_
  refine t_q (q_len_slice Try.runUnderlying48 rfl) ?_
  refine t_yes rfl rfl rfl ?_
  refine t_q (q_mv (.pointer _) rfl) ?_
  refine t_yes rfl rfl rfl ?_
  refine t_q (q_mv (.int _ _) rfl) ?_
  refine t_yes rfl rfl rfl ?_
  refine t_call Try.call93 (size_nil) rfl ?_
  rintro e w ⟨rfl, hT⟩
  refine ⟨_, rfl, ?_⟩
  replace hS := hS.after hT
  refine t_yes rfl rfl rfl ?_
  refine t_q (q_add_i64 rfl rfl (by omega)) ?_
  refine t_yes rfl rfl rfl ?_
  refine t_q (q_mv (.pointer _) rfl) ?_
  refine t_yes rfl rfl rfl ?_
  refine t_q (q_mv (.int _ _) rfl) ?_
  refine t_yes rfl rfl rfl ?_
  refine t_call Try.call81 (sync_nil) rfl ?_
  rintro e w ⟨rfl, hT⟩
  refine ⟨_, rfl, ?_⟩
  replace hS := hS.after hT
  refine t_yes rfl rfl rfl ?_
  refine t_q (q_add_i64 rfl rfl (by omega)) ?_
  refine t_yes rfl rfl rfl ?_
  refine t_q (q_mv (.pointer _) rfl) ?_
  refine t_yes rfl rfl rfl ?_
  refine t_call Try.call94 (calls_nil) rfl ?_
  rintro e w ⟨rfl, hT⟩
  refine ⟨_, rfl, ?_⟩
  replace hS := hS.after hT
  refine t_yes rfl rfl rfl ?_
  refine t_q (q_add_i64 rfl rfl (by omega)) ?_
  refine t_yes rfl rfl rfl ?_
  refine t_q (q_cast (v' := .bool true) (q_eql rfl rfl) (by rfl)) ?_
  refine t_q (q_pick_t rfl rfl) ?_
  refine t_q (q_mv (.bool _) rfl) ?_
  refine t_yes rfl rfl rfl ?_
  refine t_q (q_mv (.pointer _) rfl) ?_
  refine t_yes rfl rfl rfl ?_
  refine t_call Try.call84 (down_nil) rfl ?_
  rintro e w ⟨rfl, hT⟩
  refine ⟨_, rfl, ?_⟩
  replace hS := hS.after hT
  refine t_yes rfl rfl rfl ?_
  refine t_q (q_cast (v' := .bool true) (q_not rfl) (by rfl)) ?_
  refine t_q (q_pick_t rfl rfl) ?_
  refine t_q (q_mv (.bool _) rfl) ?_
  refine t_yes rfl rfl rfl ?_
  refine t_q (q_mv (.pointer _) rfl) ?_
  refine t_yes rfl rfl rfl ?_
  refine t_call Try.call82 (clon_nil) rfl ?_
  rintro e w ⟨rfl, hT⟩
  refine ⟨_, rfl, ?_⟩
  replace hS := hS.after hT
  refine t_yes rfl rfl rfl ?_
  refine t_q (q_eql_ptr_nil Try.runUnderlying88 rfl rfl) ?_
  refine t_q (q_pick_t rfl rfl) ?_
  refine t_q (q_mv (.bool _) rfl) ?_
  refine t_yes rfl rfl rfl ?_
  refine t_call Try.call74 (dlives_calls) rfl ?_
  rintro e w ⟨rfl, hT⟩
  refine ⟨_, rfl, ?_⟩
  replace hS := hS.after hT
  refine t_q (q_pick_t rfl rfl) ?_
  refine t_q (q_as (.bool _) rfl) ?_
  refine t_nil ?_
  refine c_ret ?_
  refine r_one rfl rfl ?_
  exact ⟨rfl, hS.nil⟩
end Go.Proofs.Ytcikoealneldkaa
