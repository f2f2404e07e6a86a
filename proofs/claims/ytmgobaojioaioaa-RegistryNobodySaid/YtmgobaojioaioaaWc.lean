/- Registries: told, cloned, got, put, dropped. -/
import Derived.Test.YtmgobaojioaioaaWb
import Derived.Test.YtmgobaojioaioaaUb
namespace Go.Proofs.Ytmgobaojioaioaa
open Go Go.RowKit Go.Lib
variable {W : World}
attribute [local irreducible] blkA rowA rdsA mapA regA
set_option maxRecDepth 100000 in
theorem rgnone_calls {w : World} {L R : List Asn} {g r : Nat} (hS : St W w L) (pk : Pick L (blkA g 120 [.map (some r)]) R) : Calls Try.prog 73 #[.pointer (some ⟨g, 0, none⟩)] w fun e w' => e = .returned (.bool false) ∧ St W w' (blkA g 120 [.map (some r)] :: R) := by
  refine calls_of_wpE (args := [_]) Try.func73 rfl rfl rfl ?_
  refine c_seq ?_
  refine c_region ?_
  refine t_q (q_assign) ?_
  refine t_nil ?_
  refine c_seq ?_
  refine c_region ?_
  refine t_q (q_mv (.pointer _) rfl) ?_
  refine t_q (q_eql_ptr_nil Try.runUnderlying29 rfl rfl) ?_
  refine t_q (q_mv (.bool _) rfl) ?_
  refine t_yes rfl rfl rfl ?_
  refine t_q (q_mv (.pointer _) rfl) ?_
  refine t_yes rfl rfl rfl ?_
  refine t_q (q_nilCheck rfl) ?_
  refine t_yes rfl rfl rfl ?_
  refine t_q (q_fieldAddr 0 Try.runUnderlying120 rfl Try.sizeOf118 (by decide) rfl rfl) ?_
  refine t_yes rfl rfl rfl ?_
  refine t_q (q_load1 Try.isAgg118 rfl (hS.cell (by repeat first | exact .here _ _ | assumption | apply Pick.there) rfl)) ?_
  refine t_yes rfl rfl rfl ?_
  refine t_q (q_cast (v' := .bool false) (q_eql_map_nil Try.underlying118 rfl rfl) (by rfl)) ?_
  refine t_q (q_pick_f rfl rfl) ?_
  refine t_q (q_as (.bool _) rfl) ?_
  refine t_nil ?_
  refine c_ret ?_
  refine r_one rfl rfl ?_
  exact ⟨rfl, hS.pick pk⟩
set_option maxRecDepth 100000 in
theorem rgver_calls {w : World} {R : List Asn} {g : Nat} {M : List RuV} {ps : List RdP} (hS : St W w (regA W g M ps :: R)) : Calls Try.prog 63 #[.pointer (some ⟨g, 0, none⟩)] w fun e w' => ∃ A c, e = .returned (.slice A M.length c) ∧ St W w' (rowA 3 1 A M.length c ((M.map (·.version)).map (Value.int .i64)) :: regA W g M ps :: R) := by
  obtain ⟨r, X, hk, hS⟩ := hS.reg
  refine calls_of_wpE (args := [_]) Try.func63 rfl rfl rfl ?_
  refine c_seq ?_
  refine c_region ?_
  refine t_q (q_assign) ?_
  refine t_nil ?_
  refine c_seq ?_
  refine c_seq ?_
  refine c_region ?_
  refine t_q (q_mv (.pointer _) rfl) ?_
  refine t_call Try.call73 (rgnone_calls hS (by repeat first | exact .here _ _ | assumption | apply Pick.there)) rfl ?_
  rintro e w ⟨rfl, hS⟩
  refine ⟨_, rfl, ?_⟩
  refine t_nil ?_
  refine c_cond_f rfl rfl ?_
  refine c_skip ?_
  refine c_seq ?_
  refine c_region ?_
  refine t_q (q_mv (.pointer _) rfl) ?_
  refine t_q (q_nilCheck rfl) ?_
  refine t_q (q_fieldAddr 0 Try.runUnderlying120 rfl Try.sizeOf118 (by decide) rfl rfl) ?_
  refine t_q (q_load1 Try.isAgg118 rfl (hS.cell (by repeat first | exact .here _ _ | assumption | apply Pick.there) rfl)) ?_
  refine t_call Try.call106 (keys_calls hS) rfl ?_
  rintro e w ⟨g9, rfl, hS⟩
  refine ⟨_, rfl, ?_⟩
  refine t_call Try.call105 (sorted_calls hk ((hS.pick (A := mapA .i64 r (X.map rkv)) (by repeat first | exact .here _ _ | assumption | apply Pick.there)).pick (A := blkA g9 118 [.map (some r)]) (by repeat first | exact .here _ _ | assumption | apply Pick.there))) rfl ?_
  rintro e w ⟨A10, c10, rfl, hS⟩
  refine ⟨_, rfl, ?_⟩
  replace hS := (hS.pick (A := blkA g9 118 [.map (some r)]) (by repeat first | exact .here _ _ | assumption | apply Pick.there)).drop
  refine t_q (q_as (.slice _ _ _) rfl) ?_
  refine t_nil ?_
  refine c_ret ?_
  refine r_one rfl rfl ?_
  exact ⟨A10, c10, rfl, (St.unreg hk ((hS.pick (A := mapA .i64 r (X.map rkv)) (by repeat first | exact .here _ _ | assumption | apply Pick.there)).pick (A := blkA g 120 [.map (some r)]) (by repeat first | exact .here _ _ | assumption | apply Pick.there))).pick (A := rowA 3 1 A10 M.length c10 ((M.map (·.version)).map (Value.int .i64))) (by repeat first | exact .here _ _ | assumption | apply Pick.there)⟩
end Go.Proofs.Ytmgobaojioaioaa
