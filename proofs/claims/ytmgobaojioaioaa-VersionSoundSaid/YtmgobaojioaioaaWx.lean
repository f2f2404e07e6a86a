/- Registries: nobody. -/
import Derived.Test.YtmgobaojioaioaaWd
import Derived.Test.YtmgobaojioaioaaWe
namespace Go.Proofs.Ytmgobaojioaioaa
open Go Go.RowKit Go.Lib
variable {W : World}
def NoneP (w : World) (p : Option Addr) : Prop := p = none ∨ ∃ g, p = some ⟨g, 0, none⟩ ∧ g < w.heap.size ∧ w.cell? ⟨g, 0, none⟩ = some (.map none)
theorem NoneP.st {W w : World} {Q : List Asn} {p : Option Addr} (h : NoneP W p) (hS : St W w Q) : NoneP w p := by
  rcases h with h | ⟨g, h, hg, hc⟩
  · exact .inl h
  · refine .inr ⟨g, h, Nat.lt_of_lt_of_le hg hS.below.size, ?_⟩
    rw [← hc]
    unfold World.cell?
    rw [hS.below.block g hg]
attribute [local irreducible] blkA rowA rdsA mapA regA
set_option maxRecDepth 100000 in
theorem rgnone_nil : Calls Try.prog 73 #[.pointer none] W fun e w' => e = .returned (.bool true) ∧ St W w' [] := by
  have hS := St.init W
  refine calls_of_wpE (args := [_]) Try.func73 rfl rfl rfl ?_
  refine c_seq ?_
  refine c_region ?_
  refine t_q (q_assign) ?_
  refine t_nil ?_
  refine c_seq ?_
  refine c_region ?_
  refine t_q (q_mv (.pointer _) rfl) ?_
  refine t_q (q_eql_ptr_nil Try.runUnderlying29 rfl rfl) ?_
  refine t_q (q_mv (.bool _) rfl) ?_
  refine t_no rfl rfl (by decide) ?_
  refine t_no rfl rfl (by decide) ?_
  refine t_no rfl rfl (by decide) ?_
  refine t_no rfl rfl (by decide) ?_
  refine t_no rfl rfl (by decide) ?_
  refine t_q (q_pick_t rfl rfl) ?_
  refine t_q (q_as (.bool _) rfl) ?_
  refine t_nil ?_
  refine c_ret ?_
  refine r_one rfl rfl ?_
  exact ⟨rfl, hS.nil⟩
set_option maxRecDepth 100000 in
theorem rgnone_map {g : Nat} (hc : W.cell? ⟨g, 0, none⟩ = some (.map none)) : Calls Try.prog 73 #[.pointer (some ⟨g, 0, none⟩)] W fun e w' => e = .returned (.bool true) ∧ St W w' [] := by
  have hS := St.init W
  refine calls_of_wpE (args := [_]) Try.func73 rfl rfl rfl ?_
  refine c_seq ?_
  refine c_region ?_
  refine t_q (q_assign) ?_
  refine t_nil ?_
  refine c_seq ?_
  refine c_region ?_
  refine t_q (q_mv (.pointer _) rfl) ?_
  refine t_q (q_eql_ptr_nil Try.runUnderlying29 rfl rfl) ?_
  refine t_q (q_mv (.bool _) rfl) ?_
  refine t_yes rfl rfl rfl ?_
  refine t_q (q_mv (.pointer _) rfl) ?_
  refine t_yes rfl rfl rfl ?_
  refine t_q (q_nilCheck rfl) ?_
  refine t_yes rfl rfl rfl ?_
  refine t_q (q_fieldAddr 0 Try.runUnderlying120 rfl Try.sizeOf118 (by decide) rfl rfl) ?_
  refine t_yes rfl rfl rfl ?_
  refine t_q (q_load1 Try.isAgg118 rfl (hc)) ?_
  refine t_yes rfl rfl rfl ?_
  refine t_q (q_cast (v' := .bool true) (q_eql_map_nil Try.underlying118 rfl rfl) (by rfl)) ?_
  refine t_q (q_pick_f rfl rfl) ?_
  refine t_q (q_as (.bool _) rfl) ?_
  refine t_nil ?_
  refine c_ret ?_
  refine r_one rfl rfl ?_
  exact ⟨rfl, hS.nil⟩
theorem rgnone_any {p : Option Addr} (h : NoneP W p) : Calls Try.prog 73 #[.pointer p] W fun e w' => e = .returned (.bool true) ∧ St W w' [] := by
  rcases h with rfl | ⟨g, rfl, _, hc⟩
  · exact rgnone_nil
  · exact rgnone_map hc
set_option maxRecDepth 100000 in
theorem rgget_none {p : Option Addr} {v : Int} (h : NoneP W p) : Calls Try.prog 59 #[.pointer p, .int .i64 v] W fun e w' => e = .returned (.tuple #[.agg ruZ.cells.toArray, .bool false]) ∧ St W w' [] := by
  have hS := St.init W
  refine calls_of_wpE (args := [_, _]) Try.func59 rfl rfl rfl ?_
  refine c_seq ?_
  refine c_region ?_
  refine t_alloc Try.zeroValue47 rfl hS (fun g4 w hS => ?_)
  refine t_q (q_assign) ?_
  refine t_nil ?_
  refine c_seq ?_
  refine c_seq ?_
  refine c_region ?_
  refine t_q (q_mv (.pointer _) rfl) ?_
  refine t_call Try.call73 (rgnone_any (h.st hS)) rfl ?_
  rintro e w ⟨rfl, hT⟩
  refine ⟨_, rfl, ?_⟩
  replace hS := hS.after hT
  refine t_nil ?_
  refine c_cond_t rfl rfl ?_
  refine c_seq ?_
  refine c_region ?_
  refine t_q (q_build (qs := [(0, 1), (1, 1), (2, 1), (3, 1), (4, 1), (5, 1), (6, 1), (7, 1), (8, 1)]) [(.int _ _), (.slice _ _ _), (.int _ _), (.int _ _), (.slice _ _ _), (.int _ _), (.int _ _), (.int _ _), (.int _ _)] Try.zeroValue47 Try.runUnderlying47 ⟨rfl, Try.sizeOf3, rfl, Try.sizeOf44, rfl, Try.sizeOf2, rfl, Try.sizeOf2, rfl, Try.sizeOf45, rfl, Try.sizeOf3, rfl, Try.sizeOf3, rfl, Try.sizeOf3, rfl, Try.sizeOf3, trivial⟩ rfl rfl) ?_
  refine t_store (v := (.agg _)) Try.sizeOf47 hS (by repeat first | exact .here _ _ | assumption | apply Pick.there) rfl rfl rfl rfl rfl rfl (fun w hS => ?_)
  replace hS := hS.recast (congrArg (blkA g4 47) (rset_full (vs := ruZ.cells) rfl))
  refine t_q (q_assign) ?_
  refine t_nil ?_
  refine c_ret ?_
  refine r_two rfl (res1_cellN Try.isAgg47 Try.sizeOf47 rfl (hS.blk (by repeat first | exact .here _ _ | assumption | apply Pick.there)) rfl) rfl ?_
  exact ⟨rfl, hS.nil⟩
end Go.Proofs.Ytmgobaojioaioaa
