/- Registries: light, like. -/
import Derived.Test.YtmgobaojioaioaaWc
import Derived.Test.YtmgobaojioaioaaWe
import Derived.Test.YtmgobaojioaioaaWb
import Derived.Test.YtmgobaojioaioaaWf
import Derived.Test.YtmgobaojioaioaaUa
namespace Go.Proofs.Ytmgobaojioaioaa
open Go Go.RowKit Go.Lib
variable {W : World}
structure OpG where
  kind : Int
  v : Int
  r : RuV
instance : Inhabited OpG := ⟨⟨0, 0, default⟩⟩
def OpG.cells (x : OpG) : List Value := [.int .i64 x.kind, .int .i64 x.v] ++ (RuV.cells x.r)
structure OpG.Ok (w : World) (x : OpG) : Prop where
  kind : -9223372036854775808 ≤ x.kind ∧ x.kind ≤ 9223372036854775807
  v : -9223372036854775808 ≤ x.v ∧ x.v ≤ 9223372036854775807
  r : (RuV.Ok w) x.r
attribute [local irreducible] blkA rowA rdsA mapA regA wrA rdrA
set_option maxHeartbeats 2000000 in
set_option maxRecDepth 100000 in
theorem rglike_calls {w : World} {R : List Asn} {g q : Nat} {M : List RuV} {ps : List RdP} {A : Option Addr} {c : Nat} {Y : List RuV} (hS : St W w (regA W g M ps :: blkA q 141 [.slice A Y.length c] :: rowA 47 9 A Y.length c (Y.flatMap RuV.cells) :: rdsA ps :: R)) (hM : Y.map nf = M) (hY : ∀ w', St W w' (rdsA ps :: R) → ∀ y ∈ Y, y.Gd w') : Calls Try.prog 62 #[.pointer (some ⟨g, 0, none⟩), .pointer (some ⟨q, 0, none⟩)] w fun e w' => e = .returned (.bool true) ∧ St W w' (regA W g M ps :: blkA q 141 [.slice A Y.length c] :: rowA 47 9 A Y.length c (Y.flatMap RuV.cells) :: rdsA ps :: R) := by
  have hG := St.reg_good hS (by repeat first | exact .here _ _ | assumption | apply Pick.there)
  have hl16 := hG.len
  have hYM : Y.length = M.length := by rw [← hM, List.length_map]
  refine calls_of_wpE (args := [_, _]) Try.func62 rfl rfl rfl ?_
  refine c_seq ?_
  refine c_region ?_
  refine t_q (q_assign) ?_
  refine t_nil ?_
  refine c_seq ?_
  refine c_region ?_
  refine t_q (q_mv (.pointer _) rfl) ?_
  refine t_call Try.call63 (rgver_calls (hS.pick (A := regA W g M ps) (by repeat first | exact .here _ _ | assumption | apply Pick.there))) rfl ?_
  rintro e w ⟨A5, c5, rfl, hS⟩
  refine ⟨_, rfl, ?_⟩
  refine t_q (q_as (.slice _ _ _) rfl) ?_
  refine t_nil ?_
  refine c_seq ?_
  refine c_seq ?_
  refine c_region ?_
  refine t_q (q_mv (.slice _ _ _) rfl) ?_
  refine t_q (q_len_slice Try.runUnderlying59 rfl) ?_
  refine t_q (q_mv (.pointer _) rfl) ?_
  refine t_q (q_nilCheck rfl) ?_
  refine t_q (q_fieldAddr 0 Try.runUnderlying141 rfl Try.sizeOf139 (by decide) rfl rfl) ?_
  refine t_q (q_load1 Try.isAgg139 rfl (hS.cell (by repeat first | exact .here _ _ | assumption | apply Pick.there) rfl)) ?_
  refine t_q (q_len_slice Try.runUnderlying139 rfl) ?_
  refine t_q (q_cast (v' := .bool false) (q_neq rfl rfl) (congrArg Value.bool (decide_eq_false (not_not_intro (by rw [hYM]))))) ?_
  refine t_nil ?_
  refine c_cond_f rfl rfl ?_
  refine c_skip ?_
  refine c_seq ?_
  refine c_seq ?_
  refine c_region ?_
  refine t_q (q_mv (.slice _ _ _) rfl) ?_
  refine t_q (q_len_slice Try.runUnderlying59 rfl) ?_
  refine t_q (q_move) ?_
  refine t_nil ?_
  refine c_block ?_
  refine c_loop [4, 6, 7, 8, 9, 22, 23, 24, 25, 26, 27, 28, 29, 30, 31, 32, 33, 34, 35, 36, 37, 38, 39, 40, 41, 42, 43, 44, 45, 46, 47, 48, 49, 50, 51, 52, 53, 54, 55, 56, 57, 58, 59] (fun k σ w => ∃ j : Nat, σ 22 = .int .i64 (j : Int) ∧ j ≤ M.length ∧ M.length - j ≤ k ∧ St W w (rowA 3 1 A5 M.length c5 ((M.map (·.version)).map (Value.int .i64)) :: regA W g M ps :: blkA q 141 [.slice A Y.length c] :: rowA 47 9 A Y.length c (Y.flatMap RuV.cells) :: rdsA ps :: R)) (M.length) rfl (⟨0, rfl, by omega, by omega, (((((hS.pick (A := rdsA ps) (by repeat first | exact .here _ _ | assumption | apply Pick.there)).pick (A := rowA 47 9 A Y.length c (Y.flatMap RuV.cells)) (by repeat first | exact .here _ _ | assumption | apply Pick.there)).pick (A := blkA q 141 [.slice A Y.length c]) (by repeat first | exact .here _ _ | assumption | apply Pick.there)).pick (A := regA W g M ps) (by repeat first | exact .here _ _ | assumption | apply Pick.there)).pick (A := rowA 3 1 A5 M.length c5 ((M.map (·.version)).map (Value.int .i64))) (by repeat first | exact .here _ _ | assumption | apply Pick.there))⟩) ?_
  skip
  rintro k σ w ⟨j, h22, hj, hk, hS⟩
  refine c_know 22 h22 ?_
  clear h22
  refine c_seq ?_
  refine c_region ?_
  refine t_q (q_lss rfl rfl) ?_
  refine t_nil ?_
  refine c_seq ?_
  refine c_cond rfl ?_ ?_
  · intro hc4
    have hc4d := of_decide_eq_true hc4
    have hvj := ver_getD (M := M) (j := j) (by omega)
    have hMj : M.getD j default = nf (Y.getD j default) := by
      rw [← hM, List.getD_eq_getElem?_getD, List.getElem?_map, List.getD_eq_getElem?_getD, List.getElem?_eq_getElem (by omega)]
      rfl
    have hfs : rgF M ((M.map (·.version)).getD j 0) = some (nf (Y.getD j default)) := by rw [hvj, rgF_some hG.srt (getD_mem (by omega)), hMj]
    have hvy : ((M.map (·.version)).getD j 0) = (Y.getD j default).version := by rw [hvj, hMj]; rfl
    refine c_skip ?_
    refine c_seq ?_
    refine c_block ?_
    refine c_seq ?_
    refine c_region ?_
    refine t_q (q_mv (.int _ _) rfl) ?_
    first | refine t_index_nat Try.runUnderlying59 Try.sizeOf3 (rd_vers hS (by repeat first | exact .here _ _ | assumption | apply Pick.there)) rfl rfl (by omega) (fun ad5 hl5 hx5 => ?_) | refine t_index Try.runUnderlying59 Try.sizeOf3 (rd_vers hS (by repeat first | exact .here _ _ | assumption | apply Pick.there)) rfl rfl (by omega) (fun ad5 hl5 hx5 => ?_)
    refine t_q (q_load1 Try.isAgg3 rfl (hx5 0 _ rfl)) ?_
    refine t_q (q_as (.int _ _) rfl) ?_
    refine t_q (q_as (.int _ _) rfl) ?_
    refine t_nil ?_
    refine c_seq ?_
    refine c_region ?_
    refine t_q (q_mv (.pointer _) rfl) ?_
    refine t_q (q_mv (.int _ _) rfl) ?_
    refine t_call Try.call59 (rgget_calls (v := ((M.map (·.version)).getD j 0)) ((hS.pick (A := rdsA ps) (by repeat first | exact .here _ _ | assumption | apply Pick.there)).pick (A := regA W g M ps) (by repeat first | exact .here _ _ | assumption | apply Pick.there))) rfl ?_
    rintro e w ⟨y, rfl, hny, hby, hS⟩
    refine ⟨_, rfl, ?_⟩
    rw [hfs] at hny
    rw [show (rgF M ((M.map (·.version)).getD j 0)).isSome = true from by rw [hfs]; rfl]
    refine t_q (q_mv (.tuple _) rfl) ?_
    refine t_q (q_extract rfl rfl) ?_
    refine t_q (q_extract rfl rfl) ?_
    refine t_alloc Try.zeroValue47 rfl hS (fun g8 w hS => ?_)
    refine t_store (v := (.agg _)) Try.sizeOf47 hS (by repeat first | exact .here _ _ | assumption | apply Pick.there) rfl rfl rfl rfl rfl rfl (fun w hS => ?_)
    replace hS := hS.recast (congrArg (blkA g8 47) (rset_full (vs := y.cells) rfl))
    replace hS := hS.recast (show _ = blkA g8 47 [.int .i64 y.version, .slice y.ticks.A y.ticks.l.length y.ticks.c, .int .i64 y.lot, .int .i64 y.band, .slice y.fees.A y.fees.l.length y.fees.c, .int .i64 y.round, .int .i64 y.priority, .int .i64 y.self, .int .i64 y.layout] from rfl)
    refine t_q (q_as (.bool _) rfl) ?_
    refine t_nil ?_
    refine c_seq ?_
    refine c_draw ?_
    refine d_keep3 (blkA q 141 [.slice A Y.length c]) (rowA 47 9 A Y.length c (Y.flatMap RuV.cells)) (blkA g8 47 [.int .i64 y.version, .slice y.ticks.A y.ticks.l.length y.ticks.c, .int .i64 y.lot, .int .i64 y.band, .slice y.fees.A y.fees.l.length y.fees.c, .int .i64 y.round, .int .i64 y.priority, .int .i64 y.self, .int .i64 y.layout]) 26 [0, 1, 2, 3, 4, 5, 6, 7, 8, 9, 10, 11, 12, 13, 14, 15, 16, 17, 18, 19, 20, 21, 22, 23, 24, 25] [0, 1, 2, 3, 4, 5, 6, 7, 8, 9, 10, 11, 12, 13, 14, 15, 16, 17, 18, 19, 20, 21, 22, 23, 24, 25] hS rfl (by kernel_rfl) (by kernel_rfl) (by kernel_rfl) (by kernel_rfl) (fun hap hsel w hS => ?_)
    refine p_q hap hsel 0 rfl rfl ⟨_, (((hS.pick (A := blkA g8 47 [.int .i64 y.version, .slice y.ticks.A y.ticks.l.length y.ticks.c, .int .i64 y.lot, .int .i64 y.band, .slice y.fees.A y.fees.l.length y.fees.c, .int .i64 y.round, .int .i64 y.priority, .int .i64 y.self, .int .i64 y.layout]) (by repeat first | exact .here _ _ | assumption | apply Pick.there)).pick (A := rowA 47 9 A Y.length c (Y.flatMap RuV.cells)) (by repeat first | exact .here _ _ | assumption | apply Pick.there)).pick (A := blkA q 141 [.slice A Y.length c]) (by repeat first | exact .here _ _ | assumption | apply Pick.there))⟩ (fun w hI => q_mv (.int _ _) rfl) ?_
    refine p_q hap hsel 1 rfl rfl ⟨_, (((hS.pick (A := blkA g8 47 [.int .i64 y.version, .slice y.ticks.A y.ticks.l.length y.ticks.c, .int .i64 y.lot, .int .i64 y.band, .slice y.fees.A y.fees.l.length y.fees.c, .int .i64 y.round, .int .i64 y.priority, .int .i64 y.self, .int .i64 y.layout]) (by repeat first | exact .here _ _ | assumption | apply Pick.there)).pick (A := rowA 47 9 A Y.length c (Y.flatMap RuV.cells)) (by repeat first | exact .here _ _ | assumption | apply Pick.there)).pick (A := blkA q 141 [.slice A Y.length c]) (by repeat first | exact .here _ _ | assumption | apply Pick.there))⟩ (fun w hI => q_mv (.pointer _) rfl) ?_
    refine p_q hap hsel 2 rfl rfl ⟨_, (((hS.pick (A := blkA g8 47 [.int .i64 y.version, .slice y.ticks.A y.ticks.l.length y.ticks.c, .int .i64 y.lot, .int .i64 y.band, .slice y.fees.A y.fees.l.length y.fees.c, .int .i64 y.round, .int .i64 y.priority, .int .i64 y.self, .int .i64 y.layout]) (by repeat first | exact .here _ _ | assumption | apply Pick.there)).pick (A := rowA 47 9 A Y.length c (Y.flatMap RuV.cells)) (by repeat first | exact .here _ _ | assumption | apply Pick.there)).pick (A := blkA q 141 [.slice A Y.length c]) (by repeat first | exact .here _ _ | assumption | apply Pick.there))⟩ (fun w hI => q_nilCheck rfl) ?_
    refine p_q hap hsel 3 rfl rfl ⟨_, (((hS.pick (A := blkA g8 47 [.int .i64 y.version, .slice y.ticks.A y.ticks.l.length y.ticks.c, .int .i64 y.lot, .int .i64 y.band, .slice y.fees.A y.fees.l.length y.fees.c, .int .i64 y.round, .int .i64 y.priority, .int .i64 y.self, .int .i64 y.layout]) (by repeat first | exact .here _ _ | assumption | apply Pick.there)).pick (A := rowA 47 9 A Y.length c (Y.flatMap RuV.cells)) (by repeat first | exact .here _ _ | assumption | apply Pick.there)).pick (A := blkA q 141 [.slice A Y.length c]) (by repeat first | exact .here _ _ | assumption | apply Pick.there))⟩ (fun w hI => q_fieldAddr 0 Try.runUnderlying141 rfl Try.sizeOf139 (by decide) rfl rfl) ?_
    refine p_q hap hsel 4 rfl rfl ⟨_, (((hS.pick (A := blkA g8 47 [.int .i64 y.version, .slice y.ticks.A y.ticks.l.length y.ticks.c, .int .i64 y.lot, .int .i64 y.band, .slice y.fees.A y.fees.l.length y.fees.c, .int .i64 y.round, .int .i64 y.priority, .int .i64 y.self, .int .i64 y.layout]) (by repeat first | exact .here _ _ | assumption | apply Pick.there)).pick (A := rowA 47 9 A Y.length c (Y.flatMap RuV.cells)) (by repeat first | exact .here _ _ | assumption | apply Pick.there)).pick (A := blkA q 141 [.slice A Y.length c]) (by repeat first | exact .here _ _ | assumption | apply Pick.there))⟩ (fun w hI => q_load1 Try.isAgg139 rfl (hI.choose_spec.cell (by repeat first | exact .here _ _ | assumption | apply Pick.there) rfl)) ?_
    refine p_q hap hsel 5 rfl rfl ⟨_, (((hS.pick (A := blkA g8 47 [.int .i64 y.version, .slice y.ticks.A y.ticks.l.length y.ticks.c, .int .i64 y.lot, .int .i64 y.band, .slice y.fees.A y.fees.l.length y.fees.c, .int .i64 y.round, .int .i64 y.priority, .int .i64 y.self, .int .i64 y.layout]) (by repeat first | exact .here _ _ | assumption | apply Pick.there)).pick (A := rowA 47 9 A Y.length c (Y.flatMap RuV.cells)) (by repeat first | exact .here _ _ | assumption | apply Pick.there)).pick (A := blkA q 141 [.slice A Y.length c]) (by repeat first | exact .here _ _ | assumption | apply Pick.there))⟩ (fun w hI => q_mv (.int _ _) rfl) ?_
    refine p_index hap hsel 6 rfl rfl ⟨_, (((hS.pick (A := blkA g8 47 [.int .i64 y.version, .slice y.ticks.A y.ticks.l.length y.ticks.c, .int .i64 y.lot, .int .i64 y.band, .slice y.fees.A y.fees.l.length y.fees.c, .int .i64 y.round, .int .i64 y.priority, .int .i64 y.self, .int .i64 y.layout]) (by repeat first | exact .here _ _ | assumption | apply Pick.there)).pick (A := rowA 47 9 A Y.length c (Y.flatMap RuV.cells)) (by repeat first | exact .here _ _ | assumption | apply Pick.there)).pick (A := blkA q 141 [.slice A Y.length c]) (by repeat first | exact .here _ _ | assumption | apply Pick.there))⟩ Try.runUnderlying139 Try.sizeOf47 (fun w hI => hI.choose_spec.rowRdL (l := Y) (A := A) (c := c) (by repeat first | exact .here _ _ | assumption | apply Pick.there) rfl (fun _ => rfl)) rfl rfl (by omega) (fun ad9 hl9 hx9 => ?_)
    refine p_q hap hsel 7 rfl rfl ⟨_, (((hS.pick (A := blkA g8 47 [.int .i64 y.version, .slice y.ticks.A y.ticks.l.length y.ticks.c, .int .i64 y.lot, .int .i64 y.band, .slice y.fees.A y.fees.l.length y.fees.c, .int .i64 y.round, .int .i64 y.priority, .int .i64 y.self, .int .i64 y.layout]) (by repeat first | exact .here _ _ | assumption | apply Pick.there)).pick (A := rowA 47 9 A Y.length c (Y.flatMap RuV.cells)) (by repeat first | exact .here _ _ | assumption | apply Pick.there)).pick (A := blkA q 141 [.slice A Y.length c]) (by repeat first | exact .here _ _ | assumption | apply Pick.there))⟩ (fun w hI => q_fieldAddr 0 Try.runUnderlying47 rfl Try.sizeOf3 (by decide) rfl rfl) ?_
    refine p_q hap hsel 8 rfl rfl ⟨_, (((hS.pick (A := blkA g8 47 [.int .i64 y.version, .slice y.ticks.A y.ticks.l.length y.ticks.c, .int .i64 y.lot, .int .i64 y.band, .slice y.fees.A y.fees.l.length y.fees.c, .int .i64 y.round, .int .i64 y.priority, .int .i64 y.self, .int .i64 y.layout]) (by repeat first | exact .here _ _ | assumption | apply Pick.there)).pick (A := rowA 47 9 A Y.length c (Y.flatMap RuV.cells)) (by repeat first | exact .here _ _ | assumption | apply Pick.there)).pick (A := blkA q 141 [.slice A Y.length c]) (by repeat first | exact .here _ _ | assumption | apply Pick.there))⟩ (fun w hI => q_load1 Try.isAgg3 rfl ((hx9 w hI) 0 _ rfl)) ?_
    refine p_q hap hsel 9 rfl rfl ⟨_, (((hS.pick (A := blkA g8 47 [.int .i64 y.version, .slice y.ticks.A y.ticks.l.length y.ticks.c, .int .i64 y.lot, .int .i64 y.band, .slice y.fees.A y.fees.l.length y.fees.c, .int .i64 y.round, .int .i64 y.priority, .int .i64 y.self, .int .i64 y.layout]) (by repeat first | exact .here _ _ | assumption | apply Pick.there)).pick (A := rowA 47 9 A Y.length c (Y.flatMap RuV.cells)) (by repeat first | exact .here _ _ | assumption | apply Pick.there)).pick (A := blkA q 141 [.slice A Y.length c]) (by repeat first | exact .here _ _ | assumption | apply Pick.there))⟩ (fun w hI => (q_cast (v' := .bool false) (q_neq rfl rfl) (congrArg Value.bool (decide_eq_false (not_not_intro hvy))))) ?_
    refine p_q hap hsel 10 rfl rfl ⟨_, (((hS.pick (A := blkA g8 47 [.int .i64 y.version, .slice y.ticks.A y.ticks.l.length y.ticks.c, .int .i64 y.lot, .int .i64 y.band, .slice y.fees.A y.fees.l.length y.fees.c, .int .i64 y.round, .int .i64 y.priority, .int .i64 y.self, .int .i64 y.layout]) (by repeat first | exact .here _ _ | assumption | apply Pick.there)).pick (A := rowA 47 9 A Y.length c (Y.flatMap RuV.cells)) (by repeat first | exact .here _ _ | assumption | apply Pick.there)).pick (A := blkA q 141 [.slice A Y.length c]) (by repeat first | exact .here _ _ | assumption | apply Pick.there))⟩ (fun w hI => q_mv (.bool _) rfl) ?_
    refine p_yes hap hsel 11 rfl rfl ⟨_, (((hS.pick (A := blkA g8 47 [.int .i64 y.version, .slice y.ticks.A y.ticks.l.length y.ticks.c, .int .i64 y.lot, .int .i64 y.band, .slice y.fees.A y.fees.l.length y.fees.c, .int .i64 y.round, .int .i64 y.priority, .int .i64 y.self, .int .i64 y.layout]) (by repeat first | exact .here _ _ | assumption | apply Pick.there)).pick (A := rowA 47 9 A Y.length c (Y.flatMap RuV.cells)) (by repeat first | exact .here _ _ | assumption | apply Pick.there)).pick (A := blkA q 141 [.slice A Y.length c]) (by repeat first | exact .here _ _ | assumption | apply Pick.there))⟩ rfl rfl rfl (fun w hI => q_mv (.bool _) rfl) ?_
    refine p_yes hap hsel 12 rfl rfl ⟨_, (((hS.pick (A := blkA g8 47 [.int .i64 y.version, .slice y.ticks.A y.ticks.l.length y.ticks.c, .int .i64 y.lot, .int .i64 y.band, .slice y.fees.A y.fees.l.length y.fees.c, .int .i64 y.round, .int .i64 y.priority, .int .i64 y.self, .int .i64 y.layout]) (by repeat first | exact .here _ _ | assumption | apply Pick.there)).pick (A := rowA 47 9 A Y.length c (Y.flatMap RuV.cells)) (by repeat first | exact .here _ _ | assumption | apply Pick.there)).pick (A := blkA q 141 [.slice A Y.length c]) (by repeat first | exact .here _ _ | assumption | apply Pick.there))⟩ rfl rfl rfl (fun w hI => (q_cast (v' := .bool false) (q_not rfl) (by rfl))) ?_
    refine p_q hap hsel 13 rfl rfl ⟨_, (((hS.pick (A := blkA g8 47 [.int .i64 y.version, .slice y.ticks.A y.ticks.l.length y.ticks.c, .int .i64 y.lot, .int .i64 y.band, .slice y.fees.A y.fees.l.length y.fees.c, .int .i64 y.round, .int .i64 y.priority, .int .i64 y.self, .int .i64 y.layout]) (by repeat first | exact .here _ _ | assumption | apply Pick.there)).pick (A := rowA 47 9 A Y.length c (Y.flatMap RuV.cells)) (by repeat first | exact .here _ _ | assumption | apply Pick.there)).pick (A := blkA q 141 [.slice A Y.length c]) (by repeat first | exact .here _ _ | assumption | apply Pick.there))⟩ (fun w hI => q_pick_f rfl rfl) ?_
    refine p_q hap hsel 14 rfl rfl ⟨_, (((hS.pick (A := blkA g8 47 [.int .i64 y.version, .slice y.ticks.A y.ticks.l.length y.ticks.c, .int .i64 y.lot, .int .i64 y.band, .slice y.fees.A y.fees.l.length y.fees.c, .int .i64 y.round, .int .i64 y.priority, .int .i64 y.self, .int .i64 y.layout]) (by repeat first | exact .here _ _ | assumption | apply Pick.there)).pick (A := rowA 47 9 A Y.length c (Y.flatMap RuV.cells)) (by repeat first | exact .here _ _ | assumption | apply Pick.there)).pick (A := blkA q 141 [.slice A Y.length c]) (by repeat first | exact .here _ _ | assumption | apply Pick.there))⟩ (fun w hI => q_mv (.bool _) rfl) ?_
    refine p_yes hap hsel 15 rfl rfl ⟨_, (((hS.pick (A := blkA g8 47 [.int .i64 y.version, .slice y.ticks.A y.ticks.l.length y.ticks.c, .int .i64 y.lot, .int .i64 y.band, .slice y.fees.A y.fees.l.length y.fees.c, .int .i64 y.round, .int .i64 y.priority, .int .i64 y.self, .int .i64 y.layout]) (by repeat first | exact .here _ _ | assumption | apply Pick.there)).pick (A := rowA 47 9 A Y.length c (Y.flatMap RuV.cells)) (by repeat first | exact .here _ _ | assumption | apply Pick.there)).pick (A := blkA q 141 [.slice A Y.length c]) (by repeat first | exact .here _ _ | assumption | apply Pick.there))⟩ rfl rfl rfl (fun w hI => (q_cast (v' := .agg y.cells.toArray) (q_load_blk Try.isAgg47 Try.sizeOf47 rfl (hI.choose_spec.blk (by repeat first | exact .here _ _ | assumption | apply Pick.there)) rfl) (by rfl))) ?_
    refine p_yes hap hsel 16 rfl rfl ⟨_, (((hS.pick (A := blkA g8 47 [.int .i64 y.version, .slice y.ticks.A y.ticks.l.length y.ticks.c, .int .i64 y.lot, .int .i64 y.band, .slice y.fees.A y.fees.l.length y.fees.c, .int .i64 y.round, .int .i64 y.priority, .int .i64 y.self, .int .i64 y.layout]) (by repeat first | exact .here _ _ | assumption | apply Pick.there)).pick (A := rowA 47 9 A Y.length c (Y.flatMap RuV.cells)) (by repeat first | exact .here _ _ | assumption | apply Pick.there)).pick (A := blkA q 141 [.slice A Y.length c]) (by repeat first | exact .here _ _ | assumption | apply Pick.there))⟩ rfl rfl rfl (fun w hI => q_mv (.pointer _) rfl) ?_
    refine p_yes hap hsel 17 rfl rfl ⟨_, (((hS.pick (A := blkA g8 47 [.int .i64 y.version, .slice y.ticks.A y.ticks.l.length y.ticks.c, .int .i64 y.lot, .int .i64 y.band, .slice y.fees.A y.fees.l.length y.fees.c, .int .i64 y.round, .int .i64 y.priority, .int .i64 y.self, .int .i64 y.layout]) (by repeat first | exact .here _ _ | assumption | apply Pick.there)).pick (A := rowA 47 9 A Y.length c (Y.flatMap RuV.cells)) (by repeat first | exact .here _ _ | assumption | apply Pick.there)).pick (A := blkA q 141 [.slice A Y.length c]) (by repeat first | exact .here _ _ | assumption | apply Pick.there))⟩ rfl rfl rfl (fun w hI => q_nilCheck rfl) ?_
    refine p_yes hap hsel 18 rfl rfl ⟨_, (((hS.pick (A := blkA g8 47 [.int .i64 y.version, .slice y.ticks.A y.ticks.l.length y.ticks.c, .int .i64 y.lot, .int .i64 y.band, .slice y.fees.A y.fees.l.length y.fees.c, .int .i64 y.round, .int .i64 y.priority, .int .i64 y.self, .int .i64 y.layout]) (by repeat first | exact .here _ _ | assumption | apply Pick.there)).pick (A := rowA 47 9 A Y.length c (Y.flatMap RuV.cells)) (by repeat first | exact .here _ _ | assumption | apply Pick.there)).pick (A := blkA q 141 [.slice A Y.length c]) (by repeat first | exact .here _ _ | assumption | apply Pick.there))⟩ rfl rfl rfl (fun w hI => q_fieldAddr 0 Try.runUnderlying141 rfl Try.sizeOf139 (by decide) rfl rfl) ?_
    refine p_yes hap hsel 19 rfl rfl ⟨_, (((hS.pick (A := blkA g8 47 [.int .i64 y.version, .slice y.ticks.A y.ticks.l.length y.ticks.c, .int .i64 y.lot, .int .i64 y.band, .slice y.fees.A y.fees.l.length y.fees.c, .int .i64 y.round, .int .i64 y.priority, .int .i64 y.self, .int .i64 y.layout]) (by repeat first | exact .here _ _ | assumption | apply Pick.there)).pick (A := rowA 47 9 A Y.length c (Y.flatMap RuV.cells)) (by repeat first | exact .here _ _ | assumption | apply Pick.there)).pick (A := blkA q 141 [.slice A Y.length c]) (by repeat first | exact .here _ _ | assumption | apply Pick.there))⟩ rfl rfl rfl (fun w hI => q_load1 Try.isAgg139 rfl (hI.choose_spec.cell (by repeat first | exact .here _ _ | assumption | apply Pick.there) rfl)) ?_
    refine p_yes hap hsel 20 rfl rfl ⟨_, (((hS.pick (A := blkA g8 47 [.int .i64 y.version, .slice y.ticks.A y.ticks.l.length y.ticks.c, .int .i64 y.lot, .int .i64 y.band, .slice y.fees.A y.fees.l.length y.fees.c, .int .i64 y.round, .int .i64 y.priority, .int .i64 y.self, .int .i64 y.layout]) (by repeat first | exact .here _ _ | assumption | apply Pick.there)).pick (A := rowA 47 9 A Y.length c (Y.flatMap RuV.cells)) (by repeat first | exact .here _ _ | assumption | apply Pick.there)).pick (A := blkA q 141 [.slice A Y.length c]) (by repeat first | exact .here _ _ | assumption | apply Pick.there))⟩ rfl rfl rfl (fun w hI => q_mv (.int _ _) rfl) ?_
    refine p_index_yes hap hsel 21 rfl rfl ⟨_, (((hS.pick (A := blkA g8 47 [.int .i64 y.version, .slice y.ticks.A y.ticks.l.length y.ticks.c, .int .i64 y.lot, .int .i64 y.band, .slice y.fees.A y.fees.l.length y.fees.c, .int .i64 y.round, .int .i64 y.priority, .int .i64 y.self, .int .i64 y.layout]) (by repeat first | exact .here _ _ | assumption | apply Pick.there)).pick (A := rowA 47 9 A Y.length c (Y.flatMap RuV.cells)) (by repeat first | exact .here _ _ | assumption | apply Pick.there)).pick (A := blkA q 141 [.slice A Y.length c]) (by repeat first | exact .here _ _ | assumption | apply Pick.there))⟩ rfl rfl rfl Try.runUnderlying139 Try.sizeOf47 (fun w hI => hI.choose_spec.rowRdL (l := Y) (A := A) (c := c) (by repeat first | exact .here _ _ | assumption | apply Pick.there) rfl (fun _ => rfl)) rfl rfl (by omega) (fun ad11 hl11 hx11 => ?_)
    refine p_yes hap hsel 22 rfl rfl ⟨_, (((hS.pick (A := blkA g8 47 [.int .i64 y.version, .slice y.ticks.A y.ticks.l.length y.ticks.c, .int .i64 y.lot, .int .i64 y.band, .slice y.fees.A y.fees.l.length y.fees.c, .int .i64 y.round, .int .i64 y.priority, .int .i64 y.self, .int .i64 y.layout]) (by repeat first | exact .here _ _ | assumption | apply Pick.there)).pick (A := rowA 47 9 A Y.length c (Y.flatMap RuV.cells)) (by repeat first | exact .here _ _ | assumption | apply Pick.there)).pick (A := blkA q 141 [.slice A Y.length c]) (by repeat first | exact .here _ _ | assumption | apply Pick.there))⟩ rfl rfl rfl (fun w hI => (q_cast (v' := .agg (Y.getD j default).cells.toArray) (q_loadN Try.isAgg47 Try.sizeOf47 rfl hl11 (hx11 w hI)) (by rfl))) ?_
    refine p_one 23 rfl (by kernel_rfl) ?_
    refine t_yes rfl rfl rfl ?_
    refine t_call Try.call61 (qrsame_calls (x := y) (y := (Y.getD j default)) (hby.gd hS (by repeat first | exact .here _ _ | assumption | apply Pick.there)) (hY _ (((((((hS.pick (A := blkA q 141 [.slice A Y.length c]) (by repeat first | exact .here _ _ | assumption | apply Pick.there)).drop.pick (A := rowA 47 9 A Y.length c (Y.flatMap RuV.cells)) (by repeat first | exact .here _ _ | assumption | apply Pick.there)).drop.pick (A := rowA 3 1 A5 M.length c5 ((M.map (·.version)).map (Value.int .i64))) (by repeat first | exact .here _ _ | assumption | apply Pick.there)).drop.pick (A := rdsA (ruP y)) (by repeat first | exact .here _ _ | assumption | apply Pick.there)).drop.pick (A := blkA g8 47 _) (by repeat first | exact .here _ _ | assumption | apply Pick.there)).drop.pick (A := regA W g M ps) (by repeat first | exact .here _ _ | assumption | apply Pick.there)).drop.pick (A := rdsA ps) (by repeat first | exact .here _ _ | assumption | apply Pick.there)) _ (getD_mem (by omega)))) rfl ?_
    rintro e w ⟨rfl, hT⟩
    refine ⟨_, rfl, ?_⟩
    replace hS := hS.after hT
    rw [show decide (y.vw = (Y.getD j default).vw) = true from decide_eq_true (nf_vw (hny.trans rfl))]
    refine t_nil ?_
    refine ⟨.inr ⟨_, (((hS.pick (A := blkA g8 47 [.int .i64 y.version, .slice y.ticks.A y.ticks.l.length y.ticks.c, .int .i64 y.lot, .int .i64 y.band, .slice y.fees.A y.fees.l.length y.fees.c, .int .i64 y.round, .int .i64 y.priority, .int .i64 y.self, .int .i64 y.layout]) (by repeat first | exact .here _ _ | assumption | apply Pick.there)).pick (A := rowA 47 9 A Y.length c (Y.flatMap RuV.cells)) (by repeat first | exact .here _ _ | assumption | apply Pick.there)).pick (A := blkA q 141 [.slice A Y.length c]) (by repeat first | exact .here _ _ | assumption | apply Pick.there))⟩, ?_⟩
    refine p_yes hap hsel 24 rfl rfl ⟨_, (((hS.pick (A := blkA g8 47 [.int .i64 y.version, .slice y.ticks.A y.ticks.l.length y.ticks.c, .int .i64 y.lot, .int .i64 y.band, .slice y.fees.A y.fees.l.length y.fees.c, .int .i64 y.round, .int .i64 y.priority, .int .i64 y.self, .int .i64 y.layout]) (by repeat first | exact .here _ _ | assumption | apply Pick.there)).pick (A := rowA 47 9 A Y.length c (Y.flatMap RuV.cells)) (by repeat first | exact .here _ _ | assumption | apply Pick.there)).pick (A := blkA q 141 [.slice A Y.length c]) (by repeat first | exact .here _ _ | assumption | apply Pick.there))⟩ rfl rfl rfl (fun w hI => (q_cast (v' := .bool false) (q_not rfl) (by rfl))) ?_
    refine p_q hap hsel 25 rfl rfl ⟨_, (((hS.pick (A := blkA g8 47 [.int .i64 y.version, .slice y.ticks.A y.ticks.l.length y.ticks.c, .int .i64 y.lot, .int .i64 y.band, .slice y.fees.A y.fees.l.length y.fees.c, .int .i64 y.round, .int .i64 y.priority, .int .i64 y.self, .int .i64 y.layout]) (by repeat first | exact .here _ _ | assumption | apply Pick.there)).pick (A := rowA 47 9 A Y.length c (Y.flatMap RuV.cells)) (by repeat first | exact .here _ _ | assumption | apply Pick.there)).pick (A := blkA q 141 [.slice A Y.length c]) (by repeat first | exact .here _ _ | assumption | apply Pick.there))⟩ (fun w hI => q_pick_f rfl rfl) ?_
    refine p_end (by kernel_rfl) ?_
    refine c_cond_f rfl rfl ?_
    refine c_skip ?_
    refine c_region ?_
    refine t_q (q_add_i64 rfl rfl (by omega)) ?_
    refine t_q (q_mv (.int _ _) rfl) ?_
    refine t_nil ?_
    exact ⟨k - 1, by omega, j + 1, rfl, by omega, by omega, (((((((hS.pick (A := rdsA (ruP y)) (by repeat first | exact .here _ _ | assumption | apply Pick.there)).drop.pick (A := blkA g8 47 _) (by repeat first | exact .here _ _ | assumption | apply Pick.there)).drop.pick (A := rdsA ps) (by repeat first | exact .here _ _ | assumption | apply Pick.there)).pick (A := rowA 47 9 A Y.length c (Y.flatMap RuV.cells)) (by repeat first | exact .here _ _ | assumption | apply Pick.there)).pick (A := blkA q 141 [.slice A Y.length c]) (by repeat first | exact .here _ _ | assumption | apply Pick.there)).pick (A := regA W g M ps) (by repeat first | exact .here _ _ | assumption | apply Pick.there)).pick (A := rowA 3 1 A5 M.length c5 ((M.map (·.version)).map (Value.int .i64))) (by repeat first | exact .here _ _ | assumption | apply Pick.there))⟩
  · intro hc4
    have hc4d := of_decide_eq_false hc4
    refine c_exit ?_
    refine ite_t rfl ?_
    refine c_seq ?_
    refine c_region ?_
    refine t_q (q_assign) ?_
    refine t_nil ?_
    refine c_ret ?_
    refine r_one rfl rfl ?_
    exact ⟨rfl, (((((hS.pick (A := rowA 3 1 A5 M.length c5 ((M.map (·.version)).map (Value.int .i64))) (by repeat first | exact .here _ _ | assumption | apply Pick.there)).drop.pick (A := rdsA ps) (by repeat first | exact .here _ _ | assumption | apply Pick.there)).pick (A := rowA 47 9 A Y.length c (Y.flatMap RuV.cells)) (by repeat first | exact .here _ _ | assumption | apply Pick.there)).pick (A := blkA q 141 [.slice A Y.length c]) (by repeat first | exact .here _ _ | assumption | apply Pick.there)).pick (A := regA W g M ps) (by repeat first | exact .here _ _ | assumption | apply Pick.there))⟩
end Go.Proofs.Ytmgobaojioaioaa
