/- Any bytes are read as the document's rule set: the walk. -/
import Derived.Test.YtmgobaojioaioaaDoorFf
import Derived.Test.YtmgobaojioaioaaDoorUg
import Derived.Test.YtmgobaojioaioaaDoorUc
import Derived.Test.YtmgobaojioaioaaDoorUd
import Derived.Test.YtmgobaojioaioaaDoorUe
import Derived.Test.YtmgobaojioaioaaDoorCt
namespace Go.Proofs.YtmgobaojioaioaaDoor
open Go Go.RowKit Go.Lib
variable {W : World}
attribute [local irreducible] Rs.nat Rs.int
theorem rt_gd {w : World} {s : Rs} {y : RuV} (h : ∃ A c B d, y = ruT s A c B d) (h1 : RdTk w y.ticks.A y.ticks.l) (h2 : RdTr w y.fees.A y.fees.l) : y.Gd w := by
  obtain ⟨A, c, B, d, e⟩ := h
  cases hb : ruOk s with
  | false =>
    have h3 := (ruT_no (A := A) (B := B) (c := c) (d := d) hb).1
    rw [e, h3]
    exact ruZ_gd
  | true =>
    have h3 := (ruT_yes (A := A) (B := B) (c := c) (d := d) hb).1
    rw [e, h3] at h1 h2 ⊢
    exact ruV_gd h1 h2
attribute [local irreducible] blkA rowA rdsA wrA rdrA ruS ruT ruOk ruB
set_option maxRecDepth 100000 in
theorem rbytes9_calls {x : RuV} (hx : x.Gd W) : Calls Tryd.prog 18 #[.agg x.cells.toArray] W fun e w' => ∃ A c, e = .returned (.slice A (ruB x).length c) ∧ St W w' [rowA 5 1 A (ruB x).length c ((ruB x).map bv)] := by
  have hS := St.init W
  obtain ⟨_, _, _, _, _, hl6⟩ := ru_lens hx
  refine calls_of_wpE (args := [_]) Tryd.func18 rfl rfl rfl ?_
  refine c_seq ?_
  refine c_region ?_
  refine t_box (v := (.agg _)) rfl rfl hS (fun g1 w hS => ?_)
  replace hS := hS.recast (show _ = blkA g1 25 [.int .i64 x.version, .slice x.ticks.A x.ticks.l.length x.ticks.c, .int .i64 x.lot, .int .i64 x.band, .slice x.fees.A x.fees.l.length x.fees.c, .int .i64 x.round, .int .i64 x.priority, .int .i64 x.self, .int .i64 x.layout] from rfl)
  refine t_q (q_assign) ?_
  refine t_nil ?_
  refine c_seq ?_
  refine c_region ?_
  refine t_alloc Tryd.zeroValue46 rfl hS (fun g3 w hS => ?_)
  replace hS := hS.wr0
  refine t_nil ?_
  refine c_seq ?_
  refine c_region ?_
  refine t_q (q_cast (v' := .agg x.cells.toArray) (q_load_blk Tryd.isAgg25 Tryd.sizeOf25 rfl (hS.blk (by repeat first | exact .here _ _ | assumption | apply Pick.there)) rfl) (by rfl)) ?_
  refine t_call Tryd.call19 (rput_calls (x := x) hS (by repeat first | exact .here _ _ | assumption | apply Pick.there) hx (by simp)) rfl ?_
  rintro e w ⟨rfl, hS⟩
  refine ⟨_, rfl, ?_⟩
  replace hS := hS.recast (congrArg (wrA g3) (List.nil_append _))
  refine t_nil ?_
  refine c_seq ?_
  refine c_region ?_
  refine t_call Tryd.call21 (Bytes_calls hS (by repeat first | exact .here _ _ | assumption | apply Pick.there) (by omega)) rfl ?_
  rintro e w ⟨A6, c6, rfl, hc6, hS⟩
  refine ⟨_, rfl, ?_⟩
  refine t_q (q_as (.slice _ _ _) rfl) ?_
  refine t_nil ?_
  refine c_ret ?_
  refine r_one rfl rfl ?_
  exact ⟨A6, c6, rfl, (hS.pick (A := rowA 5 1 A6 (ruB x).length c6 ((ruB x).map bv)) (by repeat first | exact .here _ _ | assumption | apply Pick.there)).front1⟩
end Go.Proofs.YtmgobaojioaioaaDoor
