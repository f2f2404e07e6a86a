/- Rule sets: when two are the same; copies. -/
import Derived.Test.YtmgobaojioaioaaUc
import Derived.Test.YtmgobaojioaioaaR
namespace Go.Proofs.Ytmgobaojioaioaa
open Go Go.RowKit Go.Lib
variable {W : World}
attribute [local irreducible] blkA rowA
set_option maxRecDepth 100000 in
theorem clt_calls {A : Option Addr} {c : Nat} {l : List Tk} (hR : RdTk W A l) (hm : l.length ≤ 1000000) : Calls Try.prog 123 #[.slice A l.length c] W fun e w' => ∃ A' c', e = .returned (.slice A' l.length c') ∧ St W w' [rowA 168 2 A' l.length c' (l.flatMap Tk.cells)] := by
  have hS := St.init W
  refine calls_of_wpE (args := [_]) Try.func123 rfl rfl rfl ?_
  refine c_seq ?_
  refine c_region ?_
  refine t_q (q_assign) ?_
  refine t_nil ?_
  refine c_seq ?_
  refine c_seq ?_
  refine c_region ?_
  refine t_q (q_mv (.slice _ _ _) rfl) ?_
  refine t_q (q_eql_slice_nil Try.runUnderlying44 rfl rfl) ?_
  refine t_nil ?_
  refine c_cond rfl ?_ ?_
  · intro hc2
    have hb0 : l = [] := by
      cases l with
      | nil => rfl
      | cons x l =>
        obtain ⟨ad, hA, _⟩ := hR (by simp)
        rw [hA] at hc2; cases hc2
    refine c_seq ?_
    refine c_region ?_
    refine t_q (q_assign) ?_
    refine t_nil ?_
    refine c_ret ?_
    refine r_one rfl rfl ?_
    first
      | (subst hb0; exact ⟨none, 0, rfl, (hS.nilrow 168 2).front1⟩)
      | exact ⟨A7, c7, congrArg (fun n => Ending.returned (Value.slice A7 n c7)) (Nat.zero_add _), hS⟩
  · intro hc2
    refine c_skip ?_
    refine c_seq ?_
    refine c_region ?_
    refine t_buildSlice Try.runUnderlying44 Try.sizeOf168 Try.zeroValue168 rfl rfl (by intro v hv; simp at hv; try (first | (subst hv; rfl) | (rcases hv with rfl | rfl <;> rfl))) (by decide) (by decide) hS (fun g5 w hS => ?_)
    refine t_q (q_mv (.slice _ _ _) rfl) ?_
    refine t_append (size := 2) (bytes := 16) Try.underlying44 (info_of Try.type168) rfl rfl rfl rfl (by decide) hS (by repeat first | exact .here _ _ | assumption | apply Pick.there) (hR.st hS) rfl rfl (fun _ _ => rfl) (by unfold maxLen; omega) (by omega) (fun A7 c7 w hS => ?_)
    replace hS := hS.recast (congrArg (rowA 168 2 A7 _ c7) (show _ = l.flatMap Tk.cells from flat_range (cells := Tk.cells) l))
    rw [Nat.zero_add] at hS
    refine t_q (q_as (.slice _ _ _) rfl) ?_
    refine t_nil ?_
    refine c_ret ?_
    refine r_one rfl rfl ?_
    first
      | (subst hb0; exact ⟨none, 0, rfl, (hS.nilrow 168 2).front1⟩)
      | exact ⟨A7, c7, congrArg (fun n => Ending.returned (Value.slice A7 n c7)) (Nat.zero_add _), hS⟩
set_option maxRecDepth 100000 in
theorem clf_calls {A : Option Addr} {c : Nat} {l : List Tr} (hR : RdTr W A l) (hm : l.length ≤ 1000000) : Calls Try.prog 124 #[.slice A l.length c] W fun e w' => ∃ A' c', e = .returned (.slice A' l.length c') ∧ St W w' [rowA 170 3 A' l.length c' (l.flatMap Tr.cells)] := by
  have hS := St.init W
  refine calls_of_wpE (args := [_]) Try.func124 rfl rfl rfl ?_
  refine c_seq ?_
  refine c_region ?_
  refine t_q (q_assign) ?_
  refine t_nil ?_
  refine c_seq ?_
  refine c_seq ?_
  refine c_region ?_
  refine t_q (q_mv (.slice _ _ _) rfl) ?_
  refine t_q (q_eql_slice_nil Try.runUnderlying45 rfl rfl) ?_
  refine t_nil ?_
  refine c_cond rfl ?_ ?_
  · intro hc2
    have hb0 : l = [] := by
      cases l with
      | nil => rfl
      | cons x l =>
        obtain ⟨ad, hA, _⟩ := hR (by simp)
        rw [hA] at hc2; cases hc2
    refine c_seq ?_
    refine c_region ?_
    refine t_q (q_assign) ?_
    refine t_nil ?_
    refine c_ret ?_
    refine r_one rfl rfl ?_
    first
      | (subst hb0; exact ⟨none, 0, rfl, (hS.nilrow 170 3).front1⟩)
      | exact ⟨A7, c7, congrArg (fun n => Ending.returned (Value.slice A7 n c7)) (Nat.zero_add _), hS⟩
  · intro hc2
    refine c_skip ?_
    refine c_seq ?_
    refine c_region ?_
    refine t_buildSlice Try.runUnderlying45 Try.sizeOf170 Try.zeroValue170 rfl rfl (by intro v hv; simp at hv; try (first | (subst hv; rfl) | (rcases hv with rfl | rfl <;> rfl))) (by decide) (by decide) hS (fun g5 w hS => ?_)
    refine t_q (q_mv (.slice _ _ _) rfl) ?_
    refine t_append (size := 3) (bytes := 24) Try.underlying45 (info_of Try.type170) rfl rfl rfl rfl (by decide) hS (by repeat first | exact .here _ _ | assumption | apply Pick.there) (hR.st hS) rfl rfl (fun _ _ => rfl) (by unfold maxLen; omega) (by omega) (fun A7 c7 w hS => ?_)
    replace hS := hS.recast (congrArg (rowA 170 3 A7 _ c7) (show _ = l.flatMap Tr.cells from flat_range (cells := Tr.cells) l))
    rw [Nat.zero_add] at hS
    refine t_q (q_as (.slice _ _ _) rfl) ?_
    refine t_nil ?_
    refine c_ret ?_
    refine r_one rfl rfl ?_
    first
      | (subst hb0; exact ⟨none, 0, rfl, (hS.nilrow 170 3).front1⟩)
      | exact ⟨A7, c7, congrArg (fun n => Ending.returned (Value.slice A7 n c7)) (Nat.zero_add _), hS⟩
def RuV.own (x : RuV) (A : Option Addr) (c : Nat) (B : Option Addr) (d : Nat) : RuV := { x with ticks := ⟨A, c, x.ticks.l⟩, fees := ⟨B, d, x.fees.l⟩ }
theorem RuV.Gd.own {w : World} {x : RuV} {A B : Option Addr} {c d : Nat} (h : x.Gd W) (h1 : RdTk w A x.ticks.l) (h2 : RdTr w B x.fees.l) : (x.own A c B d).Gd w := ⟨h.version, h.lot, h.band, h.round, h.priority, h.self, h.layout, h1, h.tin, h.tle, h2, h.fin, h.fle⟩
set_option maxHeartbeats 1000000 in
set_option maxRecDepth 100000 in
theorem rcopy_calls {x : RuV} (hx : x.Gd W) : Calls Try.prog 75 #[.agg x.cells.toArray] W fun e w' => ∃ A' c' B' d', e = .returned (.agg (x.own A' c' B' d').cells.toArray) ∧ St W w' [rowA 168 2 A' x.ticks.l.length c' (x.ticks.l.flatMap Tk.cells), rowA 170 3 B' x.fees.l.length d' (x.fees.l.flatMap Tr.cells)] := by
  have hS := St.init W
  refine calls_of_wpE (args := [_]) Try.func75 rfl rfl rfl ?_
  refine c_seq ?_
  refine c_region ?_
  refine t_box (v := (.agg _)) rfl rfl hS (fun g1 w hS => ?_)
  replace hS := hS.recast (show _ = blkA g1 47 [.int .i64 x.version, .slice x.ticks.A x.ticks.l.length x.ticks.c, .int .i64 x.lot, .int .i64 x.band, .slice x.fees.A x.fees.l.length x.fees.c, .int .i64 x.round, .int .i64 x.priority, .int .i64 x.self, .int .i64 x.layout] from rfl)
  refine t_alloc Try.zeroValue47 rfl hS (fun g2 w hS => ?_)
  refine t_nil ?_
  refine c_seq ?_
  refine c_draw ?_
  refine d_free 10 [0, 1, 2, 3, 4, 5, 6, 7, 8, 9] [0, 1, 2, 3, 4, 5, 6, 7, 8, 9] hS rfl (by kernel_rfl) (by kernel_rfl) (by kernel_rfl) (by kernel_rfl) (fun hap hsel w hS => ?_)
  refine p_q hap hsel 0 rfl rfl ⟨_, hS⟩ (fun w hI => q_fieldAddr 1 Try.runUnderlying47 rfl Try.sizeOf44 (by decide) rfl rfl) ?_
  refine p_q hap hsel 3 rfl rfl ⟨_, hS⟩ (fun w hI => q_fieldAddr 4 Try.runUnderlying47 rfl Try.sizeOf45 (by decide) rfl rfl) ?_
  refine p_two 1 4 rfl rfl (by kernel_rfl) ?_ ?_
  ·
    refine t_q (q_load1 Try.isAgg44 rfl (hS.cell (by repeat first | exact .here _ _ | assumption | apply Pick.there) rfl)) ?_
    refine t_nil ?_
    refine ⟨.inr ⟨_, hS⟩, ?_⟩
    refine p_two 2 4 rfl rfl (by kernel_rfl) ?_ ?_
    ·
      refine t_call Try.call123 (clt_calls (hx.trd.st hS) hx.tle) rfl ?_
      rintro e w ⟨A5, c5, rfl, hT⟩
      refine ⟨_, rfl, ?_⟩
      have hS : St W w (_ :: _) := hS.lift hT
      refine t_nil ?_
      refine ⟨.inr ⟨_, hS⟩, ?_⟩
      refine p_one 4 rfl (by kernel_rfl) ?_
      refine t_q (q_load1 Try.isAgg45 rfl (hS.cell (by repeat first | exact .here _ _ | assumption | apply Pick.there) rfl)) ?_
      refine t_nil ?_
      refine ⟨.inr ⟨_, hS⟩, ?_⟩
      refine p_q hap hsel 6 rfl rfl ⟨_, hS⟩ (fun w hI => q_fieldAddr 1 Try.runUnderlying47 rfl Try.sizeOf44 (by decide) rfl rfl) ?_
      refine p_one 5 rfl (by kernel_rfl) ?_
      refine t_call Try.call124 (clf_calls (hx.frd.st hS) hx.fle) rfl ?_
      rintro e w ⟨A8, c8, rfl, hT⟩
      refine ⟨_, rfl, ?_⟩
      have hS : St W w (_ :: _) := hS.lift hT
      refine t_nil ?_
      refine ⟨.inr ⟨_, hS⟩, ?_⟩
      refine p_one 7 rfl (by kernel_rfl) ?_
      refine t_store (v := (.slice _ _ _)) Try.sizeOf44 hS (by repeat first | exact .here _ _ | assumption | apply Pick.there) rfl rfl rfl rfl rfl rfl (fun w hS => ?_)
      refine t_nil ?_
      refine ⟨.inr ⟨_, hS⟩, ?_⟩
      refine p_q hap hsel 8 rfl rfl ⟨_, hS⟩ (fun w hI => q_fieldAddr 4 Try.runUnderlying47 rfl Try.sizeOf45 (by decide) rfl rfl) ?_
      refine p_one 9 rfl (by kernel_rfl) ?_
      refine t_store (v := (.slice _ _ _)) Try.sizeOf45 hS (by repeat first | exact .here _ _ | assumption | apply Pick.there) rfl rfl rfl rfl rfl rfl (fun w hS => ?_)
      refine t_nil ?_
      refine ⟨.inl (by kernel_rfl), ?_⟩
      refine p_end (by kernel_rfl) ?_
      refine c_seq ?_
      refine c_region ?_
      refine t_q (q_cast (v' := .agg (x.own A5 c5 A8 c8).cells.toArray) (q_load_blk Try.isAgg47 Try.sizeOf47 rfl (hS.blk (by repeat first | exact .here _ _ | assumption | apply Pick.there)) rfl) (by rfl)) ?_
      refine t_store (v := (.agg _)) Try.sizeOf47 hS (by repeat first | exact .here _ _ | assumption | apply Pick.there) rfl rfl rfl rfl rfl rfl (fun w hS => ?_)
      refine t_nil ?_
      refine c_ret ?_
      refine r_one rfl (res1_cellN Try.isAgg47 Try.sizeOf47 rfl (hS.blk (by repeat first | exact .here _ _ | assumption | apply Pick.there)) rfl) ?_
      exact ⟨A5, c5, A8, c8, rfl, (((hS.pick (A := rowA 170 3 A8 _ c8 _) (by repeat first | exact .here _ _ | assumption | apply Pick.there)).pick (A := rowA 168 2 A5 _ c5 _) (by repeat first | exact .here _ _ | assumption | apply Pick.there))).front2⟩
    ·
      refine t_q (q_load1 Try.isAgg45 rfl (hS.cell (by repeat first | exact .here _ _ | assumption | apply Pick.there) rfl)) ?_
      refine t_nil ?_
      refine ⟨.inr ⟨_, hS⟩, ?_⟩
      refine p_one 2 rfl (by kernel_rfl) ?_
      refine t_call Try.call123 (clt_calls (hx.trd.st hS) hx.tle) rfl ?_
      rintro e w ⟨A5, c5, rfl, hT⟩
      refine ⟨_, rfl, ?_⟩
      have hS : St W w (_ :: _) := hS.lift hT
      refine t_nil ?_
      refine ⟨.inr ⟨_, hS⟩, ?_⟩
      refine p_q hap hsel 6 rfl rfl ⟨_, hS⟩ (fun w hI => q_fieldAddr 1 Try.runUnderlying47 rfl Try.sizeOf44 (by decide) rfl rfl) ?_
      refine p_one 5 rfl (by kernel_rfl) ?_
      refine t_call Try.call124 (clf_calls (hx.frd.st hS) hx.fle) rfl ?_
      rintro e w ⟨A8, c8, rfl, hT⟩
      refine ⟨_, rfl, ?_⟩
      have hS : St W w (_ :: _) := hS.lift hT
      refine t_nil ?_
      refine ⟨.inr ⟨_, hS⟩, ?_⟩
      refine p_one 7 rfl (by kernel_rfl) ?_
      refine t_store (v := (.slice _ _ _)) Try.sizeOf44 hS (by repeat first | exact .here _ _ | assumption | apply Pick.there) rfl rfl rfl rfl rfl rfl (fun w hS => ?_)
      refine t_nil ?_
      refine ⟨.inr ⟨_, hS⟩, ?_⟩
      refine p_q hap hsel 8 rfl rfl ⟨_, hS⟩ (fun w hI => q_fieldAddr 4 Try.runUnderlying47 rfl Try.sizeOf45 (by decide) rfl rfl) ?_
      refine p_one 9 rfl (by kernel_rfl) ?_
      refine t_store (v := (.slice _ _ _)) Try.sizeOf45 hS (by repeat first | exact .here _ _ | assumption | apply Pick.there) rfl rfl rfl rfl rfl rfl (fun w hS => ?_)
      refine t_nil ?_
      refine ⟨.inl (by kernel_rfl), ?_⟩
      refine p_end (by kernel_rfl) ?_
      refine c_seq ?_
      refine c_region ?_
      refine t_q (q_cast (v' := .agg (x.own A5 c5 A8 c8).cells.toArray) (q_load_blk Try.isAgg47 Try.sizeOf47 rfl (hS.blk (by repeat first | exact .here _ _ | assumption | apply Pick.there)) rfl) (by rfl)) ?_
      refine t_store (v := (.agg _)) Try.sizeOf47 hS (by repeat first | exact .here _ _ | assumption | apply Pick.there) rfl rfl rfl rfl rfl rfl (fun w hS => ?_)
      refine t_nil ?_
      refine c_ret ?_
      refine r_one rfl (res1_cellN Try.isAgg47 Try.sizeOf47 rfl (hS.blk (by repeat first | exact .here _ _ | assumption | apply Pick.there)) rfl) ?_
      exact ⟨A5, c5, A8, c8, rfl, (((hS.pick (A := rowA 170 3 A8 _ c8 _) (by repeat first | exact .here _ _ | assumption | apply Pick.there)).pick (A := rowA 168 2 A5 _ c5 _) (by repeat first | exact .here _ _ | assumption | apply Pick.there))).front2⟩
  ·
    refine t_q (q_load1 Try.isAgg45 rfl (hS.cell (by repeat first | exact .here _ _ | assumption | apply Pick.there) rfl)) ?_
    refine t_nil ?_
    refine ⟨.inr ⟨_, hS⟩, ?_⟩
    refine p_one 1 rfl (by kernel_rfl) ?_
    refine t_q (q_load1 Try.isAgg44 rfl (hS.cell (by repeat first | exact .here _ _ | assumption | apply Pick.there) rfl)) ?_
    refine t_nil ?_
    refine ⟨.inr ⟨_, hS⟩, ?_⟩
    refine p_one 2 rfl (by kernel_rfl) ?_
    refine t_call Try.call123 (clt_calls (hx.trd.st hS) hx.tle) rfl ?_
    rintro e w ⟨A5, c5, rfl, hT⟩
    refine ⟨_, rfl, ?_⟩
    have hS : St W w (_ :: _) := hS.lift hT
    refine t_nil ?_
    refine ⟨.inr ⟨_, hS⟩, ?_⟩
    refine p_q hap hsel 6 rfl rfl ⟨_, hS⟩ (fun w hI => q_fieldAddr 1 Try.runUnderlying47 rfl Try.sizeOf44 (by decide) rfl rfl) ?_
    refine p_one 5 rfl (by kernel_rfl) ?_
    refine t_call Try.call124 (clf_calls (hx.frd.st hS) hx.fle) rfl ?_
    rintro e w ⟨A8, c8, rfl, hT⟩
    refine ⟨_, rfl, ?_⟩
    have hS : St W w (_ :: _) := hS.lift hT
    refine t_nil ?_
    refine ⟨.inr ⟨_, hS⟩, ?_⟩
    refine p_one 7 rfl (by kernel_rfl) ?_
    refine t_store (v := (.slice _ _ _)) Try.sizeOf44 hS (by repeat first | exact .here _ _ | assumption | apply Pick.there) rfl rfl rfl rfl rfl rfl (fun w hS => ?_)
    refine t_nil ?_
    refine ⟨.inr ⟨_, hS⟩, ?_⟩
    refine p_q hap hsel 8 rfl rfl ⟨_, hS⟩ (fun w hI => q_fieldAddr 4 Try.runUnderlying47 rfl Try.sizeOf45 (by decide) rfl rfl) ?_
    refine p_one 9 rfl (by kernel_rfl) ?_
    refine t_store (v := (.slice _ _ _)) Try.sizeOf45 hS (by repeat first | exact .here _ _ | assumption | apply Pick.there) rfl rfl rfl rfl rfl rfl (fun w hS => ?_)
    refine t_nil ?_
    refine ⟨.inl (by kernel_rfl), ?_⟩
    refine p_end (by kernel_rfl) ?_
    refine c_seq ?_
    refine c_region ?_
    refine t_q (q_cast (v' := .agg (x.own A5 c5 A8 c8).cells.toArray) (q_load_blk Try.isAgg47 Try.sizeOf47 rfl (hS.blk (by repeat first | exact .here _ _ | assumption | apply Pick.there)) rfl) (by rfl)) ?_
    refine t_store (v := (.agg _)) Try.sizeOf47 hS (by repeat first | exact .here _ _ | assumption | apply Pick.there) rfl rfl rfl rfl rfl rfl (fun w hS => ?_)
    refine t_nil ?_
    refine c_ret ?_
    refine r_one rfl (res1_cellN Try.isAgg47 Try.sizeOf47 rfl (hS.blk (by repeat first | exact .here _ _ | assumption | apply Pick.there)) rfl) ?_
    exact ⟨A5, c5, A8, c8, rfl, (((hS.pick (A := rowA 170 3 A8 _ c8 _) (by repeat first | exact .here _ _ | assumption | apply Pick.there)).pick (A := rowA 168 2 A5 _ c5 _) (by repeat first | exact .here _ _ | assumption | apply Pick.there))).front2⟩
end Go.Proofs.Ytmgobaojioaioaa
