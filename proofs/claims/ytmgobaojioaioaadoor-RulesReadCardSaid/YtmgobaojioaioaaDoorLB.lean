/- Any bytes are read as the document's rule set: the walk. -/
import Derived.Test.YtmgobaojioaioaaDoorFe
import Derived.Test.YtmgobaojioaioaaDoorUc
import Derived.Test.YtmgobaojioaioaaDoorUg
import Derived.Test.YtmgobaojioaioaaDoorUh
import Derived.Test.YtmgobaojioaioaaDoorUd
import Derived.Test.YtmgobaojioaioaaDoorUe
import Derived.Test.YtmgobaojioaioaaDoorCt
namespace Go.Proofs.YtmgobaojioaioaaDoor
open Go Go.RowKit Go.Lib
variable {W : World}
attribute [local irreducible] Rs.nat Rs.int
theorem rt_gd {w : World} {s : Rs} {y : RuV} (h : ∃ A c B d, y = ruT s A c B d) (h1 : RdTk w y.ticks.A y.ticks.l) (h2 : RdTr w y.fees.A y.fees.l) : y.Gd w := by
  obtain ⟨A, c, B, d, e⟩ := h
  cases hb : ruOk s with
  | false =>
    have h3 := (ruT_no (A := A) (B := B) (c := c) (d := d) hb).1
    rw [e, h3]
    exact ruZ_gd
  | true =>
    have h3 := (ruT_yes (A := A) (B := B) (c := c) (d := d) hb).1
    rw [e, h3] at h1 h2 ⊢
    exact ruV_gd h1 h2
set_option maxHeartbeats 1000000 in
theorem rt_vw {s : Rs} {y z : RuV} (hy : ∃ A c B d, y = ruT s A c B d) (hz : ∃ A c B d, z = ruT s A c B d) : y.vw = z.vw := by
  obtain ⟨A, c, B, d, rfl⟩ := hy
  obtain ⟨A', c', B', d', rfl⟩ := hz
  unfold ruT
  cases ruOk s <;> rfl
theorem read_take {bs : List UInt8} (h : ruOk ⟨bs, false⟩ = true) : (ruS ⟨bs, false⟩).left.length ≤ bs.length ∧ ∀ y : RuV, (∃ A c B d, y = ruT ⟨bs, false⟩ A c B d) → bs.take (bs.length - (ruS ⟨bs, false⟩).left.length) = ruB y := by
  have hb : (q10 ⟨bs, false⟩).2.bad = false := by
    unfold ruOk at h
    cases hq : (q10 ⟨bs, false⟩).2.bad with
    | false => rfl
    | true => rw [hq] at h; cases h
  have h2 := (ruT_yes (A := none) (c := 0) (B := none) (d := 0) h).2
  have h3 := (ruV_only (s := ⟨bs, false⟩) none 0 none 0 hb).1
  rw [h2]
  have h4 : bs = ruB (ruV ⟨bs, false⟩ none 0 none 0) ++ (q10 ⟨bs, false⟩).2.left := h3
  have h5 := congrArg List.length h4
  rw [List.length_append] at h5
  refine ⟨by omega, fun y hy => ?_⟩
  obtain ⟨A, c, B, d, rfl⟩ := hy
  rw [(ruT_yes (A := A) (c := c) (B := B) (d := d) h).1]
  have h6 : bs = ruB (ruV ⟨bs, false⟩ A c B d) ++ (q10 ⟨bs, false⟩).2.left := (ruV_only (s := ⟨bs, false⟩) A c B d hb).1
  have h7 := congrArg List.length h6
  rw [List.length_append] at h7
  rw [show bs.length - (q10 ⟨bs, false⟩).2.left.length = (ruB (ruV ⟨bs, false⟩ A c B d)).length by omega]
  exact (congrArg (List.take _) h6).trans List.take_left
attribute [local irreducible] blkA rowA rdsA wrA rdrA ruS ruT ruOk ruB
set_option maxRecDepth 100000 in
theorem rbytes9_calls {x : RuV} (hx : x.Gd W) : Calls Tryd.prog 18 #[.agg x.cells.toArray] W fun e w' => ∃ A c, e = .returned (.slice A (ruB x).length c) ∧ St W w' [rowA 5 1 A (ruB x).length c ((ruB x).map bv)] := by
  have hS := St.init W
  obtain ⟨_, _, _, _, _, hl6⟩ := ru_lens hx
  refine calls_of_wpE (args := [_]) Tryd.func18 rfl rfl rfl ?_
  refine c_seq ?_
  refine c_region ?_
  refine t_box (v := (.agg _)) rfl rfl hS (fun g1 w hS => ?_)
  replace hS := hS.recast (show _ = blkA g1 25 [.int .i64 x.version, .slice x.ticks.A x.ticks.l.length x.ticks.c, .int .i64 x.lot, .int .i64 x.band, .slice x.fees.A x.fees.l.length x.fees.c, .int .i64 x.round, .int .i64 x.priority, .int .i64 x.self, .int .i64 x.layout] from rfl)
  refine t_q (q_assign) ?_
  refine t_nil ?_
  refine c_seq ?_
  refine c_region ?_
  refine t_alloc Tryd.zeroValue46 rfl hS (fun g3 w hS => ?_)
  replace hS := hS.wr0
  refine t_nil ?_
  refine c_seq ?_
  refine c_region ?_
  refine t_q (q_cast (v' := .agg x.cells.toArray) (q_load_blk Tryd.isAgg25 Tryd.sizeOf25 rfl (hS.blk (by repeat first | exact .here _ _ | assumption | apply Pick.there)) rfl) (by rfl)) ?_
  refine t_call Tryd.call19 (rput_calls (x := x) hS (by repeat first | exact .here _ _ | assumption | apply Pick.there) hx (by simp)) rfl ?_
  rintro e w ⟨rfl, hS⟩
  refine ⟨_, rfl, ?_⟩
  replace hS := hS.recast (congrArg (wrA g3) (List.nil_append _))
  refine t_nil ?_
  refine c_seq ?_
  refine c_region ?_
  refine t_call Tryd.call21 (Bytes_calls hS (by repeat first | exact .here _ _ | assumption | apply Pick.there) (by omega)) rfl ?_
  rintro e w ⟨A6, c6, rfl, hc6, hS⟩
  refine ⟨_, rfl, ?_⟩
  refine t_q (q_as (.slice _ _ _) rfl) ?_
  refine t_nil ?_
  refine c_ret ?_
  refine r_one rfl rfl ?_
  exact ⟨A6, c6, rfl, (hS.pick (A := rowA 5 1 A6 (ruB x).length c6 ((ruB x).map bv)) (by repeat first | exact .here _ _ | assumption | apply Pick.there)).front1⟩
set_option maxHeartbeats 4000000 in
set_option maxRecDepth 100000 in
theorem rreads_yes {A : Option Addr} {c : Nat} {bs : List UInt8} (hE : EtOk W) (hR : RdB W A bs) (hc : bs.length ≤ c ∧ bs.length ≤ 9223372036854775807) (hyes : ruOk (⟨bs, false⟩ : Rs) = true) : Calls Tryd.prog 7 #[.slice A bs.length c] W fun e w' => e = .returned (.bool true) ∧ St W w' [] := by
  have hS := St.init W
  obtain ⟨hbl, htake⟩ := read_take hyes
  refine calls_of_wpE (args := [_]) Tryd.func7 rfl rfl rfl ?_
  refine c_seq ?_
  refine c_region ?_
  refine t_q (q_assign) ?_
  refine t_nil ?_
  refine c_seq ?_
  refine c_seq ?_
  refine c_region ?_
  refine t_q (q_mv (.slice _ _ _) rfl) ?_
  refine t_q (q_len_slice Tryd.runUnderlying43 rfl) ?_
  refine t_q (q_gtr rfl rfl) ?_
  refine t_nil ?_
  refine c_cond rfl ?_ ?_
  · intro hc2
    have hc2d := of_decide_eq_true hc2
    refine c_seq ?_
    refine c_region ?_
    refine t_call Tryd.call9 (r9lives_calls (hE.st hS)) rfl ?_
    rintro e w ⟨rfl, hT⟩
    refine ⟨_, rfl, ?_⟩
    replace hS := hS.after hT
    refine t_q (q_as (.bool _) rfl) ?_
    refine t_nil ?_
    refine c_ret ?_
    refine r_one rfl rfl ?_
    exact ⟨rfl, hS.nil⟩
  · intro hc2
    have hc2d := of_decide_eq_false hc2
    refine c_skip ?_
    refine c_seq ?_
    refine c_region ?_
    refine t_q (q_mv (.slice _ _ _) rfl) ?_
    refine t_call Tryd.call22 (Open_calls hS hR hc) rfl ?_
    rintro e w ⟨g13, rfl, hS⟩
    refine ⟨_, rfl, ?_⟩
    refine t_q (q_as (.pointer _) rfl) ?_
    refine t_nil ?_
    refine c_seq ?_
    refine c_region ?_
    refine t_q (q_mv (.slice _ _ _) rfl) ?_
    refine t_q (q_build (qs := [(0, 1), (1, 1)]) [(.slice _ _ _), (.bool _)] Tryd.zeroValue58 Tryd.runUnderlying58 ⟨rfl, Tryd.sizeOf43, rfl, Tryd.sizeOf4, trivial⟩ rfl rfl) ?_
    refine t_box (v := (.agg _)) rfl rfl hS (fun g17 w hS => ?_)
    replace hS := hS.recast (show _ = blkA g17 58 [.slice A bs.length c, .bool false] from rfl)
    replace hS := hS.unrdr (s := (⟨bs, false⟩ : Rs)) rfl rfl hR hc
    refine t_q (q_as (.pointer _) rfl) ?_
    refine t_nil ?_
    refine c_seq ?_
    refine c_region ?_
    refine t_q (q_mv (.pointer _) rfl) ?_
    refine t_call Tryd.call23 (rread_calls (s := (⟨bs, false⟩ : Rs)) hS (by repeat first | exact .here _ _ | assumption | apply Pick.there)) rfl ?_
    rintro e w ⟨y, rfl, hY, hS⟩
    refine ⟨_, rfl, ?_⟩
    rw [hyes]
    refine t_q (q_mv (.tuple _) rfl) ?_
    refine t_q (q_extract rfl rfl) ?_
    refine t_q (q_extract rfl rfl) ?_
    refine t_alloc Tryd.zeroValue25 rfl hS (fun g5 w hS => ?_)
    refine t_store (v := (.agg _)) Tryd.sizeOf25 hS (by repeat first | exact .here _ _ | assumption | apply Pick.there) rfl rfl rfl rfl rfl rfl (fun w hS => ?_)
    replace hS := hS.recast (congrArg (blkA g5 25) (rset_full (vs := y.cells) rfl))
    replace hS := hS.recast (show _ = blkA g5 25 [.int .i64 y.version, .slice y.ticks.A y.ticks.l.length y.ticks.c, .int .i64 y.lot, .int .i64 y.band, .slice y.fees.A y.fees.l.length y.fees.c, .int .i64 y.round, .int .i64 y.priority, .int .i64 y.self, .int .i64 y.layout] from rfl)
    refine t_q (q_as (.bool _) rfl) ?_
    refine t_nil ?_
    refine c_seq ?_
    refine c_region ?_
    refine t_q (q_mv (.pointer _) rfl) ?_
    refine t_call Tryd.call27 (qrread_calls (s := (⟨bs, false⟩ : Rs)) hS (by repeat first | exact .here _ _ | assumption | apply Pick.there)) rfl ?_
    rintro e w ⟨z, rfl, hZ, hS⟩
    refine ⟨_, rfl, ?_⟩
    rw [hyes]
    refine t_q (q_mv (.tuple _) rfl) ?_
    refine t_q (q_extract rfl rfl) ?_
    refine t_q (q_extract rfl rfl) ?_
    refine t_alloc Tryd.zeroValue25 rfl hS (fun g7 w hS => ?_)
    refine t_store (v := (.agg _)) Tryd.sizeOf25 hS (by repeat first | exact .here _ _ | assumption | apply Pick.there) rfl rfl rfl rfl rfl rfl (fun w hS => ?_)
    replace hS := hS.recast (congrArg (blkA g7 25) (rset_full (vs := z.cells) rfl))
    replace hS := hS.recast (show _ = blkA g7 25 [.int .i64 z.version, .slice z.ticks.A z.ticks.l.length z.ticks.c, .int .i64 z.lot, .int .i64 z.band, .slice z.fees.A z.fees.l.length z.fees.c, .int .i64 z.round, .int .i64 z.priority, .int .i64 z.self, .int .i64 z.layout] from rfl)
    refine t_q (q_as (.bool _) rfl) ?_
    refine t_nil ?_
    refine c_seq ?_
    refine c_seq ?_
    obtain ⟨A1, c1, hR1, hc1, hS⟩ := (hS.pick (A := rdrA W 58 g17 _) (by repeat first | exact .here _ _ | assumption | apply Pick.there)).rdr
    refine c_draw ?_
    refine d_keep3 (blkA g17 58 [.slice A1 (ruS (⟨bs, false⟩ : Rs)).left.length c1, .bool (ruS (⟨bs, false⟩ : Rs)).bad]) (blkA g5 25 [.int .i64 y.version, .slice y.ticks.A y.ticks.l.length y.ticks.c, .int .i64 y.lot, .int .i64 y.band, .slice y.fees.A y.fees.l.length y.fees.c, .int .i64 y.round, .int .i64 y.priority, .int .i64 y.self, .int .i64 y.layout]) (blkA g7 25 [.int .i64 z.version, .slice z.ticks.A z.ticks.l.length z.ticks.c, .int .i64 z.lot, .int .i64 z.band, .slice z.fees.A z.fees.l.length z.fees.c, .int .i64 z.round, .int .i64 z.priority, .int .i64 z.self, .int .i64 z.layout]) 28 [0, 1, 2, 3, 4, 5, 6, 7, 8, 9, 10, 11, 12, 13, 14, 15, 16, 17, 18, 19, 20, 21, 22, 23, 24, 25, 26, 27] [0, 1, 2, 3, 4, 5, 6, 7, 8, 9, 10, 11, 12, 13, 14, 15, 16, 17, 18, 19, 20, 21, 22, 23, 24, 25, 26, 27] hS rfl (by kernel_rfl) (by kernel_rfl) (by kernel_rfl) (by kernel_rfl) (fun hap hsel w hS => ?_)
    refine p_q hap hsel 0 rfl rfl ⟨_, (((hS.pick (A := blkA g7 25 [.int .i64 z.version, .slice z.ticks.A z.ticks.l.length z.ticks.c, .int .i64 z.lot, .int .i64 z.band, .slice z.fees.A z.fees.l.length z.fees.c, .int .i64 z.round, .int .i64 z.priority, .int .i64 z.self, .int .i64 z.layout]) (by repeat first | exact .here _ _ | assumption | apply Pick.there)).pick (A := blkA g5 25 [.int .i64 y.version, .slice y.ticks.A y.ticks.l.length y.ticks.c, .int .i64 y.lot, .int .i64 y.band, .slice y.fees.A y.fees.l.length y.fees.c, .int .i64 y.round, .int .i64 y.priority, .int .i64 y.self, .int .i64 y.layout]) (by repeat first | exact .here _ _ | assumption | apply Pick.there)).pick (A := blkA g17 58 [.slice A1 (ruS (⟨bs, false⟩ : Rs)).left.length c1, .bool (ruS (⟨bs, false⟩ : Rs)).bad]) (by repeat first | exact .here _ _ | assumption | apply Pick.there))⟩ (fun w hI => q_mv (.bool _) rfl) ?_
    refine p_q hap hsel 1 rfl rfl ⟨_, (((hS.pick (A := blkA g7 25 [.int .i64 z.version, .slice z.ticks.A z.ticks.l.length z.ticks.c, .int .i64 z.lot, .int .i64 z.band, .slice z.fees.A z.fees.l.length z.fees.c, .int .i64 z.round, .int .i64 z.priority, .int .i64 z.self, .int .i64 z.layout]) (by repeat first | exact .here _ _ | assumption | apply Pick.there)).pick (A := blkA g5 25 [.int .i64 y.version, .slice y.ticks.A y.ticks.l.length y.ticks.c, .int .i64 y.lot, .int .i64 y.band, .slice y.fees.A y.fees.l.length y.fees.c, .int .i64 y.round, .int .i64 y.priority, .int .i64 y.self, .int .i64 y.layout]) (by repeat first | exact .here _ _ | assumption | apply Pick.there)).pick (A := blkA g17 58 [.slice A1 (ruS (⟨bs, false⟩ : Rs)).left.length c1, .bool (ruS (⟨bs, false⟩ : Rs)).bad]) (by repeat first | exact .here _ _ | assumption | apply Pick.there))⟩ (fun w hI => q_mv (.bool _) rfl) ?_
    refine p_q hap hsel 2 rfl rfl ⟨_, (((hS.pick (A := blkA g7 25 [.int .i64 z.version, .slice z.ticks.A z.ticks.l.length z.ticks.c, .int .i64 z.lot, .int .i64 z.band, .slice z.fees.A z.fees.l.length z.fees.c, .int .i64 z.round, .int .i64 z.priority, .int .i64 z.self, .int .i64 z.layout]) (by repeat first | exact .here _ _ | assumption | apply Pick.there)).pick (A := blkA g5 25 [.int .i64 y.version, .slice y.ticks.A y.ticks.l.length y.ticks.c, .int .i64 y.lot, .int .i64 y.band, .slice y.fees.A y.fees.l.length y.fees.c, .int .i64 y.round, .int .i64 y.priority, .int .i64 y.self, .int .i64 y.layout]) (by repeat first | exact .here _ _ | assumption | apply Pick.there)).pick (A := blkA g17 58 [.slice A1 (ruS (⟨bs, false⟩ : Rs)).left.length c1, .bool (ruS (⟨bs, false⟩ : Rs)).bad]) (by repeat first | exact .here _ _ | assumption | apply Pick.there))⟩ (fun w hI => (q_cast (v' := .bool false) (q_neq_bool Tryd.runUnderlying4 rfl rfl) (by rfl))) ?_
    refine p_q hap hsel 3 rfl rfl ⟨_, (((hS.pick (A := blkA g7 25 [.int .i64 z.version, .slice z.ticks.A z.ticks.l.length z.ticks.c, .int .i64 z.lot, .int .i64 z.band, .slice z.fees.A z.fees.l.length z.fees.c, .int .i64 z.round, .int .i64 z.priority, .int .i64 z.self, .int .i64 z.layout]) (by repeat first | exact .here _ _ | assumption | apply Pick.there)).pick (A := blkA g5 25 [.int .i64 y.version, .slice y.ticks.A y.ticks.l.length y.ticks.c, .int .i64 y.lot, .int .i64 y.band, .slice y.fees.A y.fees.l.length y.fees.c, .int .i64 y.round, .int .i64 y.priority, .int .i64 y.self, .int .i64 y.layout]) (by repeat first | exact .here _ _ | assumption | apply Pick.there)).pick (A := blkA g17 58 [.slice A1 (ruS (⟨bs, false⟩ : Rs)).left.length c1, .bool (ruS (⟨bs, false⟩ : Rs)).bad]) (by repeat first | exact .here _ _ | assumption | apply Pick.there))⟩ (fun w hI => q_mv (.bool _) rfl) ?_
    refine p_yes hap hsel 4 rfl rfl ⟨_, (((hS.pick (A := blkA g7 25 [.int .i64 z.version, .slice z.ticks.A z.ticks.l.length z.ticks.c, .int .i64 z.lot, .int .i64 z.band, .slice z.fees.A z.fees.l.length z.fees.c, .int .i64 z.round, .int .i64 z.priority, .int .i64 z.self, .int .i64 z.layout]) (by repeat first | exact .here _ _ | assumption | apply Pick.there)).pick (A := blkA g5 25 [.int .i64 y.version, .slice y.ticks.A y.ticks.l.length y.ticks.c, .int .i64 y.lot, .int .i64 y.band, .slice y.fees.A y.fees.l.length y.fees.c, .int .i64 y.round, .int .i64 y.priority, .int .i64 y.self, .int .i64 y.layout]) (by repeat first | exact .here _ _ | assumption | apply Pick.there)).pick (A := blkA g17 58 [.slice A1 (ruS (⟨bs, false⟩ : Rs)).left.length c1, .bool (ruS (⟨bs, false⟩ : Rs)).bad]) (by repeat first | exact .here _ _ | assumption | apply Pick.there))⟩ rfl rfl rfl (fun w hI => q_mv (.pointer _) rfl) ?_
    refine p_yes hap hsel 6 rfl rfl ⟨_, (((hS.pick (A := blkA g7 25 [.int .i64 z.version, .slice z.ticks.A z.ticks.l.length z.ticks.c, .int .i64 z.lot, .int .i64 z.band, .slice z.fees.A z.fees.l.length z.fees.c, .int .i64 z.round, .int .i64 z.priority, .int .i64 z.self, .int .i64 z.layout]) (by repeat first | exact .here _ _ | assumption | apply Pick.there)).pick (A := blkA g5 25 [.int .i64 y.version, .slice y.ticks.A y.ticks.l.length y.ticks.c, .int .i64 y.lot, .int .i64 y.band, .slice y.fees.A y.fees.l.length y.fees.c, .int .i64 y.round, .int .i64 y.priority, .int .i64 y.self, .int .i64 y.layout]) (by repeat first | exact .here _ _ | assumption | apply Pick.there)).pick (A := blkA g17 58 [.slice A1 (ruS (⟨bs, false⟩ : Rs)).left.length c1, .bool (ruS (⟨bs, false⟩ : Rs)).bad]) (by repeat first | exact .here _ _ | assumption | apply Pick.there))⟩ rfl rfl rfl (fun w hI => q_mv (.pointer _) rfl) ?_
    refine p_yes hap hsel 7 rfl rfl ⟨_, (((hS.pick (A := blkA g7 25 [.int .i64 z.version, .slice z.ticks.A z.ticks.l.length z.ticks.c, .int .i64 z.lot, .int .i64 z.band, .slice z.fees.A z.fees.l.length z.fees.c, .int .i64 z.round, .int .i64 z.priority, .int .i64 z.self, .int .i64 z.layout]) (by repeat first | exact .here _ _ | assumption | apply Pick.there)).pick (A := blkA g5 25 [.int .i64 y.version, .slice y.ticks.A y.ticks.l.length y.ticks.c, .int .i64 y.lot, .int .i64 y.band, .slice y.fees.A y.fees.l.length y.fees.c, .int .i64 y.round, .int .i64 y.priority, .int .i64 y.self, .int .i64 y.layout]) (by repeat first | exact .here _ _ | assumption | apply Pick.there)).pick (A := blkA g17 58 [.slice A1 (ruS (⟨bs, false⟩ : Rs)).left.length c1, .bool (ruS (⟨bs, false⟩ : Rs)).bad]) (by repeat first | exact .here _ _ | assumption | apply Pick.there))⟩ rfl rfl rfl (fun w hI => q_nilCheck rfl) ?_
    refine p_yes hap hsel 8 rfl rfl ⟨_, (((hS.pick (A := blkA g7 25 [.int .i64 z.version, .slice z.ticks.A z.ticks.l.length z.ticks.c, .int .i64 z.lot, .int .i64 z.band, .slice z.fees.A z.fees.l.length z.fees.c, .int .i64 z.round, .int .i64 z.priority, .int .i64 z.self, .int .i64 z.layout]) (by repeat first | exact .here _ _ | assumption | apply Pick.there)).pick (A := blkA g5 25 [.int .i64 y.version, .slice y.ticks.A y.ticks.l.length y.ticks.c, .int .i64 y.lot, .int .i64 y.band, .slice y.fees.A y.fees.l.length y.fees.c, .int .i64 y.round, .int .i64 y.priority, .int .i64 y.self, .int .i64 y.layout]) (by repeat first | exact .here _ _ | assumption | apply Pick.there)).pick (A := blkA g17 58 [.slice A1 (ruS (⟨bs, false⟩ : Rs)).left.length c1, .bool (ruS (⟨bs, false⟩ : Rs)).bad]) (by repeat first | exact .here _ _ | assumption | apply Pick.there))⟩ rfl rfl rfl (fun w hI => q_fieldAddr 0 Tryd.runUnderlying58 rfl Tryd.sizeOf43 (by decide) rfl rfl) ?_
    refine p_yes hap hsel 9 rfl rfl ⟨_, (((hS.pick (A := blkA g7 25 [.int .i64 z.version, .slice z.ticks.A z.ticks.l.length z.ticks.c, .int .i64 z.lot, .int .i64 z.band, .slice z.fees.A z.fees.l.length z.fees.c, .int .i64 z.round, .int .i64 z.priority, .int .i64 z.self, .int .i64 z.layout]) (by repeat first | exact .here _ _ | assumption | apply Pick.there)).pick (A := blkA g5 25 [.int .i64 y.version, .slice y.ticks.A y.ticks.l.length y.ticks.c, .int .i64 y.lot, .int .i64 y.band, .slice y.fees.A y.fees.l.length y.fees.c, .int .i64 y.round, .int .i64 y.priority, .int .i64 y.self, .int .i64 y.layout]) (by repeat first | exact .here _ _ | assumption | apply Pick.there)).pick (A := blkA g17 58 [.slice A1 (ruS (⟨bs, false⟩ : Rs)).left.length c1, .bool (ruS (⟨bs, false⟩ : Rs)).bad]) (by repeat first | exact .here _ _ | assumption | apply Pick.there))⟩ rfl rfl rfl (fun w hI => q_load1 Tryd.isAgg43 rfl (hI.choose_spec.cell (by repeat first | exact .here _ _ | assumption | apply Pick.there) rfl)) ?_
    refine p_yes hap hsel 10 rfl rfl ⟨_, (((hS.pick (A := blkA g7 25 [.int .i64 z.version, .slice z.ticks.A z.ticks.l.length z.ticks.c, .int .i64 z.lot, .int .i64 z.band, .slice z.fees.A z.fees.l.length z.fees.c, .int .i64 z.round, .int .i64 z.priority, .int .i64 z.self, .int .i64 z.layout]) (by repeat first | exact .here _ _ | assumption | apply Pick.there)).pick (A := blkA g5 25 [.int .i64 y.version, .slice y.ticks.A y.ticks.l.length y.ticks.c, .int .i64 y.lot, .int .i64 y.band, .slice y.fees.A y.fees.l.length y.fees.c, .int .i64 y.round, .int .i64 y.priority, .int .i64 y.self, .int .i64 y.layout]) (by repeat first | exact .here _ _ | assumption | apply Pick.there)).pick (A := blkA g17 58 [.slice A1 (ruS (⟨bs, false⟩ : Rs)).left.length c1, .bool (ruS (⟨bs, false⟩ : Rs)).bad]) (by repeat first | exact .here _ _ | assumption | apply Pick.there))⟩ rfl rfl rfl (fun w hI => q_len_slice Tryd.runUnderlying43 rfl) ?_
    refine p_one 5 rfl (by kernel_rfl) ?_
    refine t_yes rfl rfl rfl ?_
    refine t_call Tryd.call26 (rLeft hS (by repeat first | exact .here _ _ | assumption | apply Pick.there)) rfl ?_
    rintro e w ⟨rfl, hS⟩
    refine ⟨_, rfl, ?_⟩
    refine t_nil ?_
    refine ⟨.inr ⟨_, (((hS.pick (A := blkA g7 25 [.int .i64 z.version, .slice z.ticks.A z.ticks.l.length z.ticks.c, .int .i64 z.lot, .int .i64 z.band, .slice z.fees.A z.fees.l.length z.fees.c, .int .i64 z.round, .int .i64 z.priority, .int .i64 z.self, .int .i64 z.layout]) (by repeat first | exact .here _ _ | assumption | apply Pick.there)).pick (A := blkA g5 25 [.int .i64 y.version, .slice y.ticks.A y.ticks.l.length y.ticks.c, .int .i64 y.lot, .int .i64 y.band, .slice y.fees.A y.fees.l.length y.fees.c, .int .i64 y.round, .int .i64 y.priority, .int .i64 y.self, .int .i64 y.layout]) (by repeat first | exact .here _ _ | assumption | apply Pick.there)).pick (A := blkA g17 58 [.slice A1 (ruS (⟨bs, false⟩ : Rs)).left.length c1, .bool (ruS (⟨bs, false⟩ : Rs)).bad]) (by repeat first | exact .here _ _ | assumption | apply Pick.there))⟩, ?_⟩
    refine p_yes hap hsel 11 rfl rfl ⟨_, (((hS.pick (A := blkA g7 25 [.int .i64 z.version, .slice z.ticks.A z.ticks.l.length z.ticks.c, .int .i64 z.lot, .int .i64 z.band, .slice z.fees.A z.fees.l.length z.fees.c, .int .i64 z.round, .int .i64 z.priority, .int .i64 z.self, .int .i64 z.layout]) (by repeat first | exact .here _ _ | assumption | apply Pick.there)).pick (A := blkA g5 25 [.int .i64 y.version, .slice y.ticks.A y.ticks.l.length y.ticks.c, .int .i64 y.lot, .int .i64 y.band, .slice y.fees.A y.fees.l.length y.fees.c, .int .i64 y.round, .int .i64 y.priority, .int .i64 y.self, .int .i64 y.layout]) (by repeat first | exact .here _ _ | assumption | apply Pick.there)).pick (A := blkA g17 58 [.slice A1 (ruS (⟨bs, false⟩ : Rs)).left.length c1, .bool (ruS (⟨bs, false⟩ : Rs)).bad]) (by repeat first | exact .here _ _ | assumption | apply Pick.there))⟩ rfl rfl rfl (fun w hI => (q_cast (v' := .bool false) (q_neq rfl rfl) (by simp))) ?_
    refine p_q hap hsel 12 rfl rfl ⟨_, (((hS.pick (A := blkA g7 25 [.int .i64 z.version, .slice z.ticks.A z.ticks.l.length z.ticks.c, .int .i64 z.lot, .int .i64 z.band, .slice z.fees.A z.fees.l.length z.fees.c, .int .i64 z.round, .int .i64 z.priority, .int .i64 z.self, .int .i64 z.layout]) (by repeat first | exact .here _ _ | assumption | apply Pick.there)).pick (A := blkA g5 25 [.int .i64 y.version, .slice y.ticks.A y.ticks.l.length y.ticks.c, .int .i64 y.lot, .int .i64 y.band, .slice y.fees.A y.fees.l.length y.fees.c, .int .i64 y.round, .int .i64 y.priority, .int .i64 y.self, .int .i64 y.layout]) (by repeat first | exact .here _ _ | assumption | apply Pick.there)).pick (A := blkA g17 58 [.slice A1 (ruS (⟨bs, false⟩ : Rs)).left.length c1, .bool (ruS (⟨bs, false⟩ : Rs)).bad]) (by repeat first | exact .here _ _ | assumption | apply Pick.there))⟩ (fun w hI => q_pick_f rfl rfl) ?_
    refine p_q hap hsel 13 rfl rfl ⟨_, (((hS.pick (A := blkA g7 25 [.int .i64 z.version, .slice z.ticks.A z.ticks.l.length z.ticks.c, .int .i64 z.lot, .int .i64 z.band, .slice z.fees.A z.fees.l.length z.fees.c, .int .i64 z.round, .int .i64 z.priority, .int .i64 z.self, .int .i64 z.layout]) (by repeat first | exact .here _ _ | assumption | apply Pick.there)).pick (A := blkA g5 25 [.int .i64 y.version, .slice y.ticks.A y.ticks.l.length y.ticks.c, .int .i64 y.lot, .int .i64 y.band, .slice y.fees.A y.fees.l.length y.fees.c, .int .i64 y.round, .int .i64 y.priority, .int .i64 y.self, .int .i64 y.layout]) (by repeat first | exact .here _ _ | assumption | apply Pick.there)).pick (A := blkA g17 58 [.slice A1 (ruS (⟨bs, false⟩ : Rs)).left.length c1, .bool (ruS (⟨bs, false⟩ : Rs)).bad]) (by repeat first | exact .here _ _ | assumption | apply Pick.there))⟩ (fun w hI => q_mv (.bool _) rfl) ?_
    refine p_yes hap hsel 14 rfl rfl ⟨_, (((hS.pick (A := blkA g7 25 [.int .i64 z.version, .slice z.ticks.A z.ticks.l.length z.ticks.c, .int .i64 z.lot, .int .i64 z.band, .slice z.fees.A z.fees.l.length z.fees.c, .int .i64 z.round, .int .i64 z.priority, .int .i64 z.self, .int .i64 z.layout]) (by repeat first | exact .here _ _ | assumption | apply Pick.there)).pick (A := blkA g5 25 [.int .i64 y.version, .slice y.ticks.A y.ticks.l.length y.ticks.c, .int .i64 y.lot, .int .i64 y.band, .slice y.fees.A y.fees.l.length y.fees.c, .int .i64 y.round, .int .i64 y.priority, .int .i64 y.self, .int .i64 y.layout]) (by repeat first | exact .here _ _ | assumption | apply Pick.there)).pick (A := blkA g17 58 [.slice A1 (ruS (⟨bs, false⟩ : Rs)).left.length c1, .bool (ruS (⟨bs, false⟩ : Rs)).bad]) (by repeat first | exact .here _ _ | assumption | apply Pick.there))⟩ rfl rfl rfl (fun w hI => q_mv (.pointer _) rfl) ?_
    refine p_yes hap hsel 16 rfl rfl ⟨_, (((hS.pick (A := blkA g7 25 [.int .i64 z.version, .slice z.ticks.A z.ticks.l.length z.ticks.c, .int .i64 z.lot, .int .i64 z.band, .slice z.fees.A z.fees.l.length z.fees.c, .int .i64 z.round, .int .i64 z.priority, .int .i64 z.self, .int .i64 z.layout]) (by repeat first | exact .here _ _ | assumption | apply Pick.there)).pick (A := blkA g5 25 [.int .i64 y.version, .slice y.ticks.A y.ticks.l.length y.ticks.c, .int .i64 y.lot, .int .i64 y.band, .slice y.fees.A y.fees.l.length y.fees.c, .int .i64 y.round, .int .i64 y.priority, .int .i64 y.self, .int .i64 y.layout]) (by repeat first | exact .here _ _ | assumption | apply Pick.there)).pick (A := blkA g17 58 [.slice A1 (ruS (⟨bs, false⟩ : Rs)).left.length c1, .bool (ruS (⟨bs, false⟩ : Rs)).bad]) (by repeat first | exact .here _ _ | assumption | apply Pick.there))⟩ rfl rfl rfl (fun w hI => q_mv (.pointer _) rfl) ?_
    refine p_yes hap hsel 17 rfl rfl ⟨_, (((hS.pick (A := blkA g7 25 [.int .i64 z.version, .slice z.ticks.A z.ticks.l.length z.ticks.c, .int .i64 z.lot, .int .i64 z.band, .slice z.fees.A z.fees.l.length z.fees.c, .int .i64 z.round, .int .i64 z.priority, .int .i64 z.self, .int .i64 z.layout]) (by repeat first | exact .here _ _ | assumption | apply Pick.there)).pick (A := blkA g5 25 [.int .i64 y.version, .slice y.ticks.A y.ticks.l.length y.ticks.c, .int .i64 y.lot, .int .i64 y.band, .slice y.fees.A y.fees.l.length y.fees.c, .int .i64 y.round, .int .i64 y.priority, .int .i64 y.self, .int .i64 y.layout]) (by repeat first | exact .here _ _ | assumption | apply Pick.there)).pick (A := blkA g17 58 [.slice A1 (ruS (⟨bs, false⟩ : Rs)).left.length c1, .bool (ruS (⟨bs, false⟩ : Rs)).bad]) (by repeat first | exact .here _ _ | assumption | apply Pick.there))⟩ rfl rfl rfl (fun w hI => q_nilCheck rfl) ?_
    refine p_yes hap hsel 18 rfl rfl ⟨_, (((hS.pick (A := blkA g7 25 [.int .i64 z.version, .slice z.ticks.A z.ticks.l.length z.ticks.c, .int .i64 z.lot, .int .i64 z.band, .slice z.fees.A z.fees.l.length z.fees.c, .int .i64 z.round, .int .i64 z.priority, .int .i64 z.self, .int .i64 z.layout]) (by repeat first | exact .here _ _ | assumption | apply Pick.there)).pick (A := blkA g5 25 [.int .i64 y.version, .slice y.ticks.A y.ticks.l.length y.ticks.c, .int .i64 y.lot, .int .i64 y.band, .slice y.fees.A y.fees.l.length y.fees.c, .int .i64 y.round, .int .i64 y.priority, .int .i64 y.self, .int .i64 y.layout]) (by repeat first | exact .here _ _ | assumption | apply Pick.there)).pick (A := blkA g17 58 [.slice A1 (ruS (⟨bs, false⟩ : Rs)).left.length c1, .bool (ruS (⟨bs, false⟩ : Rs)).bad]) (by repeat first | exact .here _ _ | assumption | apply Pick.there))⟩ rfl rfl rfl (fun w hI => q_fieldAddr 1 Tryd.runUnderlying58 rfl Tryd.sizeOf4 (by decide) rfl rfl) ?_
    refine p_yes hap hsel 19 rfl rfl ⟨_, (((hS.pick (A := blkA g7 25 [.int .i64 z.version, .slice z.ticks.A z.ticks.l.length z.ticks.c, .int .i64 z.lot, .int .i64 z.band, .slice z.fees.A z.fees.l.length z.fees.c, .int .i64 z.round, .int .i64 z.priority, .int .i64 z.self, .int .i64 z.layout]) (by repeat first | exact .here _ _ | assumption | apply Pick.there)).pick (A := blkA g5 25 [.int .i64 y.version, .slice y.ticks.A y.ticks.l.length y.ticks.c, .int .i64 y.lot, .int .i64 y.band, .slice y.fees.A y.fees.l.length y.fees.c, .int .i64 y.round, .int .i64 y.priority, .int .i64 y.self, .int .i64 y.layout]) (by repeat first | exact .here _ _ | assumption | apply Pick.there)).pick (A := blkA g17 58 [.slice A1 (ruS (⟨bs, false⟩ : Rs)).left.length c1, .bool (ruS (⟨bs, false⟩ : Rs)).bad]) (by repeat first | exact .here _ _ | assumption | apply Pick.there))⟩ rfl rfl rfl (fun w hI => q_load1 Tryd.isAgg4 rfl (hI.choose_spec.cell (by repeat first | exact .here _ _ | assumption | apply Pick.there) rfl)) ?_
    refine p_one 15 rfl (by kernel_rfl) ?_
    refine t_yes rfl rfl rfl ?_
    refine t_call Tryd.call25 (rBad hS (by repeat first | exact .here _ _ | assumption | apply Pick.there)) rfl ?_
    rintro e w ⟨rfl, hS⟩
    refine ⟨_, rfl, ?_⟩
    refine t_nil ?_
    refine ⟨.inr ⟨_, (((hS.pick (A := blkA g7 25 [.int .i64 z.version, .slice z.ticks.A z.ticks.l.length z.ticks.c, .int .i64 z.lot, .int .i64 z.band, .slice z.fees.A z.fees.l.length z.fees.c, .int .i64 z.round, .int .i64 z.priority, .int .i64 z.self, .int .i64 z.layout]) (by repeat first | exact .here _ _ | assumption | apply Pick.there)).pick (A := blkA g5 25 [.int .i64 y.version, .slice y.ticks.A y.ticks.l.length y.ticks.c, .int .i64 y.lot, .int .i64 y.band, .slice y.fees.A y.fees.l.length y.fees.c, .int .i64 y.round, .int .i64 y.priority, .int .i64 y.self, .int .i64 y.layout]) (by repeat first | exact .here _ _ | assumption | apply Pick.there)).pick (A := blkA g17 58 [.slice A1 (ruS (⟨bs, false⟩ : Rs)).left.length c1, .bool (ruS (⟨bs, false⟩ : Rs)).bad]) (by repeat first | exact .here _ _ | assumption | apply Pick.there))⟩, ?_⟩
    refine p_yes hap hsel 20 rfl rfl ⟨_, (((hS.pick (A := blkA g7 25 [.int .i64 z.version, .slice z.ticks.A z.ticks.l.length z.ticks.c, .int .i64 z.lot, .int .i64 z.band, .slice z.fees.A z.fees.l.length z.fees.c, .int .i64 z.round, .int .i64 z.priority, .int .i64 z.self, .int .i64 z.layout]) (by repeat first | exact .here _ _ | assumption | apply Pick.there)).pick (A := blkA g5 25 [.int .i64 y.version, .slice y.ticks.A y.ticks.l.length y.ticks.c, .int .i64 y.lot, .int .i64 y.band, .slice y.fees.A y.fees.l.length y.fees.c, .int .i64 y.round, .int .i64 y.priority, .int .i64 y.self, .int .i64 y.layout]) (by repeat first | exact .here _ _ | assumption | apply Pick.there)).pick (A := blkA g17 58 [.slice A1 (ruS (⟨bs, false⟩ : Rs)).left.length c1, .bool (ruS (⟨bs, false⟩ : Rs)).bad]) (by repeat first | exact .here _ _ | assumption | apply Pick.there))⟩ rfl rfl rfl (fun w hI => (q_cast (v' := .bool false) (q_neq_bool Tryd.runUnderlying4 rfl rfl) (by simp))) ?_
    refine p_q hap hsel 21 rfl rfl ⟨_, (((hS.pick (A := blkA g7 25 [.int .i64 z.version, .slice z.ticks.A z.ticks.l.length z.ticks.c, .int .i64 z.lot, .int .i64 z.band, .slice z.fees.A z.fees.l.length z.fees.c, .int .i64 z.round, .int .i64 z.priority, .int .i64 z.self, .int .i64 z.layout]) (by repeat first | exact .here _ _ | assumption | apply Pick.there)).pick (A := blkA g5 25 [.int .i64 y.version, .slice y.ticks.A y.ticks.l.length y.ticks.c, .int .i64 y.lot, .int .i64 y.band, .slice y.fees.A y.fees.l.length y.fees.c, .int .i64 y.round, .int .i64 y.priority, .int .i64 y.self, .int .i64 y.layout]) (by repeat first | exact .here _ _ | assumption | apply Pick.there)).pick (A := blkA g17 58 [.slice A1 (ruS (⟨bs, false⟩ : Rs)).left.length c1, .bool (ruS (⟨bs, false⟩ : Rs)).bad]) (by repeat first | exact .here _ _ | assumption | apply Pick.there))⟩ (fun w hI => q_pick_f rfl rfl) ?_
    refine p_q hap hsel 22 rfl rfl ⟨_, (((hS.pick (A := blkA g7 25 [.int .i64 z.version, .slice z.ticks.A z.ticks.l.length z.ticks.c, .int .i64 z.lot, .int .i64 z.band, .slice z.fees.A z.fees.l.length z.fees.c, .int .i64 z.round, .int .i64 z.priority, .int .i64 z.self, .int .i64 z.layout]) (by repeat first | exact .here _ _ | assumption | apply Pick.there)).pick (A := blkA g5 25 [.int .i64 y.version, .slice y.ticks.A y.ticks.l.length y.ticks.c, .int .i64 y.lot, .int .i64 y.band, .slice y.fees.A y.fees.l.length y.fees.c, .int .i64 y.round, .int .i64 y.priority, .int .i64 y.self, .int .i64 y.layout]) (by repeat first | exact .here _ _ | assumption | apply Pick.there)).pick (A := blkA g17 58 [.slice A1 (ruS (⟨bs, false⟩ : Rs)).left.length c1, .bool (ruS (⟨bs, false⟩ : Rs)).bad]) (by repeat first | exact .here _ _ | assumption | apply Pick.there))⟩ (fun w hI => q_mv (.bool _) rfl) ?_
    refine p_yes hap hsel 23 rfl rfl ⟨_, (((hS.pick (A := blkA g7 25 [.int .i64 z.version, .slice z.ticks.A z.ticks.l.length z.ticks.c, .int .i64 z.lot, .int .i64 z.band, .slice z.fees.A z.fees.l.length z.fees.c, .int .i64 z.round, .int .i64 z.priority, .int .i64 z.self, .int .i64 z.layout]) (by repeat first | exact .here _ _ | assumption | apply Pick.there)).pick (A := blkA g5 25 [.int .i64 y.version, .slice y.ticks.A y.ticks.l.length y.ticks.c, .int .i64 y.lot, .int .i64 y.band, .slice y.fees.A y.fees.l.length y.fees.c, .int .i64 y.round, .int .i64 y.priority, .int .i64 y.self, .int .i64 y.layout]) (by repeat first | exact .here _ _ | assumption | apply Pick.there)).pick (A := blkA g17 58 [.slice A1 (ruS (⟨bs, false⟩ : Rs)).left.length c1, .bool (ruS (⟨bs, false⟩ : Rs)).bad]) (by repeat first | exact .here _ _ | assumption | apply Pick.there))⟩ rfl rfl rfl (fun w hI => (q_cast (v' := .agg y.cells.toArray) (q_load_blk Tryd.isAgg25 Tryd.sizeOf25 rfl (hI.choose_spec.blk (by repeat first | exact .here _ _ | assumption | apply Pick.there)) rfl) (by rfl))) ?_
    refine p_yes hap hsel 24 rfl rfl ⟨_, (((hS.pick (A := blkA g7 25 [.int .i64 z.version, .slice z.ticks.A z.ticks.l.length z.ticks.c, .int .i64 z.lot, .int .i64 z.band, .slice z.fees.A z.fees.l.length z.fees.c, .int .i64 z.round, .int .i64 z.priority, .int .i64 z.self, .int .i64 z.layout]) (by repeat first | exact .here _ _ | assumption | apply Pick.there)).pick (A := blkA g5 25 [.int .i64 y.version, .slice y.ticks.A y.ticks.l.length y.ticks.c, .int .i64 y.lot, .int .i64 y.band, .slice y.fees.A y.fees.l.length y.fees.c, .int .i64 y.round, .int .i64 y.priority, .int .i64 y.self, .int .i64 y.layout]) (by repeat first | exact .here _ _ | assumption | apply Pick.there)).pick (A := blkA g17 58 [.slice A1 (ruS (⟨bs, false⟩ : Rs)).left.length c1, .bool (ruS (⟨bs, false⟩ : Rs)).bad]) (by repeat first | exact .here _ _ | assumption | apply Pick.there))⟩ rfl rfl rfl (fun w hI => (q_cast (v' := .agg z.cells.toArray) (q_load_blk Tryd.isAgg25 Tryd.sizeOf25 rfl (hI.choose_spec.blk (by repeat first | exact .here _ _ | assumption | apply Pick.there)) rfl) (by rfl))) ?_
    refine p_one 25 rfl (by kernel_rfl) ?_
    refine t_yes rfl rfl rfl ?_
    refine t_call Tryd.call17 (qrsame_calls (x := y) (y := z) (rt_gd hY (rowRdTk (A := y.ticks.A) (l := y.ticks.l) (c := y.ticks.c) (m := y.ticks.l.length) hS (by repeat first | exact .here _ _ | assumption | apply Pick.there) rfl) (rowRdTr (A := y.fees.A) (l := y.fees.l) (c := y.fees.c) (m := y.fees.l.length) hS (by repeat first | exact .here _ _ | assumption | apply Pick.there) rfl)) (rt_gd hZ (rowRdTk (A := z.ticks.A) (l := z.ticks.l) (c := z.ticks.c) (m := z.ticks.l.length) hS (by repeat first | exact .here _ _ | assumption | apply Pick.there) rfl) (rowRdTr (A := z.fees.A) (l := z.fees.l) (c := z.fees.c) (m := z.fees.l.length) hS (by repeat first | exact .here _ _ | assumption | apply Pick.there) rfl))) rfl ?_
    rintro e w ⟨rfl, hT⟩
    refine ⟨_, rfl, ?_⟩
    replace hS := hS.after hT
    rw [show decide (y.vw = z.vw) = true from decide_eq_true (rt_vw hY hZ)]
    refine t_nil ?_
    refine ⟨.inr ⟨_, (((hS.pick (A := blkA g7 25 [.int .i64 z.version, .slice z.ticks.A z.ticks.l.length z.ticks.c, .int .i64 z.lot, .int .i64 z.band, .slice z.fees.A z.fees.l.length z.fees.c, .int .i64 z.round, .int .i64 z.priority, .int .i64 z.self, .int .i64 z.layout]) (by repeat first | exact .here _ _ | assumption | apply Pick.there)).pick (A := blkA g5 25 [.int .i64 y.version, .slice y.ticks.A y.ticks.l.length y.ticks.c, .int .i64 y.lot, .int .i64 y.band, .slice y.fees.A y.fees.l.length y.fees.c, .int .i64 y.round, .int .i64 y.priority, .int .i64 y.self, .int .i64 y.layout]) (by repeat first | exact .here _ _ | assumption | apply Pick.there)).pick (A := blkA g17 58 [.slice A1 (ruS (⟨bs, false⟩ : Rs)).left.length c1, .bool (ruS (⟨bs, false⟩ : Rs)).bad]) (by repeat first | exact .here _ _ | assumption | apply Pick.there))⟩, ?_⟩
    refine p_yes hap hsel 26 rfl rfl ⟨_, (((hS.pick (A := blkA g7 25 [.int .i64 z.version, .slice z.ticks.A z.ticks.l.length z.ticks.c, .int .i64 z.lot, .int .i64 z.band, .slice z.fees.A z.fees.l.length z.fees.c, .int .i64 z.round, .int .i64 z.priority, .int .i64 z.self, .int .i64 z.layout]) (by repeat first | exact .here _ _ | assumption | apply Pick.there)).pick (A := blkA g5 25 [.int .i64 y.version, .slice y.ticks.A y.ticks.l.length y.ticks.c, .int .i64 y.lot, .int .i64 y.band, .slice y.fees.A y.fees.l.length y.fees.c, .int .i64 y.round, .int .i64 y.priority, .int .i64 y.self, .int .i64 y.layout]) (by repeat first | exact .here _ _ | assumption | apply Pick.there)).pick (A := blkA g17 58 [.slice A1 (ruS (⟨bs, false⟩ : Rs)).left.length c1, .bool (ruS (⟨bs, false⟩ : Rs)).bad]) (by repeat first | exact .here _ _ | assumption | apply Pick.there))⟩ rfl rfl rfl (fun w hI => q_not rfl) ?_
    refine p_q hap hsel 27 rfl rfl ⟨_, (((hS.pick (A := blkA g7 25 [.int .i64 z.version, .slice z.ticks.A z.ticks.l.length z.ticks.c, .int .i64 z.lot, .int .i64 z.band, .slice z.fees.A z.fees.l.length z.fees.c, .int .i64 z.round, .int .i64 z.priority, .int .i64 z.self, .int .i64 z.layout]) (by repeat first | exact .here _ _ | assumption | apply Pick.there)).pick (A := blkA g5 25 [.int .i64 y.version, .slice y.ticks.A y.ticks.l.length y.ticks.c, .int .i64 y.lot, .int .i64 y.band, .slice y.fees.A y.fees.l.length y.fees.c, .int .i64 y.round, .int .i64 y.priority, .int .i64 y.self, .int .i64 y.layout]) (by repeat first | exact .here _ _ | assumption | apply Pick.there)).pick (A := blkA g17 58 [.slice A1 (ruS (⟨bs, false⟩ : Rs)).left.length c1, .bool (ruS (⟨bs, false⟩ : Rs)).bad]) (by repeat first | exact .here _ _ | assumption | apply Pick.there))⟩ (fun w hI => q_pick_f rfl rfl) ?_
    refine p_end (by kernel_rfl) ?_
    refine c_cond_f rfl rfl ?_
    refine c_skip ?_
    refine c_seq ?_
    refine c_draw ?_
    refine d_keep (blkA g5 25 [.int .i64 y.version, .slice y.ticks.A y.ticks.l.length y.ticks.c, .int .i64 y.lot, .int .i64 y.band, .slice y.fees.A y.fees.l.length y.fees.c, .int .i64 y.round, .int .i64 y.priority, .int .i64 y.self, .int .i64 y.layout]) 20 [0, 1, 2, 3, 4, 5, 6, 7, 8, 9, 10, 11, 12, 13, 14, 15, 16, 17, 18, 19] [0, 1, 2, 3, 4, 5, 6, 7, 8, 9, 10, 11, 12, 13, 14, 15, 16, 17, 18, 19] hS rfl (by kernel_rfl) (by kernel_rfl) (by kernel_rfl) (by kernel_rfl) (fun hap hsel w hS => ?_)
    refine p_q hap hsel 0 rfl rfl ⟨_, hS.pick (by repeat first | exact .here _ _ | assumption | apply Pick.there)⟩ (fun w hI => q_mv (.bool _) rfl) ?_
    refine p_q hap hsel 1 rfl rfl ⟨_, hS.pick (by repeat first | exact .here _ _ | assumption | apply Pick.there)⟩ (fun w hI => q_not rfl) ?_
    refine p_q hap hsel 2 rfl rfl ⟨_, hS.pick (by repeat first | exact .here _ _ | assumption | apply Pick.there)⟩ (fun w hI => q_mv (.bool _) rfl) ?_
    refine p_yes hap hsel 3 rfl rfl ⟨_, hS.pick (by repeat first | exact .here _ _ | assumption | apply Pick.there)⟩ rfl rfl rfl (fun w hI => (q_cast (v' := .agg y.cells.toArray) (q_load_blk Tryd.isAgg25 Tryd.sizeOf25 rfl (hI.choose_spec.blk (by repeat first | exact .here _ _ | assumption | apply Pick.there)) rfl) (by rfl))) ?_
    refine p_yes hap hsel 6 rfl rfl ⟨_, hS.pick (by repeat first | exact .here _ _ | assumption | apply Pick.there)⟩ rfl rfl rfl (fun w hI => q_mv (.slice _ _ _) rfl) ?_
    refine p_yes hap hsel 7 rfl rfl ⟨_, hS.pick (by repeat first | exact .here _ _ | assumption | apply Pick.there)⟩ rfl rfl rfl (fun w hI => q_mv (.slice _ _ _) rfl) ?_
    refine p_yes hap hsel 8 rfl rfl ⟨_, hS.pick (by repeat first | exact .here _ _ | assumption | apply Pick.there)⟩ rfl rfl rfl (fun w hI => q_len_slice Tryd.runUnderlying43 rfl) ?_
    refine p_yes hap hsel 9 rfl rfl ⟨_, hS.pick (by repeat first | exact .here _ _ | assumption | apply Pick.there)⟩ rfl rfl rfl (fun w hI => q_mv (.pointer _) rfl) ?_
    refine p_one 4 rfl (by kernel_rfl) ?_
    refine t_yes rfl rfl rfl ?_
    refine t_call Tryd.call18 (rbytes9_calls (x := y) (rt_gd hY (rowRdTk (A := y.ticks.A) (l := y.ticks.l) (c := y.ticks.c) (m := y.ticks.l.length) hS (by repeat first | exact .here _ _ | assumption | apply Pick.there) rfl) (rowRdTr (A := y.fees.A) (l := y.fees.l) (c := y.fees.c) (m := y.fees.l.length) hS (by repeat first | exact .here _ _ | assumption | apply Pick.there) rfl))) rfl ?_
    rintro e w ⟨A60, c60, rfl, hT⟩
    refine ⟨_, rfl, ?_⟩
    have hS : St W w (_ :: _) := hS.lift hT
    refine t_nil ?_
    refine ⟨.inr ⟨_, hS.pick (by repeat first | exact .here _ _ | assumption | apply Pick.there)⟩, ?_⟩
    refine p_two 5 10 rfl rfl (by kernel_rfl) ?_ ?_
    ·
      refine t_yes rfl rfl rfl ?_
      refine t_q (q_string Tryd.runUnderlying43 Tryd.runUnderlying5 Tryd.runUnderlying9 rfl rfl (hS.rowRd (A := A60) (c := c60) (bs := ruB y) (by repeat first | exact .here _ _ | assumption | apply Pick.there) rfl)) ?_
      refine t_nil ?_
      refine ⟨.inr ⟨_, hS.pick (by repeat first | exact .here _ _ | assumption | apply Pick.there)⟩, ?_⟩
      refine p_one 10 rfl (by kernel_rfl) ?_
      refine t_yes rfl rfl rfl ?_
      refine t_call Tryd.call26 (rLeft hS (by repeat first | exact .here _ _ | assumption | apply Pick.there)) rfl ?_
      rintro e w ⟨rfl, hS⟩
      refine ⟨_, rfl, ?_⟩
      refine t_nil ?_
      refine ⟨.inr ⟨_, hS.pick (by repeat first | exact .here _ _ | assumption | apply Pick.there)⟩, ?_⟩
      refine p_yes hap hsel 11 rfl rfl ⟨_, hS.pick (by repeat first | exact .here _ _ | assumption | apply Pick.there)⟩ rfl rfl rfl (fun w hI => q_sub_i64 rfl rfl (by omega)) ?_
      refine p_yes hap hsel 12 rfl rfl ⟨_, hS.pick (by repeat first | exact .here _ _ | assumption | apply Pick.there)⟩ rfl rfl rfl (fun w hI => q_slice Tryd.runUnderlying43 Tryd.sizeOf5 rfl ⟨_, _, rfl, by omega, by omega, rfl⟩ rfl) ?_
      refine p_yes hap hsel 13 rfl rfl ⟨_, hS.pick (by repeat first | exact .here _ _ | assumption | apply Pick.there)⟩ rfl rfl rfl (fun w hI => q_string Tryd.runUnderlying43 Tryd.runUnderlying5 Tryd.runUnderlying9 rfl (by rw [List.length_take]; omega) (take_rd (k := bs.length - (ruS (⟨bs, false⟩ : Rs)).left.length) (hR.st hI.choose_spec) (by omega) hc)) ?_
      refine p_yes hap hsel 14 rfl rfl ⟨_, hS.pick (by repeat first | exact .here _ _ | assumption | apply Pick.there)⟩ rfl rfl rfl (fun w hI => (q_cast (v' := .bool true) (q_eql_string rfl rfl) (by rw [htake y hY]; simp))) ?_
      refine p_q hap hsel 15 rfl rfl ⟨_, hS.pick (by repeat first | exact .here _ _ | assumption | apply Pick.there)⟩ (fun w hI => q_pick_f rfl rfl) ?_
      refine p_q hap hsel 16 rfl rfl ⟨_, hS.pick (by repeat first | exact .here _ _ | assumption | apply Pick.there)⟩ (fun w hI => q_mv (.bool _) rfl) ?_
      refine p_one 17 rfl (by kernel_rfl) ?_
      refine t_yes rfl rfl rfl ?_
      refine t_call Tryd.call9 (r9lives_calls (hE.st hS)) rfl ?_
      rintro e w ⟨rfl, hT⟩
      refine ⟨_, rfl, ?_⟩
      replace hS := hS.after hT
      refine t_nil ?_
      refine ⟨.inr ⟨_, hS.pick (by repeat first | exact .here _ _ | assumption | apply Pick.there)⟩, ?_⟩
      refine p_q hap hsel 18 rfl rfl ⟨_, hS.pick (by repeat first | exact .here _ _ | assumption | apply Pick.there)⟩ (fun w hI => q_pick_t rfl rfl) ?_
      refine p_q hap hsel 19 rfl rfl ⟨_, hS.pick (by repeat first | exact .here _ _ | assumption | apply Pick.there)⟩ (fun w hI => q_as (.bool _) rfl) ?_
      refine p_end (by kernel_rfl) ?_
      refine c_ret ?_
      refine r_one rfl rfl ?_
      exact ⟨rfl, hS.nil⟩
    ·
      refine t_yes rfl rfl rfl ?_
      refine t_call Tryd.call26 (rLeft hS (by repeat first | exact .here _ _ | assumption | apply Pick.there)) rfl ?_
      rintro e w ⟨rfl, hS⟩
      refine ⟨_, rfl, ?_⟩
      refine t_nil ?_
      refine ⟨.inr ⟨_, hS.pick (by repeat first | exact .here _ _ | assumption | apply Pick.there)⟩, ?_⟩
      refine p_yes hap hsel 11 rfl rfl ⟨_, hS.pick (by repeat first | exact .here _ _ | assumption | apply Pick.there)⟩ rfl rfl rfl (fun w hI => q_sub_i64 rfl rfl (by omega)) ?_
      refine p_yes hap hsel 12 rfl rfl ⟨_, hS.pick (by repeat first | exact .here _ _ | assumption | apply Pick.there)⟩ rfl rfl rfl (fun w hI => q_slice Tryd.runUnderlying43 Tryd.sizeOf5 rfl ⟨_, _, rfl, by omega, by omega, rfl⟩ rfl) ?_
      refine p_yes hap hsel 13 rfl rfl ⟨_, hS.pick (by repeat first | exact .here _ _ | assumption | apply Pick.there)⟩ rfl rfl rfl (fun w hI => q_string Tryd.runUnderlying43 Tryd.runUnderlying5 Tryd.runUnderlying9 rfl (by rw [List.length_take]; omega) (take_rd (k := bs.length - (ruS (⟨bs, false⟩ : Rs)).left.length) (hR.st hI.choose_spec) (by omega) hc)) ?_
      refine p_one 5 rfl (by kernel_rfl) ?_
      refine t_yes rfl rfl rfl ?_
      refine t_q (q_string Tryd.runUnderlying43 Tryd.runUnderlying5 Tryd.runUnderlying9 rfl rfl (hS.rowRd (A := A60) (c := c60) (bs := ruB y) (by repeat first | exact .here _ _ | assumption | apply Pick.there) rfl)) ?_
      refine t_nil ?_
      refine ⟨.inr ⟨_, hS.pick (by repeat first | exact .here _ _ | assumption | apply Pick.there)⟩, ?_⟩
      refine p_yes hap hsel 14 rfl rfl ⟨_, hS.pick (by repeat first | exact .here _ _ | assumption | apply Pick.there)⟩ rfl rfl rfl (fun w hI => (q_cast (v' := .bool true) (q_eql_string rfl rfl) (by rw [htake y hY]; simp))) ?_
      refine p_q hap hsel 15 rfl rfl ⟨_, hS.pick (by repeat first | exact .here _ _ | assumption | apply Pick.there)⟩ (fun w hI => q_pick_f rfl rfl) ?_
      refine p_q hap hsel 16 rfl rfl ⟨_, hS.pick (by repeat first | exact .here _ _ | assumption | apply Pick.there)⟩ (fun w hI => q_mv (.bool _) rfl) ?_
      refine p_one 17 rfl (by kernel_rfl) ?_
      refine t_yes rfl rfl rfl ?_
      refine t_call Tryd.call9 (r9lives_calls (hE.st hS)) rfl ?_
      rintro e w ⟨rfl, hT⟩
      refine ⟨_, rfl, ?_⟩
      replace hS := hS.after hT
      refine t_nil ?_
      refine ⟨.inr ⟨_, hS.pick (by repeat first | exact .here _ _ | assumption | apply Pick.there)⟩, ?_⟩
      refine p_q hap hsel 18 rfl rfl ⟨_, hS.pick (by repeat first | exact .here _ _ | assumption | apply Pick.there)⟩ (fun w hI => q_pick_t rfl rfl) ?_
      refine p_q hap hsel 19 rfl rfl ⟨_, hS.pick (by repeat first | exact .here _ _ | assumption | apply Pick.there)⟩ (fun w hI => q_as (.bool _) rfl) ?_
      refine p_end (by kernel_rfl) ?_
      refine c_ret ?_
      refine r_one rfl rfl ?_
      exact ⟨rfl, hS.nil⟩
set_option maxHeartbeats 4000000 in
set_option maxRecDepth 100000 in
theorem rreads_no {A : Option Addr} {c : Nat} {bs : List UInt8} (hE : EtOk W) (hR : RdB W A bs) (hc : bs.length ≤ c ∧ bs.length ≤ 9223372036854775807) (hno : ruOk (⟨bs, false⟩ : Rs) = false) : Calls Tryd.prog 7 #[.slice A bs.length c] W fun e w' => e = .returned (.bool true) ∧ St W w' [] := by
  have hS := St.init W
  refine calls_of_wpE (args := [_]) Tryd.func7 rfl rfl rfl ?_
  refine c_seq ?_
  refine c_region ?_
  refine t_q (q_assign) ?_
  refine t_nil ?_
  refine c_seq ?_
  refine c_seq ?_
  refine c_region ?_
  refine t_q (q_mv (.slice _ _ _) rfl) ?_
  refine t_q (q_len_slice Tryd.runUnderlying43 rfl) ?_
  refine t_q (q_gtr rfl rfl) ?_
  refine t_nil ?_
  refine c_cond rfl ?_ ?_
  · intro hc2
    have hc2d := of_decide_eq_true hc2
    refine c_seq ?_
    refine c_region ?_
    refine t_call Tryd.call9 (r9lives_calls (hE.st hS)) rfl ?_
    rintro e w ⟨rfl, hT⟩
    refine ⟨_, rfl, ?_⟩
    replace hS := hS.after hT
    refine t_q (q_as (.bool _) rfl) ?_
    refine t_nil ?_
    refine c_ret ?_
    refine r_one rfl rfl ?_
    exact ⟨rfl, hS.nil⟩
  · intro hc2
    have hc2d := of_decide_eq_false hc2
    refine c_skip ?_
    refine c_seq ?_
    refine c_region ?_
    refine t_q (q_mv (.slice _ _ _) rfl) ?_
    refine t_call Tryd.call22 (Open_calls hS hR hc) rfl ?_
    rintro e w ⟨g13, rfl, hS⟩
    refine ⟨_, rfl, ?_⟩
    refine t_q (q_as (.pointer _) rfl) ?_
    refine t_nil ?_
    refine c_seq ?_
    refine c_region ?_
    refine t_q (q_mv (.slice _ _ _) rfl) ?_
    refine t_q (q_build (qs := [(0, 1), (1, 1)]) [(.slice _ _ _), (.bool _)] Tryd.zeroValue58 Tryd.runUnderlying58 ⟨rfl, Tryd.sizeOf43, rfl, Tryd.sizeOf4, trivial⟩ rfl rfl) ?_
    refine t_box (v := (.agg _)) rfl rfl hS (fun g17 w hS => ?_)
    replace hS := hS.recast (show _ = blkA g17 58 [.slice A bs.length c, .bool false] from rfl)
    replace hS := hS.unrdr (s := (⟨bs, false⟩ : Rs)) rfl rfl hR hc
    refine t_q (q_as (.pointer _) rfl) ?_
    refine t_nil ?_
    refine c_seq ?_
    refine c_region ?_
    refine t_q (q_mv (.pointer _) rfl) ?_
    refine t_call Tryd.call23 (rread_calls (s := (⟨bs, false⟩ : Rs)) hS (by repeat first | exact .here _ _ | assumption | apply Pick.there)) rfl ?_
    rintro e w ⟨y, rfl, hY, hS⟩
    refine ⟨_, rfl, ?_⟩
    rw [hno]
    replace hS := hS.recast (congrArg (rdrA W 93 g13) (ruT_no (A := none) (c := 0) (B := none) (d := 0) hno).2)
    refine t_q (q_mv (.tuple _) rfl) ?_
    refine t_q (q_extract rfl rfl) ?_
    refine t_q (q_extract rfl rfl) ?_
    refine t_alloc Tryd.zeroValue25 rfl hS (fun g5 w hS => ?_)
    refine t_store (v := (.agg _)) Tryd.sizeOf25 hS (by repeat first | exact .here _ _ | assumption | apply Pick.there) rfl rfl rfl rfl rfl rfl (fun w hS => ?_)
    replace hS := hS.recast (congrArg (blkA g5 25) (rset_full (vs := y.cells) rfl))
    replace hS := hS.recast (show _ = blkA g5 25 [.int .i64 y.version, .slice y.ticks.A y.ticks.l.length y.ticks.c, .int .i64 y.lot, .int .i64 y.band, .slice y.fees.A y.fees.l.length y.fees.c, .int .i64 y.round, .int .i64 y.priority, .int .i64 y.self, .int .i64 y.layout] from rfl)
    refine t_q (q_as (.bool _) rfl) ?_
    refine t_nil ?_
    refine c_seq ?_
    refine c_region ?_
    refine t_q (q_mv (.pointer _) rfl) ?_
    refine t_call Tryd.call27 (qrread_calls (s := (⟨bs, false⟩ : Rs)) hS (by repeat first | exact .here _ _ | assumption | apply Pick.there)) rfl ?_
    rintro e w ⟨z, rfl, hZ, hS⟩
    refine ⟨_, rfl, ?_⟩
    rw [hno]
    replace hS := hS.recast (congrArg (rdrA W 58 g17) (ruT_no (A := none) (c := 0) (B := none) (d := 0) hno).2)
    refine t_q (q_mv (.tuple _) rfl) ?_
    refine t_q (q_extract rfl rfl) ?_
    refine t_q (q_extract rfl rfl) ?_
    refine t_alloc Tryd.zeroValue25 rfl hS (fun g7 w hS => ?_)
    refine t_store (v := (.agg _)) Tryd.sizeOf25 hS (by repeat first | exact .here _ _ | assumption | apply Pick.there) rfl rfl rfl rfl rfl rfl (fun w hS => ?_)
    replace hS := hS.recast (congrArg (blkA g7 25) (rset_full (vs := z.cells) rfl))
    replace hS := hS.recast (show _ = blkA g7 25 [.int .i64 z.version, .slice z.ticks.A z.ticks.l.length z.ticks.c, .int .i64 z.lot, .int .i64 z.band, .slice z.fees.A z.fees.l.length z.fees.c, .int .i64 z.round, .int .i64 z.priority, .int .i64 z.self, .int .i64 z.layout] from rfl)
    refine t_q (q_as (.bool _) rfl) ?_
    refine t_nil ?_
    refine c_seq ?_
    refine c_seq ?_
    obtain ⟨A1, c1, hR1, hc1, hS⟩ := (hS.pick (A := rdrA W 58 g17 _) (by repeat first | exact .here _ _ | assumption | apply Pick.there)).rdr
    refine c_draw ?_
    refine d_keep3 (blkA g17 58 [.slice A1 (⟨bs, false⟩ : Rs).fail.left.length c1, .bool (⟨bs, false⟩ : Rs).fail.bad]) (blkA g5 25 [.int .i64 y.version, .slice y.ticks.A y.ticks.l.length y.ticks.c, .int .i64 y.lot, .int .i64 y.band, .slice y.fees.A y.fees.l.length y.fees.c, .int .i64 y.round, .int .i64 y.priority, .int .i64 y.self, .int .i64 y.layout]) (blkA g7 25 [.int .i64 z.version, .slice z.ticks.A z.ticks.l.length z.ticks.c, .int .i64 z.lot, .int .i64 z.band, .slice z.fees.A z.fees.l.length z.fees.c, .int .i64 z.round, .int .i64 z.priority, .int .i64 z.self, .int .i64 z.layout]) 28 [0, 1, 2, 3, 4, 5, 6, 7, 8, 9, 10, 11, 12, 13, 14, 15, 16, 17, 18, 19, 20, 21, 22, 23, 24, 25, 26, 27] [0, 1, 2, 3, 4, 5, 6, 7, 8, 9, 10, 11, 12, 13, 14, 15, 16, 17, 18, 19, 20, 21, 22, 23, 24, 25, 26, 27] hS rfl (by kernel_rfl) (by kernel_rfl) (by kernel_rfl) (by kernel_rfl) (fun hap hsel w hS => ?_)
    refine p_q hap hsel 0 rfl rfl ⟨_, (((hS.pick (A := blkA g7 25 [.int .i64 z.version, .slice z.ticks.A z.ticks.l.length z.ticks.c, .int .i64 z.lot, .int .i64 z.band, .slice z.fees.A z.fees.l.length z.fees.c, .int .i64 z.round, .int .i64 z.priority, .int .i64 z.self, .int .i64 z.layout]) (by repeat first | exact .here _ _ | assumption | apply Pick.there)).pick (A := blkA g5 25 [.int .i64 y.version, .slice y.ticks.A y.ticks.l.length y.ticks.c, .int .i64 y.lot, .int .i64 y.band, .slice y.fees.A y.fees.l.length y.fees.c, .int .i64 y.round, .int .i64 y.priority, .int .i64 y.self, .int .i64 y.layout]) (by repeat first | exact .here _ _ | assumption | apply Pick.there)).pick (A := blkA g17 58 [.slice A1 (⟨bs, false⟩ : Rs).fail.left.length c1, .bool (⟨bs, false⟩ : Rs).fail.bad]) (by repeat first | exact .here _ _ | assumption | apply Pick.there))⟩ (fun w hI => q_mv (.bool _) rfl) ?_
    refine p_q hap hsel 1 rfl rfl ⟨_, (((hS.pick (A := blkA g7 25 [.int .i64 z.version, .slice z.ticks.A z.ticks.l.length z.ticks.c, .int .i64 z.lot, .int .i64 z.band, .slice z.fees.A z.fees.l.length z.fees.c, .int .i64 z.round, .int .i64 z.priority, .int .i64 z.self, .int .i64 z.layout]) (by repeat first | exact .here _ _ | assumption | apply Pick.there)).pick (A := blkA g5 25 [.int .i64 y.version, .slice y.ticks.A y.ticks.l.length y.ticks.c, .int .i64 y.lot, .int .i64 y.band, .slice y.fees.A y.fees.l.length y.fees.c, .int .i64 y.round, .int .i64 y.priority, .int .i64 y.self, .int .i64 y.layout]) (by repeat first | exact .here _ _ | assumption | apply Pick.there)).pick (A := blkA g17 58 [.slice A1 (⟨bs, false⟩ : Rs).fail.left.length c1, .bool (⟨bs, false⟩ : Rs).fail.bad]) (by repeat first | exact .here _ _ | assumption | apply Pick.there))⟩ (fun w hI => q_mv (.bool _) rfl) ?_
    refine p_q hap hsel 2 rfl rfl ⟨_, (((hS.pick (A := blkA g7 25 [.int .i64 z.version, .slice z.ticks.A z.ticks.l.length z.ticks.c, .int .i64 z.lot, .int .i64 z.band, .slice z.fees.A z.fees.l.length z.fees.c, .int .i64 z.round, .int .i64 z.priority, .int .i64 z.self, .int .i64 z.layout]) (by repeat first | exact .here _ _ | assumption | apply Pick.there)).pick (A := blkA g5 25 [.int .i64 y.version, .slice y.ticks.A y.ticks.l.length y.ticks.c, .int .i64 y.lot, .int .i64 y.band, .slice y.fees.A y.fees.l.length y.fees.c, .int .i64 y.round, .int .i64 y.priority, .int .i64 y.self, .int .i64 y.layout]) (by repeat first | exact .here _ _ | assumption | apply Pick.there)).pick (A := blkA g17 58 [.slice A1 (⟨bs, false⟩ : Rs).fail.left.length c1, .bool (⟨bs, false⟩ : Rs).fail.bad]) (by repeat first | exact .here _ _ | assumption | apply Pick.there))⟩ (fun w hI => (q_cast (v' := .bool false) (q_neq_bool Tryd.runUnderlying4 rfl rfl) (by rfl))) ?_
    refine p_q hap hsel 3 rfl rfl ⟨_, (((hS.pick (A := blkA g7 25 [.int .i64 z.version, .slice z.ticks.A z.ticks.l.length z.ticks.c, .int .i64 z.lot, .int .i64 z.band, .slice z.fees.A z.fees.l.length z.fees.c, .int .i64 z.round, .int .i64 z.priority, .int .i64 z.self, .int .i64 z.layout]) (by repeat first | exact .here _ _ | assumption | apply Pick.there)).pick (A := blkA g5 25 [.int .i64 y.version, .slice y.ticks.A y.ticks.l.length y.ticks.c, .int .i64 y.lot, .int .i64 y.band, .slice y.fees.A y.fees.l.length y.fees.c, .int .i64 y.round, .int .i64 y.priority, .int .i64 y.self, .int .i64 y.layout]) (by repeat first | exact .here _ _ | assumption | apply Pick.there)).pick (A := blkA g17 58 [.slice A1 (⟨bs, false⟩ : Rs).fail.left.length c1, .bool (⟨bs, false⟩ : Rs).fail.bad]) (by repeat first | exact .here _ _ | assumption | apply Pick.there))⟩ (fun w hI => q_mv (.bool _) rfl) ?_
    refine p_yes hap hsel 4 rfl rfl ⟨_, (((hS.pick (A := blkA g7 25 [.int .i64 z.version, .slice z.ticks.A z.ticks.l.length z.ticks.c, .int .i64 z.lot, .int .i64 z.band, .slice z.fees.A z.fees.l.length z.fees.c, .int .i64 z.round, .int .i64 z.priority, .int .i64 z.self, .int .i64 z.layout]) (by repeat first | exact .here _ _ | assumption | apply Pick.there)).pick (A := blkA g5 25 [.int .i64 y.version, .slice y.ticks.A y.ticks.l.length y.ticks.c, .int .i64 y.lot, .int .i64 y.band, .slice y.fees.A y.fees.l.length y.fees.c, .int .i64 y.round, .int .i64 y.priority, .int .i64 y.self, .int .i64 y.layout]) (by repeat first | exact .here _ _ | assumption | apply Pick.there)).pick (A := blkA g17 58 [.slice A1 (⟨bs, false⟩ : Rs).fail.left.length c1, .bool (⟨bs, false⟩ : Rs).fail.bad]) (by repeat first | exact .here _ _ | assumption | apply Pick.there))⟩ rfl rfl rfl (fun w hI => q_mv (.pointer _) rfl) ?_
    refine p_yes hap hsel 6 rfl rfl ⟨_, (((hS.pick (A := blkA g7 25 [.int .i64 z.version, .slice z.ticks.A z.ticks.l.length z.ticks.c, .int .i64 z.lot, .int .i64 z.band, .slice z.fees.A z.fees.l.length z.fees.c, .int .i64 z.round, .int .i64 z.priority, .int .i64 z.self, .int .i64 z.layout]) (by repeat first | exact .here _ _ | assumption | apply Pick.there)).pick (A := blkA g5 25 [.int .i64 y.version, .slice y.ticks.A y.ticks.l.length y.ticks.c, .int .i64 y.lot, .int .i64 y.band, .slice y.fees.A y.fees.l.length y.fees.c, .int .i64 y.round, .int .i64 y.priority, .int .i64 y.self, .int .i64 y.layout]) (by repeat first | exact .here _ _ | assumption | apply Pick.there)).pick (A := blkA g17 58 [.slice A1 (⟨bs, false⟩ : Rs).fail.left.length c1, .bool (⟨bs, false⟩ : Rs).fail.bad]) (by repeat first | exact .here _ _ | assumption | apply Pick.there))⟩ rfl rfl rfl (fun w hI => q_mv (.pointer _) rfl) ?_
    refine p_yes hap hsel 7 rfl rfl ⟨_, (((hS.pick (A := blkA g7 25 [.int .i64 z.version, .slice z.ticks.A z.ticks.l.length z.ticks.c, .int .i64 z.lot, .int .i64 z.band, .slice z.fees.A z.fees.l.length z.fees.c, .int .i64 z.round, .int .i64 z.priority, .int .i64 z.self, .int .i64 z.layout]) (by repeat first | exact .here _ _ | assumption | apply Pick.there)).pick (A := blkA g5 25 [.int .i64 y.version, .slice y.ticks.A y.ticks.l.length y.ticks.c, .int .i64 y.lot, .int .i64 y.band, .slice y.fees.A y.fees.l.length y.fees.c, .int .i64 y.round, .int .i64 y.priority, .int .i64 y.self, .int .i64 y.layout]) (by repeat first | exact .here _ _ | assumption | apply Pick.there)).pick (A := blkA g17 58 [.slice A1 (⟨bs, false⟩ : Rs).fail.left.length c1, .bool (⟨bs, false⟩ : Rs).fail.bad]) (by repeat first | exact .here _ _ | assumption | apply Pick.there))⟩ rfl rfl rfl (fun w hI => q_nilCheck rfl) ?_
    refine p_yes hap hsel 8 rfl rfl ⟨_, (((hS.pick (A := blkA g7 25 [.int .i64 z.version, .slice z.ticks.A z.ticks.l.length z.ticks.c, .int .i64 z.lot, .int .i64 z.band, .slice z.fees.A z.fees.l.length z.fees.c, .int .i64 z.round, .int .i64 z.priority, .int .i64 z.self, .int .i64 z.layout]) (by repeat first | exact .here _ _ | assumption | apply Pick.there)).pick (A := blkA g5 25 [.int .i64 y.version, .slice y.ticks.A y.ticks.l.length y.ticks.c, .int .i64 y.lot, .int .i64 y.band, .slice y.fees.A y.fees.l.length y.fees.c, .int .i64 y.round, .int .i64 y.priority, .int .i64 y.self, .int .i64 y.layout]) (by repeat first | exact .here _ _ | assumption | apply Pick.there)).pick (A := blkA g17 58 [.slice A1 (⟨bs, false⟩ : Rs).fail.left.length c1, .bool (⟨bs, false⟩ : Rs).fail.bad]) (by repeat first | exact .here _ _ | assumption | apply Pick.there))⟩ rfl rfl rfl (fun w hI => q_fieldAddr 0 Tryd.runUnderlying58 rfl Tryd.sizeOf43 (by decide) rfl rfl) ?_
    refine p_yes hap hsel 9 rfl rfl ⟨_, (((hS.pick (A := blkA g7 25 [.int .i64 z.version, .slice z.ticks.A z.ticks.l.length z.ticks.c, .int .i64 z.lot, .int .i64 z.band, .slice z.fees.A z.fees.l.length z.fees.c, .int .i64 z.round, .int .i64 z.priority, .int .i64 z.self, .int .i64 z.layout]) (by repeat first | exact .here _ _ | assumption | apply Pick.there)).pick (A := blkA g5 25 [.int .i64 y.version, .slice y.ticks.A y.ticks.l.length y.ticks.c, .int .i64 y.lot, .int .i64 y.band, .slice y.fees.A y.fees.l.length y.fees.c, .int .i64 y.round, .int .i64 y.priority, .int .i64 y.self, .int .i64 y.layout]) (by repeat first | exact .here _ _ | assumption | apply Pick.there)).pick (A := blkA g17 58 [.slice A1 (⟨bs, false⟩ : Rs).fail.left.length c1, .bool (⟨bs, false⟩ : Rs).fail.bad]) (by repeat first | exact .here _ _ | assumption | apply Pick.there))⟩ rfl rfl rfl (fun w hI => q_load1 Tryd.isAgg43 rfl (hI.choose_spec.cell (by repeat first | exact .here _ _ | assumption | apply Pick.there) rfl)) ?_
    refine p_yes hap hsel 10 rfl rfl ⟨_, (((hS.pick (A := blkA g7 25 [.int .i64 z.version, .slice z.ticks.A z.ticks.l.length z.ticks.c, .int .i64 z.lot, .int .i64 z.band, .slice z.fees.A z.fees.l.length z.fees.c, .int .i64 z.round, .int .i64 z.priority, .int .i64 z.self, .int .i64 z.layout]) (by repeat first | exact .here _ _ | assumption | apply Pick.there)).pick (A := blkA g5 25 [.int .i64 y.version, .slice y.ticks.A y.ticks.l.length y.ticks.c, .int .i64 y.lot, .int .i64 y.band, .slice y.fees.A y.fees.l.length y.fees.c, .int .i64 y.round, .int .i64 y.priority, .int .i64 y.self, .int .i64 y.layout]) (by repeat first | exact .here _ _ | assumption | apply Pick.there)).pick (A := blkA g17 58 [.slice A1 (⟨bs, false⟩ : Rs).fail.left.length c1, .bool (⟨bs, false⟩ : Rs).fail.bad]) (by repeat first | exact .here _ _ | assumption | apply Pick.there))⟩ rfl rfl rfl (fun w hI => q_len_slice Tryd.runUnderlying43 rfl) ?_
    refine p_one 5 rfl (by kernel_rfl) ?_
    refine t_yes rfl rfl rfl ?_
    refine t_call Tryd.call26 (rLeft hS (by repeat first | exact .here _ _ | assumption | apply Pick.there)) rfl ?_
    rintro e w ⟨rfl, hS⟩
    refine ⟨_, rfl, ?_⟩
    refine t_nil ?_
    refine ⟨.inr ⟨_, (((hS.pick (A := blkA g7 25 [.int .i64 z.version, .slice z.ticks.A z.ticks.l.length z.ticks.c, .int .i64 z.lot, .int .i64 z.band, .slice z.fees.A z.fees.l.length z.fees.c, .int .i64 z.round, .int .i64 z.priority, .int .i64 z.self, .int .i64 z.layout]) (by repeat first | exact .here _ _ | assumption | apply Pick.there)).pick (A := blkA g5 25 [.int .i64 y.version, .slice y.ticks.A y.ticks.l.length y.ticks.c, .int .i64 y.lot, .int .i64 y.band, .slice y.fees.A y.fees.l.length y.fees.c, .int .i64 y.round, .int .i64 y.priority, .int .i64 y.self, .int .i64 y.layout]) (by repeat first | exact .here _ _ | assumption | apply Pick.there)).pick (A := blkA g17 58 [.slice A1 (⟨bs, false⟩ : Rs).fail.left.length c1, .bool (⟨bs, false⟩ : Rs).fail.bad]) (by repeat first | exact .here _ _ | assumption | apply Pick.there))⟩, ?_⟩
    refine p_yes hap hsel 11 rfl rfl ⟨_, (((hS.pick (A := blkA g7 25 [.int .i64 z.version, .slice z.ticks.A z.ticks.l.length z.ticks.c, .int .i64 z.lot, .int .i64 z.band, .slice z.fees.A z.fees.l.length z.fees.c, .int .i64 z.round, .int .i64 z.priority, .int .i64 z.self, .int .i64 z.layout]) (by repeat first | exact .here _ _ | assumption | apply Pick.there)).pick (A := blkA g5 25 [.int .i64 y.version, .slice y.ticks.A y.ticks.l.length y.ticks.c, .int .i64 y.lot, .int .i64 y.band, .slice y.fees.A y.fees.l.length y.fees.c, .int .i64 y.round, .int .i64 y.priority, .int .i64 y.self, .int .i64 y.layout]) (by repeat first | exact .here _ _ | assumption | apply Pick.there)).pick (A := blkA g17 58 [.slice A1 (⟨bs, false⟩ : Rs).fail.left.length c1, .bool (⟨bs, false⟩ : Rs).fail.bad]) (by repeat first | exact .here _ _ | assumption | apply Pick.there))⟩ rfl rfl rfl (fun w hI => (q_cast (v' := .bool false) (q_neq rfl rfl) (by simp))) ?_
    refine p_q hap hsel 12 rfl rfl ⟨_, (((hS.pick (A := blkA g7 25 [.int .i64 z.version, .slice z.ticks.A z.ticks.l.length z.ticks.c, .int .i64 z.lot, .int .i64 z.band, .slice z.fees.A z.fees.l.length z.fees.c, .int .i64 z.round, .int .i64 z.priority, .int .i64 z.self, .int .i64 z.layout]) (by repeat first | exact .here _ _ | assumption | apply Pick.there)).pick (A := blkA g5 25 [.int .i64 y.version, .slice y.ticks.A y.ticks.l.length y.ticks.c, .int .i64 y.lot, .int .i64 y.band, .slice y.fees.A y.fees.l.length y.fees.c, .int .i64 y.round, .int .i64 y.priority, .int .i64 y.self, .int .i64 y.layout]) (by repeat first | exact .here _ _ | assumption | apply Pick.there)).pick (A := blkA g17 58 [.slice A1 (⟨bs, false⟩ : Rs).fail.left.length c1, .bool (⟨bs, false⟩ : Rs).fail.bad]) (by repeat first | exact .here _ _ | assumption | apply Pick.there))⟩ (fun w hI => q_pick_f rfl rfl) ?_
    refine p_q hap hsel 13 rfl rfl ⟨_, (((hS.pick (A := blkA g7 25 [.int .i64 z.version, .slice z.ticks.A z.ticks.l.length z.ticks.c, .int .i64 z.lot, .int .i64 z.band, .slice z.fees.A z.fees.l.length z.fees.c, .int .i64 z.round, .int .i64 z.priority, .int .i64 z.self, .int .i64 z.layout]) (by repeat first | exact .here _ _ | assumption | apply Pick.there)).pick (A := blkA g5 25 [.int .i64 y.version, .slice y.ticks.A y.ticks.l.length y.ticks.c, .int .i64 y.lot, .int .i64 y.band, .slice y.fees.A y.fees.l.length y.fees.c, .int .i64 y.round, .int .i64 y.priority, .int .i64 y.self, .int .i64 y.layout]) (by repeat first | exact .here _ _ | assumption | apply Pick.there)).pick (A := blkA g17 58 [.slice A1 (⟨bs, false⟩ : Rs).fail.left.length c1, .bool (⟨bs, false⟩ : Rs).fail.bad]) (by repeat first | exact .here _ _ | assumption | apply Pick.there))⟩ (fun w hI => q_mv (.bool _) rfl) ?_
    refine p_yes hap hsel 14 rfl rfl ⟨_, (((hS.pick (A := blkA g7 25 [.int .i64 z.version, .slice z.ticks.A z.ticks.l.length z.ticks.c, .int .i64 z.lot, .int .i64 z.band, .slice z.fees.A z.fees.l.length z.fees.c, .int .i64 z.round, .int .i64 z.priority, .int .i64 z.self, .int .i64 z.layout]) (by repeat first | exact .here _ _ | assumption | apply Pick.there)).pick (A := blkA g5 25 [.int .i64 y.version, .slice y.ticks.A y.ticks.l.length y.ticks.c, .int .i64 y.lot, .int .i64 y.band, .slice y.fees.A y.fees.l.length y.fees.c, .int .i64 y.round, .int .i64 y.priority, .int .i64 y.self, .int .i64 y.layout]) (by repeat first | exact .here _ _ | assumption | apply Pick.there)).pick (A := blkA g17 58 [.slice A1 (⟨bs, false⟩ : Rs).fail.left.length c1, .bool (⟨bs, false⟩ : Rs).fail.bad]) (by repeat first | exact .here _ _ | assumption | apply Pick.there))⟩ rfl rfl rfl (fun w hI => q_mv (.pointer _) rfl) ?_
    refine p_yes hap hsel 16 rfl rfl ⟨_, (((hS.pick (A := blkA g7 25 [.int .i64 z.version, .slice z.ticks.A z.ticks.l.length z.ticks.c, .int .i64 z.lot, .int .i64 z.band, .slice z.fees.A z.fees.l.length z.fees.c, .int .i64 z.round, .int .i64 z.priority, .int .i64 z.self, .int .i64 z.layout]) (by repeat first | exact .here _ _ | assumption | apply Pick.there)).pick (A := blkA g5 25 [.int .i64 y.version, .slice y.ticks.A y.ticks.l.length y.ticks.c, .int .i64 y.lot, .int .i64 y.band, .slice y.fees.A y.fees.l.length y.fees.c, .int .i64 y.round, .int .i64 y.priority, .int .i64 y.self, .int .i64 y.layout]) (by repeat first | exact .here _ _ | assumption | apply Pick.there)).pick (A := blkA g17 58 [.slice A1 (⟨bs, false⟩ : Rs).fail.left.length c1, .bool (⟨bs, false⟩ : Rs).fail.bad]) (by repeat first | exact .here _ _ | assumption | apply Pick.there))⟩ rfl rfl rfl (fun w hI => q_mv (.pointer _) rfl) ?_
    refine p_yes hap hsel 17 rfl rfl ⟨_, (((hS.pick (A := blkA g7 25 [.int .i64 z.version, .slice z.ticks.A z.ticks.l.length z.ticks.c, .int .i64 z.lot, .int .i64 z.band, .slice z.fees.A z.fees.l.length z.fees.c, .int .i64 z.round, .int .i64 z.priority, .int .i64 z.self, .int .i64 z.layout]) (by repeat first | exact .here _ _ | assumption | apply Pick.there)).pick (A := blkA g5 25 [.int .i64 y.version, .slice y.ticks.A y.ticks.l.length y.ticks.c, .int .i64 y.lot, .int .i64 y.band, .slice y.fees.A y.fees.l.length y.fees.c, .int .i64 y.round, .int .i64 y.priority, .int .i64 y.self, .int .i64 y.layout]) (by repeat first | exact .here _ _ | assumption | apply Pick.there)).pick (A := blkA g17 58 [.slice A1 (⟨bs, false⟩ : Rs).fail.left.length c1, .bool (⟨bs, false⟩ : Rs).fail.bad]) (by repeat first | exact .here _ _ | assumption | apply Pick.there))⟩ rfl rfl rfl (fun w hI => q_nilCheck rfl) ?_
    refine p_yes hap hsel 18 rfl rfl ⟨_, (((hS.pick (A := blkA g7 25 [.int .i64 z.version, .slice z.ticks.A z.ticks.l.length z.ticks.c, .int .i64 z.lot, .int .i64 z.band, .slice z.fees.A z.fees.l.length z.fees.c, .int .i64 z.round, .int .i64 z.priority, .int .i64 z.self, .int .i64 z.layout]) (by repeat first | exact .here _ _ | assumption | apply Pick.there)).pick (A := blkA g5 25 [.int .i64 y.version, .slice y.ticks.A y.ticks.l.length y.ticks.c, .int .i64 y.lot, .int .i64 y.band, .slice y.fees.A y.fees.l.length y.fees.c, .int .i64 y.round, .int .i64 y.priority, .int .i64 y.self, .int .i64 y.layout]) (by repeat first | exact .here _ _ | assumption | apply Pick.there)).pick (A := blkA g17 58 [.slice A1 (⟨bs, false⟩ : Rs).fail.left.length c1, .bool (⟨bs, false⟩ : Rs).fail.bad]) (by repeat first | exact .here _ _ | assumption | apply Pick.there))⟩ rfl rfl rfl (fun w hI => q_fieldAddr 1 Tryd.runUnderlying58 rfl Tryd.sizeOf4 (by decide) rfl rfl) ?_
    refine p_yes hap hsel 19 rfl rfl ⟨_, (((hS.pick (A := blkA g7 25 [.int .i64 z.version, .slice z.ticks.A z.ticks.l.length z.ticks.c, .int .i64 z.lot, .int .i64 z.band, .slice z.fees.A z.fees.l.length z.fees.c, .int .i64 z.round, .int .i64 z.priority, .int .i64 z.self, .int .i64 z.layout]) (by repeat first | exact .here _ _ | assumption | apply Pick.there)).pick (A := blkA g5 25 [.int .i64 y.version, .slice y.ticks.A y.ticks.l.length y.ticks.c, .int .i64 y.lot, .int .i64 y.band, .slice y.fees.A y.fees.l.length y.fees.c, .int .i64 y.round, .int .i64 y.priority, .int .i64 y.self, .int .i64 y.layout]) (by repeat first | exact .here _ _ | assumption | apply Pick.there)).pick (A := blkA g17 58 [.slice A1 (⟨bs, false⟩ : Rs).fail.left.length c1, .bool (⟨bs, false⟩ : Rs).fail.bad]) (by repeat first | exact .here _ _ | assumption | apply Pick.there))⟩ rfl rfl rfl (fun w hI => q_load1 Tryd.isAgg4 rfl (hI.choose_spec.cell (by repeat first | exact .here _ _ | assumption | apply Pick.there) rfl)) ?_
    refine p_one 15 rfl (by kernel_rfl) ?_
    refine t_yes rfl rfl rfl ?_
    refine t_call Tryd.call25 (rBad hS (by repeat first | exact .here _ _ | assumption | apply Pick.there)) rfl ?_
    rintro e w ⟨rfl, hS⟩
    refine ⟨_, rfl, ?_⟩
    refine t_nil ?_
    refine ⟨.inr ⟨_, (((hS.pick (A := blkA g7 25 [.int .i64 z.version, .slice z.ticks.A z.ticks.l.length z.ticks.c, .int .i64 z.lot, .int .i64 z.band, .slice z.fees.A z.fees.l.length z.fees.c, .int .i64 z.round, .int .i64 z.priority, .int .i64 z.self, .int .i64 z.layout]) (by repeat first | exact .here _ _ | assumption | apply Pick.there)).pick (A := blkA g5 25 [.int .i64 y.version, .slice y.ticks.A y.ticks.l.length y.ticks.c, .int .i64 y.lot, .int .i64 y.band, .slice y.fees.A y.fees.l.length y.fees.c, .int .i64 y.round, .int .i64 y.priority, .int .i64 y.self, .int .i64 y.layout]) (by repeat first | exact .here _ _ | assumption | apply Pick.there)).pick (A := blkA g17 58 [.slice A1 (⟨bs, false⟩ : Rs).fail.left.length c1, .bool (⟨bs, false⟩ : Rs).fail.bad]) (by repeat first | exact .here _ _ | assumption | apply Pick.there))⟩, ?_⟩
    refine p_yes hap hsel 20 rfl rfl ⟨_, (((hS.pick (A := blkA g7 25 [.int .i64 z.version, .slice z.ticks.A z.ticks.l.length z.ticks.c, .int .i64 z.lot, .int .i64 z.band, .slice z.fees.A z.fees.l.length z.fees.c, .int .i64 z.round, .int .i64 z.priority, .int .i64 z.self, .int .i64 z.layout]) (by repeat first | exact .here _ _ | assumption | apply Pick.there)).pick (A := blkA g5 25 [.int .i64 y.version, .slice y.ticks.A y.ticks.l.length y.ticks.c, .int .i64 y.lot, .int .i64 y.band, .slice y.fees.A y.fees.l.length y.fees.c, .int .i64 y.round, .int .i64 y.priority, .int .i64 y.self, .int .i64 y.layout]) (by repeat first | exact .here _ _ | assumption | apply Pick.there)).pick (A := blkA g17 58 [.slice A1 (⟨bs, false⟩ : Rs).fail.left.length c1, .bool (⟨bs, false⟩ : Rs).fail.bad]) (by repeat first | exact .here _ _ | assumption | apply Pick.there))⟩ rfl rfl rfl (fun w hI => (q_cast (v' := .bool false) (q_neq_bool Tryd.runUnderlying4 rfl rfl) (by simp))) ?_
    refine p_q hap hsel 21 rfl rfl ⟨_, (((hS.pick (A := blkA g7 25 [.int .i64 z.version, .slice z.ticks.A z.ticks.l.length z.ticks.c, .int .i64 z.lot, .int .i64 z.band, .slice z.fees.A z.fees.l.length z.fees.c, .int .i64 z.round, .int .i64 z.priority, .int .i64 z.self, .int .i64 z.layout]) (by repeat first | exact .here _ _ | assumption | apply Pick.there)).pick (A := blkA g5 25 [.int .i64 y.version, .slice y.ticks.A y.ticks.l.length y.ticks.c, .int .i64 y.lot, .int .i64 y.band, .slice y.fees.A y.fees.l.length y.fees.c, .int .i64 y.round, .int .i64 y.priority, .int .i64 y.self, .int .i64 y.layout]) (by repeat first | exact .here _ _ | assumption | apply Pick.there)).pick (A := blkA g17 58 [.slice A1 (⟨bs, false⟩ : Rs).fail.left.length c1, .bool (⟨bs, false⟩ : Rs).fail.bad]) (by repeat first | exact .here _ _ | assumption | apply Pick.there))⟩ (fun w hI => q_pick_f rfl rfl) ?_
    refine p_q hap hsel 22 rfl rfl ⟨_, (((hS.pick (A := blkA g7 25 [.int .i64 z.version, .slice z.ticks.A z.ticks.l.length z.ticks.c, .int .i64 z.lot, .int .i64 z.band, .slice z.fees.A z.fees.l.length z.fees.c, .int .i64 z.round, .int .i64 z.priority, .int .i64 z.self, .int .i64 z.layout]) (by repeat first | exact .here _ _ | assumption | apply Pick.there)).pick (A := blkA g5 25 [.int .i64 y.version, .slice y.ticks.A y.ticks.l.length y.ticks.c, .int .i64 y.lot, .int .i64 y.band, .slice y.fees.A y.fees.l.length y.fees.c, .int .i64 y.round, .int .i64 y.priority, .int .i64 y.self, .int .i64 y.layout]) (by repeat first | exact .here _ _ | assumption | apply Pick.there)).pick (A := blkA g17 58 [.slice A1 (⟨bs, false⟩ : Rs).fail.left.length c1, .bool (⟨bs, false⟩ : Rs).fail.bad]) (by repeat first | exact .here _ _ | assumption | apply Pick.there))⟩ (fun w hI => q_mv (.bool _) rfl) ?_
    refine p_yes hap hsel 23 rfl rfl ⟨_, (((hS.pick (A := blkA g7 25 [.int .i64 z.version, .slice z.ticks.A z.ticks.l.length z.ticks.c, .int .i64 z.lot, .int .i64 z.band, .slice z.fees.A z.fees.l.length z.fees.c, .int .i64 z.round, .int .i64 z.priority, .int .i64 z.self, .int .i64 z.layout]) (by repeat first | exact .here _ _ | assumption | apply Pick.there)).pick (A := blkA g5 25 [.int .i64 y.version, .slice y.ticks.A y.ticks.l.length y.ticks.c, .int .i64 y.lot, .int .i64 y.band, .slice y.fees.A y.fees.l.length y.fees.c, .int .i64 y.round, .int .i64 y.priority, .int .i64 y.self, .int .i64 y.layout]) (by repeat first | exact .here _ _ | assumption | apply Pick.there)).pick (A := blkA g17 58 [.slice A1 (⟨bs, false⟩ : Rs).fail.left.length c1, .bool (⟨bs, false⟩ : Rs).fail.bad]) (by repeat first | exact .here _ _ | assumption | apply Pick.there))⟩ rfl rfl rfl (fun w hI => (q_cast (v' := .agg y.cells.toArray) (q_load_blk Tryd.isAgg25 Tryd.sizeOf25 rfl (hI.choose_spec.blk (by repeat first | exact .here _ _ | assumption | apply Pick.there)) rfl) (by rfl))) ?_
    refine p_yes hap hsel 24 rfl rfl ⟨_, (((hS.pick (A := blkA g7 25 [.int .i64 z.version, .slice z.ticks.A z.ticks.l.length z.ticks.c, .int .i64 z.lot, .int .i64 z.band, .slice z.fees.A z.fees.l.length z.fees.c, .int .i64 z.round, .int .i64 z.priority, .int .i64 z.self, .int .i64 z.layout]) (by repeat first | exact .here _ _ | assumption | apply Pick.there)).pick (A := blkA g5 25 [.int .i64 y.version, .slice y.ticks.A y.ticks.l.length y.ticks.c, .int .i64 y.lot, .int .i64 y.band, .slice y.fees.A y.fees.l.length y.fees.c, .int .i64 y.round, .int .i64 y.priority, .int .i64 y.self, .int .i64 y.layout]) (by repeat first | exact .here _ _ | assumption | apply Pick.there)).pick (A := blkA g17 58 [.slice A1 (⟨bs, false⟩ : Rs).fail.left.length c1, .bool (⟨bs, false⟩ : Rs).fail.bad]) (by repeat first | exact .here _ _ | assumption | apply Pick.there))⟩ rfl rfl rfl (fun w hI => (q_cast (v' := .agg z.cells.toArray) (q_load_blk Tryd.isAgg25 Tryd.sizeOf25 rfl (hI.choose_spec.blk (by repeat first | exact .here _ _ | assumption | apply Pick.there)) rfl) (by rfl))) ?_
    refine p_one 25 rfl (by kernel_rfl) ?_
    refine t_yes rfl rfl rfl ?_
    refine t_call Tryd.call17 (qrsame_calls (x := y) (y := z) (rt_gd hY (rowRdTk (A := y.ticks.A) (l := y.ticks.l) (c := y.ticks.c) (m := y.ticks.l.length) hS (by repeat first | exact .here _ _ | assumption | apply Pick.there) rfl) (rowRdTr (A := y.fees.A) (l := y.fees.l) (c := y.fees.c) (m := y.fees.l.length) hS (by repeat first | exact .here _ _ | assumption | apply Pick.there) rfl)) (rt_gd hZ (rowRdTk (A := z.ticks.A) (l := z.ticks.l) (c := z.ticks.c) (m := z.ticks.l.length) hS (by repeat first | exact .here _ _ | assumption | apply Pick.there) rfl) (rowRdTr (A := z.fees.A) (l := z.fees.l) (c := z.fees.c) (m := z.fees.l.length) hS (by repeat first | exact .here _ _ | assumption | apply Pick.there) rfl))) rfl ?_
    rintro e w ⟨rfl, hT⟩
    refine ⟨_, rfl, ?_⟩
    replace hS := hS.after hT
    rw [show decide (y.vw = z.vw) = true from decide_eq_true (rt_vw hY hZ)]
    refine t_nil ?_
    refine ⟨.inr ⟨_, (((hS.pick (A := blkA g7 25 [.int .i64 z.version, .slice z.ticks.A z.ticks.l.length z.ticks.c, .int .i64 z.lot, .int .i64 z.band, .slice z.fees.A z.fees.l.length z.fees.c, .int .i64 z.round, .int .i64 z.priority, .int .i64 z.self, .int .i64 z.layout]) (by repeat first | exact .here _ _ | assumption | apply Pick.there)).pick (A := blkA g5 25 [.int .i64 y.version, .slice y.ticks.A y.ticks.l.length y.ticks.c, .int .i64 y.lot, .int .i64 y.band, .slice y.fees.A y.fees.l.length y.fees.c, .int .i64 y.round, .int .i64 y.priority, .int .i64 y.self, .int .i64 y.layout]) (by repeat first | exact .here _ _ | assumption | apply Pick.there)).pick (A := blkA g17 58 [.slice A1 (⟨bs, false⟩ : Rs).fail.left.length c1, .bool (⟨bs, false⟩ : Rs).fail.bad]) (by repeat first | exact .here _ _ | assumption | apply Pick.there))⟩, ?_⟩
    refine p_yes hap hsel 26 rfl rfl ⟨_, (((hS.pick (A := blkA g7 25 [.int .i64 z.version, .slice z.ticks.A z.ticks.l.length z.ticks.c, .int .i64 z.lot, .int .i64 z.band, .slice z.fees.A z.fees.l.length z.fees.c, .int .i64 z.round, .int .i64 z.priority, .int .i64 z.self, .int .i64 z.layout]) (by repeat first | exact .here _ _ | assumption | apply Pick.there)).pick (A := blkA g5 25 [.int .i64 y.version, .slice y.ticks.A y.ticks.l.length y.ticks.c, .int .i64 y.lot, .int .i64 y.band, .slice y.fees.A y.fees.l.length y.fees.c, .int .i64 y.round, .int .i64 y.priority, .int .i64 y.self, .int .i64 y.layout]) (by repeat first | exact .here _ _ | assumption | apply Pick.there)).pick (A := blkA g17 58 [.slice A1 (⟨bs, false⟩ : Rs).fail.left.length c1, .bool (⟨bs, false⟩ : Rs).fail.bad]) (by repeat first | exact .here _ _ | assumption | apply Pick.there))⟩ rfl rfl rfl (fun w hI => q_not rfl) ?_
    refine p_q hap hsel 27 rfl rfl ⟨_, (((hS.pick (A := blkA g7 25 [.int .i64 z.version, .slice z.ticks.A z.ticks.l.length z.ticks.c, .int .i64 z.lot, .int .i64 z.band, .slice z.fees.A z.fees.l.length z.fees.c, .int .i64 z.round, .int .i64 z.priority, .int .i64 z.self, .int .i64 z.layout]) (by repeat first | exact .here _ _ | assumption | apply Pick.there)).pick (A := blkA g5 25 [.int .i64 y.version, .slice y.ticks.A y.ticks.l.length y.ticks.c, .int .i64 y.lot, .int .i64 y.band, .slice y.fees.A y.fees.l.length y.fees.c, .int .i64 y.round, .int .i64 y.priority, .int .i64 y.self, .int .i64 y.layout]) (by repeat first | exact .here _ _ | assumption | apply Pick.there)).pick (A := blkA g17 58 [.slice A1 (⟨bs, false⟩ : Rs).fail.left.length c1, .bool (⟨bs, false⟩ : Rs).fail.bad]) (by repeat first | exact .here _ _ | assumption | apply Pick.there))⟩ (fun w hI => q_pick_f rfl rfl) ?_
    refine p_end (by kernel_rfl) ?_
    refine c_cond_f rfl rfl ?_
    refine c_skip ?_
    refine c_seq ?_
    refine c_draw ?_
    refine d_keep (blkA g5 25 [.int .i64 y.version, .slice y.ticks.A y.ticks.l.length y.ticks.c, .int .i64 y.lot, .int .i64 y.band, .slice y.fees.A y.fees.l.length y.fees.c, .int .i64 y.round, .int .i64 y.priority, .int .i64 y.self, .int .i64 y.layout]) 20 [0, 1, 2, 3, 4, 5, 6, 7, 8, 9, 10, 11, 12, 13, 14, 15, 16, 17, 18, 19] [0, 1, 2, 3, 4, 5, 6, 7, 8, 9, 10, 11, 12, 13, 14, 15, 16, 17, 18, 19] hS rfl (by kernel_rfl) (by kernel_rfl) (by kernel_rfl) (by kernel_rfl) (fun hap hsel w hS => ?_)
    refine p_q hap hsel 0 rfl rfl ⟨_, hS.pick (by repeat first | exact .here _ _ | assumption | apply Pick.there)⟩ (fun w hI => q_mv (.bool _) rfl) ?_
    refine p_q hap hsel 1 rfl rfl ⟨_, hS.pick (by repeat first | exact .here _ _ | assumption | apply Pick.there)⟩ (fun w hI => q_not rfl) ?_
    refine p_q hap hsel 2 rfl rfl ⟨_, hS.pick (by repeat first | exact .here _ _ | assumption | apply Pick.there)⟩ (fun w hI => q_mv (.bool _) rfl) ?_
    refine p_no hap hsel 3 rfl rfl ⟨_, hS.pick (by repeat first | exact .here _ _ | assumption | apply Pick.there)⟩ rfl rfl (by decide) ?_
    refine p_no hap hsel 4 rfl rfl ⟨_, hS.pick (by repeat first | exact .here _ _ | assumption | apply Pick.there)⟩ rfl rfl (by decide) ?_
    refine p_no hap hsel 5 rfl rfl ⟨_, hS.pick (by repeat first | exact .here _ _ | assumption | apply Pick.there)⟩ rfl rfl (by decide) ?_
    refine p_no hap hsel 6 rfl rfl ⟨_, hS.pick (by repeat first | exact .here _ _ | assumption | apply Pick.there)⟩ rfl rfl (by decide) ?_
    refine p_no hap hsel 7 rfl rfl ⟨_, hS.pick (by repeat first | exact .here _ _ | assumption | apply Pick.there)⟩ rfl rfl (by decide) ?_
    refine p_no hap hsel 8 rfl rfl ⟨_, hS.pick (by repeat first | exact .here _ _ | assumption | apply Pick.there)⟩ rfl rfl (by decide) ?_
    refine p_no hap hsel 9 rfl rfl ⟨_, hS.pick (by repeat first | exact .here _ _ | assumption | apply Pick.there)⟩ rfl rfl (by decide) ?_
    refine p_no hap hsel 10 rfl rfl ⟨_, hS.pick (by repeat first | exact .here _ _ | assumption | apply Pick.there)⟩ rfl rfl (by decide) ?_
    refine p_no hap hsel 11 rfl rfl ⟨_, hS.pick (by repeat first | exact .here _ _ | assumption | apply Pick.there)⟩ rfl rfl (by decide) ?_
    refine p_no hap hsel 12 rfl rfl ⟨_, hS.pick (by repeat first | exact .here _ _ | assumption | apply Pick.there)⟩ rfl rfl (by decide) ?_
    refine p_no hap hsel 13 rfl rfl ⟨_, hS.pick (by repeat first | exact .here _ _ | assumption | apply Pick.there)⟩ rfl rfl (by decide) ?_
    refine p_no hap hsel 14 rfl rfl ⟨_, hS.pick (by repeat first | exact .here _ _ | assumption | apply Pick.there)⟩ rfl rfl (by decide) ?_
    refine p_q hap hsel 15 rfl rfl ⟨_, hS.pick (by repeat first | exact .here _ _ | assumption | apply Pick.there)⟩ (fun w hI => q_pick_t rfl rfl) ?_
    refine p_q hap hsel 16 rfl rfl ⟨_, hS.pick (by repeat first | exact .here _ _ | assumption | apply Pick.there)⟩ (fun w hI => q_mv (.bool _) rfl) ?_
    refine p_one 17 rfl (by kernel_rfl) ?_
    refine t_yes rfl rfl rfl ?_
    refine t_call Tryd.call9 (r9lives_calls (hE.st hS)) rfl ?_
    rintro e w ⟨rfl, hT⟩
    refine ⟨_, rfl, ?_⟩
    replace hS := hS.after hT
    refine t_nil ?_
    refine ⟨.inr ⟨_, hS.pick (by repeat first | exact .here _ _ | assumption | apply Pick.there)⟩, ?_⟩
    refine p_q hap hsel 18 rfl rfl ⟨_, hS.pick (by repeat first | exact .here _ _ | assumption | apply Pick.there)⟩ (fun w hI => q_pick_t rfl rfl) ?_
    refine p_q hap hsel 19 rfl rfl ⟨_, hS.pick (by repeat first | exact .here _ _ | assumption | apply Pick.there)⟩ (fun w hI => q_as (.bool _) rfl) ?_
    refine p_end (by kernel_rfl) ?_
    refine c_ret ?_
    refine r_one rfl rfl ?_
    exact ⟨rfl, hS.nil⟩
theorem RulesRead_calls {A : Option Addr} {c : Nat} {bs : List UInt8} (hE : EtOk W) (hR : RdB W A bs) (hc : bs.length ≤ c ∧ bs.length ≤ 9223372036854775807) : Calls Tryd.prog 7 #[.slice A bs.length c] W fun e w' => e = .returned (.bool true) ∧ St W w' [] := by
  cases h : ruOk (⟨bs, false⟩ : Rs) with
  | true => exact rreads_yes hE hR hc h
  | false => exact rreads_no hE hR hc h
end Go.Proofs.YtmgobaojioaioaaDoor
