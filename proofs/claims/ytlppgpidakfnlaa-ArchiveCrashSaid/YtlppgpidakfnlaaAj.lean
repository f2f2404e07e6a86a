/- Archives: saving, and what is told. -/
import Derived.Test.YtlppgpidakfnlaaAh
import Derived.Test.YtlppgpidakfnlaaPd
namespace Go.Proofs.Ytlppgpidakfnlaa
open Go Go.RowKit Go.Lib
variable {W : World}
attribute [local irreducible] blkA rowA rdrA rdO dskA
set_option maxHeartbeats 2000000 in
set_option maxRecDepth 100000 in
theorem save_calls {w : World} {R : List Asn} {g gd : Nat} {a : Ar} {d : Dk} {i t : Nat} {B : Option Addr} {cb : Nat} {bs : List UInt8} (hS : St W w (arA g gd a :: dskA gd d :: R)) (hrd : ∀ w', St W w' R → RdB w' B bs) (hb : bs.length ≤ cb ∧ bs.length ≤ 9223372036854775807) (hi : i < 18446744073709551616) (ht : t < 18446744073709551616) (hG : DGood d) (hc : d.calls ≤ 999999000) (hf : 0 ≤ a.f0 ∧ a.f0 ≤ 30) :
  Calls Try.prog 35 #[.pointer (some ⟨g, 0, none⟩), .agg #[.int .u64 (i : Int), .int .u64 (t : Int), .slice B bs.length cb]] w fun e w' => e = .returned (.int .i64 (saE a d (⟨i, t, bs⟩ : Sn))) ∧ St W w' (arA g gd (saA a d (⟨i, t, bs⟩ : Sn)) :: dskA gd (saD a d (⟨i, t, bs⟩ : Sn)) :: R) := by
  obtain ⟨As, cs, hS⟩ := hS.ar
  refine calls_of_wpE (args := [_, _]) Try.func35 rfl rfl rfl ?_
  refine c_seq ?_
  refine c_region ?_
  refine t_box (v := (.pointer _)) rfl rfl hS (fun g2 w hS => ?_)
  refine t_box (v := (.agg _)) rfl rfl hS (fun g3 w hS => ?_)
  refine t_q (q_assign) ?_
  refine t_nil ?_
  refine c_seq ?_
  refine c_block ?_
  refine c_seq ?_
  refine c_region ?_
  refine t_q (q_load1 Try.isAgg60 rfl (hS.cell (by repeat first | exact .here _ _ | assumption | apply Pick.there) rfl)) ?_
  refine t_call Try.call86 (none_calls hS (by repeat first | exact .here _ _ | assumption | apply Pick.there)) rfl ?_
  rintro e w ⟨rfl, hS⟩
  refine ⟨_, rfl, ?_⟩
  refine t_q (q_as (.bool _) rfl) ?_
  refine t_nil ?_
  refine c_cond_f rfl rfl ?_
  refine c_seq ?_
  refine c_region ?_
  refine t_q (q_load1 Try.isAgg60 rfl (hS.cell (by repeat first | exact .here _ _ | assumption | apply Pick.there) rfl)) ?_
  refine t_q (q_nilCheck rfl) ?_
  refine t_q (q_fieldAddr 7 Try.runUnderlying75 rfl Try.sizeOf4 (by decide) rfl rfl) ?_
  refine t_q (q_load1 Try.isAgg4 rfl (hS.cell (by repeat first | exact .here _ _ | assumption | apply Pick.there) rfl)) ?_
  refine t_q (q_as (.bool _) rfl) ?_
  refine t_nil ?_
  refine c_cond rfl ?_ ?_
  · intro hc3
    have hbr : a.br = true := hc3
    refine c_seq ?_
    refine c_region ?_
    refine t_q (q_assign) ?_
    refine t_nil ?_
    refine c_ret ?_
    refine r_one rfl rfl ?_
    first
      | (obtain ⟨e1, e2, e3⟩ := sa_1 (d := d) (s := (⟨i, t, bs⟩ : Sn)) hbr
         rw [e1, e2, e3]
         exact ⟨rfl, (St.unar a (((((((hS.pick (A := blkA g2 60 _) (by repeat first | exact .here _ _ | assumption | apply Pick.there)).pick (A := blkA g3 45 _) (by repeat first | exact .here _ _ | assumption | apply Pick.there)).drop.drop).pick (A := dskA gd d) (by repeat first | exact .here _ _ | assumption | apply Pick.there)).pick (A := rowA 5 1 As a.s.b.length cs (a.s.b.map bv)) (by repeat first | exact .here _ _ | assumption | apply Pick.there)).pick (A := blkA g 75 _) (by repeat first | exact .here _ _ | assumption | apply Pick.there))))⟩)
      | (obtain ⟨e1, e2, e3⟩ := sa_2 (d := d) (s := (⟨i, t, bs⟩ : Sn)) hbr (by show snE i t bs ≠ 0; omega)
         rw [e1, e2, e3]
         have hx := (St.unar { a with br := false } (((((((((hS.pick (A := blkA g5 25 _) (by repeat first | exact .here _ _ | assumption | apply Pick.there)).pick (A := rowA 5 1 A21 _ c21 _) (by repeat first | exact .here _ _ | assumption | apply Pick.there)).pick (A := blkA g2 60 _) (by repeat first | exact .here _ _ | assumption | apply Pick.there)).pick (A := blkA g3 45 _) (by repeat first | exact .here _ _ | assumption | apply Pick.there)).drop.drop.drop.drop).pick (A := dskA gd d) (by repeat first | exact .here _ _ | assumption | apply Pick.there)).pick (A := rowA 5 1 As a.s.b.length cs (a.s.b.map bv)) (by repeat first | exact .here _ _ | assumption | apply Pick.there)).pick (A := blkA g 75 _) (by repeat first | exact .here _ _ | assumption | apply Pick.there))))
         rw [ar_eq hbr] at hx
         exact ⟨rfl, hx⟩)
      | (obtain ⟨e1, e2, e3⟩ := sa_3 (d := d) (s := (⟨i, t, bs⟩ : Sn)) hbr hE0 hold
         rw [e1, e2, e3]
         have hx := (St.unar { a with br := false } (((((((((hS.pick (A := blkA g5 25 _) (by repeat first | exact .here _ _ | assumption | apply Pick.there)).pick (A := rowA 5 1 A21 _ c21 _) (by repeat first | exact .here _ _ | assumption | apply Pick.there)).pick (A := blkA g2 60 _) (by repeat first | exact .here _ _ | assumption | apply Pick.there)).pick (A := blkA g3 45 _) (by repeat first | exact .here _ _ | assumption | apply Pick.there)).drop.drop.drop.drop).pick (A := dskA gd d) (by repeat first | exact .here _ _ | assumption | apply Pick.there)).pick (A := rowA 5 1 As a.s.b.length cs (a.s.b.map bv)) (by repeat first | exact .here _ _ | assumption | apply Pick.there)).pick (A := blkA g 75 _) (by repeat first | exact .here _ _ | assumption | apply Pick.there))))
         rw [ar_eq hbr] at hx
         exact ⟨rfl, hx⟩)
      | (obtain ⟨e1, e2, e3⟩ := sa_4 (d := d) (s := (⟨i, t, bs⟩ : Sn)) hbr hE0 hold hP
         rw [e1, e2, e3]
         rw [hP] at hS
         exact ⟨rfl, (St.unar { a with br := true } (((((((((((hS.pick (A := blkA g9 3 _) (by repeat first | exact .here _ _ | assumption | apply Pick.there)).pick (A := blkA g8 3 _) (by repeat first | exact .here _ _ | assumption | apply Pick.there)).pick (A := blkA g5 25 _) (by repeat first | exact .here _ _ | assumption | apply Pick.there)).pick (A := rowA 5 1 A21 _ c21 _) (by repeat first | exact .here _ _ | assumption | apply Pick.there)).pick (A := blkA g2 60 _) (by repeat first | exact .here _ _ | assumption | apply Pick.there)).pick (A := blkA g3 45 _) (by repeat first | exact .here _ _ | assumption | apply Pick.there)).drop.drop.drop.drop.drop.drop).pick (A := dskA gd (saP a d (⟨i, t, bs⟩ : Sn)).2) (by repeat first | exact .here _ _ | assumption | apply Pick.there)).pick (A := rowA 5 1 As a.s.b.length cs (a.s.b.map bv)) (by repeat first | exact .here _ _ | assumption | apply Pick.there)).pick (A := blkA g 75 _) (by repeat first | exact .here _ _ | assumption | apply Pick.there))))⟩)
      | (obtain ⟨e1, e2, e3⟩ := sa_5 (d := d) (s := (⟨i, t, bs⟩ : Sn)) hbr hE0 hold hP
         rw [e1, e2, e3]
         rw [hP] at hS
         exact ⟨rfl, (St.unar ⟨a.f0, saTo a, (⟨i, t, bs⟩ : Sn), false⟩ ((((((((((((hS.pick (A := rowA 5 1 As a.s.b.length cs (a.s.b.map bv)) (by repeat first | exact .here _ _ | assumption | apply Pick.there)).pick (A := blkA g9 3 _) (by repeat first | exact .here _ _ | assumption | apply Pick.there)).pick (A := blkA g8 3 _) (by repeat first | exact .here _ _ | assumption | apply Pick.there)).pick (A := blkA g5 25 _) (by repeat first | exact .here _ _ | assumption | apply Pick.there)).pick (A := rowA 5 1 A21 _ c21 _) (by repeat first | exact .here _ _ | assumption | apply Pick.there)).pick (A := blkA g2 60 _) (by repeat first | exact .here _ _ | assumption | apply Pick.there)).pick (A := blkA g3 45 _) (by repeat first | exact .here _ _ | assumption | apply Pick.there)).drop.drop.drop.drop.drop.drop.drop).pick (A := dskA gd (saP a d (⟨i, t, bs⟩ : Sn)).2) (by repeat first | exact .here _ _ | assumption | apply Pick.there)).pick (A := rowA 5 1 A68 _ c68 _) (by repeat first | exact .here _ _ | assumption | apply Pick.there)).pick (A := blkA g 75 _) (by repeat first | exact .here _ _ | assumption | apply Pick.there))))⟩)
  · intro hc3
    have hbr : a.br = false := hc3
    rw [hbr] at hS
    refine c_skip ?_
    refine c_seq ?_
    refine c_region ?_
    refine t_q (q_load_blk Try.isAgg45 Try.sizeOf45 rfl (hS.blk (by repeat first | exact .here _ _ | assumption | apply Pick.there)) rfl) ?_
    refine t_call Try.call27 (abytes_calls (show RdB w B bs from hrd _ ((((((hS.pick (A := dskA gd d) (by repeat first | exact .here _ _ | assumption | apply Pick.there)).pick (A := rowA 5 1 As a.s.b.length cs (a.s.b.map bv)) (by repeat first | exact .here _ _ | assumption | apply Pick.there)).pick (A := blkA g 75 _) (by repeat first | exact .here _ _ | assumption | apply Pick.there)).pick (A := blkA g2 60 _) (by repeat first | exact .here _ _ | assumption | apply Pick.there)).pick (A := blkA g3 45 _) (by repeat first | exact .here _ _ | assumption | apply Pick.there)).drop.drop.drop.drop.drop)) hb hi ht) rfl ?_
    rintro e w ⟨A21, m21, c21, rfl, hm21, hT⟩
    refine ⟨_, rfl, ?_⟩
    have hS : St W w (_ :: _) := hS.lift hT
    refine t_q (q_mv (.tuple _) rfl) ?_
    refine t_q (q_extract rfl rfl) ?_
    refine t_q (q_extract rfl rfl) ?_
    refine t_alloc Try.zeroValue25 rfl hS (fun g5 w hS => ?_)
    refine t_store (v := (.slice _ _ _)) Try.sizeOf25 hS (by repeat first | exact .here _ _ | assumption | apply Pick.there) rfl rfl rfl rfl rfl rfl (fun w hS => ?_)
    replace hS := hS.recast (show blkA g5 25 _ = blkA g5 25 [.slice A21 m21 c21] from rfl)
    refine t_q (q_as (.int _ _) rfl) ?_
    refine t_nil ?_
    refine c_seq ?_
    refine c_block ?_
    refine c_seq ?_
    refine c_region ?_
    refine t_q (q_mv (.int _ _) rfl) ?_
    refine t_q (q_neq rfl rfl) ?_
    refine t_q (q_as (.bool _) rfl) ?_
    refine t_nil ?_
    refine c_cond rfl ?_ ?_
    · intro hc8
      have hc8d := of_decide_eq_true hc8
      refine c_seq ?_
      refine c_region ?_
      refine t_q (q_mv (.int _ _) rfl) ?_
      refine t_q (q_as (.int _ _) rfl) ?_
      refine t_nil ?_
      refine c_ret ?_
      refine r_one rfl rfl ?_
      first
        | (obtain ⟨e1, e2, e3⟩ := sa_1 (d := d) (s := (⟨i, t, bs⟩ : Sn)) hbr
           rw [e1, e2, e3]
           exact ⟨rfl, (St.unar a (((((((hS.pick (A := blkA g2 60 _) (by repeat first | exact .here _ _ | assumption | apply Pick.there)).pick (A := blkA g3 45 _) (by repeat first | exact .here _ _ | assumption | apply Pick.there)).drop.drop).pick (A := dskA gd d) (by repeat first | exact .here _ _ | assumption | apply Pick.there)).pick (A := rowA 5 1 As a.s.b.length cs (a.s.b.map bv)) (by repeat first | exact .here _ _ | assumption | apply Pick.there)).pick (A := blkA g 75 _) (by repeat first | exact .here _ _ | assumption | apply Pick.there))))⟩)
        | (obtain ⟨e1, e2, e3⟩ := sa_2 (d := d) (s := (⟨i, t, bs⟩ : Sn)) hbr (by show snE i t bs ≠ 0; omega)
           rw [e1, e2, e3]
           have hx := (St.unar { a with br := false } (((((((((hS.pick (A := blkA g5 25 _) (by repeat first | exact .here _ _ | assumption | apply Pick.there)).pick (A := rowA 5 1 A21 _ c21 _) (by repeat first | exact .here _ _ | assumption | apply Pick.there)).pick (A := blkA g2 60 _) (by repeat first | exact .here _ _ | assumption | apply Pick.there)).pick (A := blkA g3 45 _) (by repeat first | exact .here _ _ | assumption | apply Pick.there)).drop.drop.drop.drop).pick (A := dskA gd d) (by repeat first | exact .here _ _ | assumption | apply Pick.there)).pick (A := rowA 5 1 As a.s.b.length cs (a.s.b.map bv)) (by repeat first | exact .here _ _ | assumption | apply Pick.there)).pick (A := blkA g 75 _) (by repeat first | exact .here _ _ | assumption | apply Pick.there))))
           rw [ar_eq hbr] at hx
           exact ⟨rfl, hx⟩)
        | (obtain ⟨e1, e2, e3⟩ := sa_3 (d := d) (s := (⟨i, t, bs⟩ : Sn)) hbr hE0 hold
           rw [e1, e2, e3]
           have hx := (St.unar { a with br := false } (((((((((hS.pick (A := blkA g5 25 _) (by repeat first | exact .here _ _ | assumption | apply Pick.there)).pick (A := rowA 5 1 A21 _ c21 _) (by repeat first | exact .here _ _ | assumption | apply Pick.there)).pick (A := blkA g2 60 _) (by repeat first | exact .here _ _ | assumption | apply Pick.there)).pick (A := blkA g3 45 _) (by repeat first | exact .here _ _ | assumption | apply Pick.there)).drop.drop.drop.drop).pick (A := dskA gd d) (by repeat first | exact .here _ _ | assumption | apply Pick.there)).pick (A := rowA 5 1 As a.s.b.length cs (a.s.b.map bv)) (by repeat first | exact .here _ _ | assumption | apply Pick.there)).pick (A := blkA g 75 _) (by repeat first | exact .here _ _ | assumption | apply Pick.there))))
           rw [ar_eq hbr] at hx
           exact ⟨rfl, hx⟩)
        | (obtain ⟨e1, e2, e3⟩ := sa_4 (d := d) (s := (⟨i, t, bs⟩ : Sn)) hbr hE0 hold hP
           rw [e1, e2, e3]
           rw [hP] at hS
           exact ⟨rfl, (St.unar { a with br := true } (((((((((((hS.pick (A := blkA g9 3 _) (by repeat first | exact .here _ _ | assumption | apply Pick.there)).pick (A := blkA g8 3 _) (by repeat first | exact .here _ _ | assumption | apply Pick.there)).pick (A := blkA g5 25 _) (by repeat first | exact .here _ _ | assumption | apply Pick.there)).pick (A := rowA 5 1 A21 _ c21 _) (by repeat first | exact .here _ _ | assumption | apply Pick.there)).pick (A := blkA g2 60 _) (by repeat first | exact .here _ _ | assumption | apply Pick.there)).pick (A := blkA g3 45 _) (by repeat first | exact .here _ _ | assumption | apply Pick.there)).drop.drop.drop.drop.drop.drop).pick (A := dskA gd (saP a d (⟨i, t, bs⟩ : Sn)).2) (by repeat first | exact .here _ _ | assumption | apply Pick.there)).pick (A := rowA 5 1 As a.s.b.length cs (a.s.b.map bv)) (by repeat first | exact .here _ _ | assumption | apply Pick.there)).pick (A := blkA g 75 _) (by repeat first | exact .here _ _ | assumption | apply Pick.there))))⟩)
        | (obtain ⟨e1, e2, e3⟩ := sa_5 (d := d) (s := (⟨i, t, bs⟩ : Sn)) hbr hE0 hold hP
           rw [e1, e2, e3]
           rw [hP] at hS
           exact ⟨rfl, (St.unar ⟨a.f0, saTo a, (⟨i, t, bs⟩ : Sn), false⟩ ((((((((((((hS.pick (A := rowA 5 1 As a.s.b.length cs (a.s.b.map bv)) (by repeat first | exact .here _ _ | assumption | apply Pick.there)).pick (A := blkA g9 3 _) (by repeat first | exact .here _ _ | assumption | apply Pick.there)).pick (A := blkA g8 3 _) (by repeat first | exact .here _ _ | assumption | apply Pick.there)).pick (A := blkA g5 25 _) (by repeat first | exact .here _ _ | assumption | apply Pick.there)).pick (A := rowA 5 1 A21 _ c21 _) (by repeat first | exact .here _ _ | assumption | apply Pick.there)).pick (A := blkA g2 60 _) (by repeat first | exact .here _ _ | assumption | apply Pick.there)).pick (A := blkA g3 45 _) (by repeat first | exact .here _ _ | assumption | apply Pick.there)).drop.drop.drop.drop.drop.drop.drop).pick (A := dskA gd (saP a d (⟨i, t, bs⟩ : Sn)).2) (by repeat first | exact .here _ _ | assumption | apply Pick.there)).pick (A := rowA 5 1 A68 _ c68 _) (by repeat first | exact .here _ _ | assumption | apply Pick.there)).pick (A := blkA g 75 _) (by repeat first | exact .here _ _ | assumption | apply Pick.there))))⟩)
    · intro hc8
      have hc8d := of_decide_eq_false hc8
      have hE0 : snE i t bs = 0 := by omega
      have hL0 : snL i t bs = snB i t bs := by unfold snL; rw [if_pos hE0]
      rw [hL0] at hS hm21
      have hb5 : bs.length ≤ 524288 := by
        unfold snE at hE0
        split at hE0
        · cases hE0
        · split at hE0
          · cases hE0
          · omega
      have hsl := snB_len (b := bs) hi ht hb5
      refine c_seq ?_
      refine c_draw ?_
      refine d_quiet 16 [0, 1, 2, 3, 4, 5, 6, 7, 8, 9, 10, 11, 12, 13, 14, 15] [0, 1, 2, 3, 4, 5, 6, 7, 8, 9, 10, 11, 12, 13, 14, 15] hS rfl (by kernel_rfl) (by kernel_rfl) (by kernel_rfl) (by kernel_rfl) (fun hap hsel w hS => ?_)
      refine p_q hap hsel 0 rfl rfl hS (fun w hS => q_load1 Try.isAgg60 rfl (hS.cell (by repeat first | exact .here _ _ | assumption | apply Pick.there) rfl)) ?_
      refine p_q hap hsel 1 rfl rfl hS (fun w hS => q_nilCheck rfl) ?_
      refine p_q hap hsel 2 rfl rfl hS (fun w hS => q_fieldAddr 3 Try.runUnderlying75 rfl Try.sizeOf3 (by decide) rfl rfl) ?_
      refine p_q hap hsel 3 rfl rfl hS (fun w hS => q_load1 Try.isAgg3 rfl (hS.cell (by repeat first | exact .here _ _ | assumption | apply Pick.there) rfl)) ?_
      refine p_q hap hsel 4 rfl rfl hS (fun w hS => q_geq rfl rfl) ?_
      refine p_q hap hsel 5 rfl rfl hS (fun w hS => q_mv (.bool _) rfl) ?_
      refine p_case 34 rfl ?_ ?_
      · intro hg10
        have hg10d := of_decide_eq_true hg10
        refine p_yes hap hsel 6 rfl rfl hS rfl rfl hg10 (fun w hS => q_load1 Try.isAgg60 rfl (hS.cell (by repeat first | exact .here _ _ | assumption | apply Pick.there) rfl)) ?_
        refine p_yes hap hsel 7 rfl rfl hS rfl rfl hg10 (fun w hS => q_nilCheck rfl) ?_
        refine p_yes hap hsel 8 rfl rfl hS rfl rfl hg10 (fun w hS => q_fieldAddr 4 Try.runUnderlying75 rfl Try.sizeOf45 (by decide) rfl rfl) ?_
        refine p_yes hap hsel 9 rfl rfl hS rfl rfl hg10 (fun w hS => q_fieldAddr 0 Try.runUnderlying45 rfl Try.sizeOf43 (by decide) rfl rfl) ?_
        refine p_yes hap hsel 10 rfl rfl hS rfl rfl hg10 (fun w hS => q_load1 Try.isAgg43 rfl (hS.cell (by repeat first | exact .here _ _ | assumption | apply Pick.there) rfl)) ?_
        refine p_yes hap hsel 11 rfl rfl hS rfl rfl hg10 (fun w hS => q_fieldAddr 0 Try.runUnderlying45 rfl Try.sizeOf43 (by decide) rfl rfl) ?_
        refine p_yes hap hsel 12 rfl rfl hS rfl rfl hg10 (fun w hS => q_load1 Try.isAgg43 rfl (hS.cell (by repeat first | exact .here _ _ | assumption | apply Pick.there) rfl)) ?_
        refine p_yes hap hsel 13 rfl rfl hS rfl rfl hg10 (fun w hS => q_geq rfl rfl) ?_
        refine p_q hap hsel 14 rfl rfl hS (fun w hS => q_pick_t rfl hg10) ?_
        refine p_q hap hsel 15 rfl rfl hS (fun w hS => q_as (.bool _) rfl) ?_
        refine p_end (by kernel_rfl) ?_
        refine c_cond rfl ?_ ?_
        · intro hc12
          have hc12d := of_decide_eq_true hc12
          have hold : 0 ≤ a.cn ∧ i ≤ a.s.i := ⟨by omega, by omega⟩
          refine c_seq ?_
          refine c_region ?_
          refine t_q (q_assign) ?_
          refine t_nil ?_
          refine c_ret ?_
          refine r_one rfl rfl ?_
          first
            | (obtain ⟨e1, e2, e3⟩ := sa_1 (d := d) (s := (⟨i, t, bs⟩ : Sn)) hbr
               rw [e1, e2, e3]
               exact ⟨rfl, (St.unar a (((((((hS.pick (A := blkA g2 60 _) (by repeat first | exact .here _ _ | assumption | apply Pick.there)).pick (A := blkA g3 45 _) (by repeat first | exact .here _ _ | assumption | apply Pick.there)).drop.drop).pick (A := dskA gd d) (by repeat first | exact .here _ _ | assumption | apply Pick.there)).pick (A := rowA 5 1 As a.s.b.length cs (a.s.b.map bv)) (by repeat first | exact .here _ _ | assumption | apply Pick.there)).pick (A := blkA g 75 _) (by repeat first | exact .here _ _ | assumption | apply Pick.there))))⟩)
            | (obtain ⟨e1, e2, e3⟩ := sa_2 (d := d) (s := (⟨i, t, bs⟩ : Sn)) hbr (by show snE i t bs ≠ 0; omega)
               rw [e1, e2, e3]
               have hx := (St.unar { a with br := false } (((((((((hS.pick (A := blkA g5 25 _) (by repeat first | exact .here _ _ | assumption | apply Pick.there)).pick (A := rowA 5 1 A21 _ c21 _) (by repeat first | exact .here _ _ | assumption | apply Pick.there)).pick (A := blkA g2 60 _) (by repeat first | exact .here _ _ | assumption | apply Pick.there)).pick (A := blkA g3 45 _) (by repeat first | exact .here _ _ | assumption | apply Pick.there)).drop.drop.drop.drop).pick (A := dskA gd d) (by repeat first | exact .here _ _ | assumption | apply Pick.there)).pick (A := rowA 5 1 As a.s.b.length cs (a.s.b.map bv)) (by repeat first | exact .here _ _ | assumption | apply Pick.there)).pick (A := blkA g 75 _) (by repeat first | exact .here _ _ | assumption | apply Pick.there))))
               rw [ar_eq hbr] at hx
               exact ⟨rfl, hx⟩)
            | (obtain ⟨e1, e2, e3⟩ := sa_3 (d := d) (s := (⟨i, t, bs⟩ : Sn)) hbr hE0 hold
               rw [e1, e2, e3]
               have hx := (St.unar { a with br := false } (((((((((hS.pick (A := blkA g5 25 _) (by repeat first | exact .here _ _ | assumption | apply Pick.there)).pick (A := rowA 5 1 A21 _ c21 _) (by repeat first | exact .here _ _ | assumption | apply Pick.there)).pick (A := blkA g2 60 _) (by repeat first | exact .here _ _ | assumption | apply Pick.there)).pick (A := blkA g3 45 _) (by repeat first | exact .here _ _ | assumption | apply Pick.there)).drop.drop.drop.drop).pick (A := dskA gd d) (by repeat first | exact .here _ _ | assumption | apply Pick.there)).pick (A := rowA 5 1 As a.s.b.length cs (a.s.b.map bv)) (by repeat first | exact .here _ _ | assumption | apply Pick.there)).pick (A := blkA g 75 _) (by repeat first | exact .here _ _ | assumption | apply Pick.there))))
               rw [ar_eq hbr] at hx
               exact ⟨rfl, hx⟩)
            | (obtain ⟨e1, e2, e3⟩ := sa_4 (d := d) (s := (⟨i, t, bs⟩ : Sn)) hbr hE0 hold hP
               rw [e1, e2, e3]
               rw [hP] at hS
               exact ⟨rfl, (St.unar { a with br := true } (((((((((((hS.pick (A := blkA g9 3 _) (by repeat first | exact .here _ _ | assumption | apply Pick.there)).pick (A := blkA g8 3 _) (by repeat first | exact .here _ _ | assumption | apply Pick.there)).pick (A := blkA g5 25 _) (by repeat first | exact .here _ _ | assumption | apply Pick.there)).pick (A := rowA 5 1 A21 _ c21 _) (by repeat first | exact .here _ _ | assumption | apply Pick.there)).pick (A := blkA g2 60 _) (by repeat first | exact .here _ _ | assumption | apply Pick.there)).pick (A := blkA g3 45 _) (by repeat first | exact .here _ _ | assumption | apply Pick.there)).drop.drop.drop.drop.drop.drop).pick (A := dskA gd (saP a d (⟨i, t, bs⟩ : Sn)).2) (by repeat first | exact .here _ _ | assumption | apply Pick.there)).pick (A := rowA 5 1 As a.s.b.length cs (a.s.b.map bv)) (by repeat first | exact .here _ _ | assumption | apply Pick.there)).pick (A := blkA g 75 _) (by repeat first | exact .here _ _ | assumption | apply Pick.there))))⟩)
            | (obtain ⟨e1, e2, e3⟩ := sa_5 (d := d) (s := (⟨i, t, bs⟩ : Sn)) hbr hE0 hold hP
               rw [e1, e2, e3]
               rw [hP] at hS
               exact ⟨rfl, (St.unar ⟨a.f0, saTo a, (⟨i, t, bs⟩ : Sn), false⟩ ((((((((((((hS.pick (A := rowA 5 1 As a.s.b.length cs (a.s.b.map bv)) (by repeat first | exact .here _ _ | assumption | apply Pick.there)).pick (A := blkA g9 3 _) (by repeat first | exact .here _ _ | assumption | apply Pick.there)).pick (A := blkA g8 3 _) (by repeat first | exact .here _ _ | assumption | apply Pick.there)).pick (A := blkA g5 25 _) (by repeat first | exact .here _ _ | assumption | apply Pick.there)).pick (A := rowA 5 1 A21 _ c21 _) (by repeat first | exact .here _ _ | assumption | apply Pick.there)).pick (A := blkA g2 60 _) (by repeat first | exact .here _ _ | assumption | apply Pick.there)).pick (A := blkA g3 45 _) (by repeat first | exact .here _ _ | assumption | apply Pick.there)).drop.drop.drop.drop.drop.drop.drop).pick (A := dskA gd (saP a d (⟨i, t, bs⟩ : Sn)).2) (by repeat first | exact .here _ _ | assumption | apply Pick.there)).pick (A := rowA 5 1 A68 _ c68 _) (by repeat first | exact .here _ _ | assumption | apply Pick.there)).pick (A := blkA g 75 _) (by repeat first | exact .here _ _ | assumption | apply Pick.there))))⟩)
        · intro hc12
          have hc12d := of_decide_eq_false hc12
          have hold : ¬ (0 ≤ a.cn ∧ i ≤ a.s.i) := by omega
          refine c_skip ?_
          refine c_seq ?_
          refine c_region ?_
          refine t_q (q_assign) ?_
          refine t_nil ?_
          refine c_seq ?_
          refine c_seq ?_
          refine c_region ?_
          refine t_q (q_load1 Try.isAgg60 rfl (hS.cell (by repeat first | exact .here _ _ | assumption | apply Pick.there) rfl)) ?_
          refine t_q (q_nilCheck rfl) ?_
          refine t_q (q_fieldAddr 3 Try.runUnderlying75 rfl Try.sizeOf3 (by decide) rfl rfl) ?_
          refine t_q (q_load1 Try.isAgg3 rfl (hS.cell (by repeat first | exact .here _ _ | assumption | apply Pick.there) rfl)) ?_
          refine t_q (q_eql rfl rfl) ?_
          refine t_nil ?_
          refine c_cond rfl ?_ ?_
          · intro hc14
            have hc14d := of_decide_eq_true hc14
            have hto : saTo a = 1 := by unfold saTo; rw [if_pos (by omega)]
            refine c_region ?_
            refine t_q (q_assign) ?_
            refine t_nil ?_
            refine c_seq ?_
            refine c_draw ?_
            refine d_keep2 (blkA g2 60 [.pointer (some ⟨g, 0, none⟩)]) (blkA g 75 [.pointer (some ⟨gd, 0, none⟩), .int .i64 a.f0, .int .i64 (a.f0 + 1), .int .i64 a.cn, .int .u64 (a.s.i : Int), .int .u64 (a.s.t : Int), .slice As a.s.b.length cs, .bool false]) 17 [0, 1, 2, 3, 4, 5, 6, 7, 8, 9, 10, 11, 12, 13, 14, 15, 16] [0, 1, 2, 3, 4, 5, 13, 14, 15, 6, 7, 8, 9, 10, 11, 12, 16] hS rfl (by kernel_rfl) (by kernel_rfl) (by kernel_rfl) (by kernel_rfl) (fun hap hsel w hS => ?_)
            refine p_q hap hsel 0 rfl rfl ⟨_, ((hS.pick (A := blkA g 75 [.pointer (some ⟨gd, 0, none⟩), .int .i64 a.f0, .int .i64 (a.f0 + 1), .int .i64 a.cn, .int .u64 (a.s.i : Int), .int .u64 (a.s.t : Int), .slice As a.s.b.length cs, .bool false]) (by repeat first | exact .here _ _ | assumption | apply Pick.there)).pick (A := blkA g2 60 [.pointer (some ⟨g, 0, none⟩)]) (by repeat first | exact .here _ _ | assumption | apply Pick.there))⟩ (fun w hI => q_load1 Try.isAgg60 rfl (hI.choose_spec.cell (by repeat first | exact .here _ _ | assumption | apply Pick.there) rfl)) ?_
            refine p_q hap hsel 1 rfl rfl ⟨_, ((hS.pick (A := blkA g 75 [.pointer (some ⟨gd, 0, none⟩), .int .i64 a.f0, .int .i64 (a.f0 + 1), .int .i64 a.cn, .int .u64 (a.s.i : Int), .int .u64 (a.s.t : Int), .slice As a.s.b.length cs, .bool false]) (by repeat first | exact .here _ _ | assumption | apply Pick.there)).pick (A := blkA g2 60 [.pointer (some ⟨g, 0, none⟩)]) (by repeat first | exact .here _ _ | assumption | apply Pick.there))⟩ (fun w hI => q_mv (.int _ _) rfl) ?_
            refine p_q hap hsel 2 rfl rfl ⟨_, ((hS.pick (A := blkA g 75 [.pointer (some ⟨gd, 0, none⟩), .int .i64 a.f0, .int .i64 (a.f0 + 1), .int .i64 a.cn, .int .u64 (a.s.i : Int), .int .u64 (a.s.t : Int), .slice As a.s.b.length cs, .bool false]) (by repeat first | exact .here _ _ | assumption | apply Pick.there)).pick (A := blkA g2 60 [.pointer (some ⟨g, 0, none⟩)]) (by repeat first | exact .here _ _ | assumption | apply Pick.there))⟩ (fun w hI => q_nilCheck rfl) ?_
            refine p_q hap hsel 3 rfl rfl ⟨_, ((hS.pick (A := blkA g 75 [.pointer (some ⟨gd, 0, none⟩), .int .i64 a.f0, .int .i64 (a.f0 + 1), .int .i64 a.cn, .int .u64 (a.s.i : Int), .int .u64 (a.s.t : Int), .slice As a.s.b.length cs, .bool false]) (by repeat first | exact .here _ _ | assumption | apply Pick.there)).pick (A := blkA g2 60 [.pointer (some ⟨g, 0, none⟩)]) (by repeat first | exact .here _ _ | assumption | apply Pick.there))⟩ (fun w hI => q_fieldAddr 1 Try.runUnderlying75 rfl Try.sizeOf73 (by decide) rfl rfl) ?_
            first | refine p_q hap hsel 4 rfl rfl ⟨_, ((hS.pick (A := blkA g 75 [.pointer (some ⟨gd, 0, none⟩), .int .i64 a.f0, .int .i64 (a.f0 + 1), .int .i64 a.cn, .int .u64 (a.s.i : Int), .int .u64 (a.s.t : Int), .slice As a.s.b.length cs, .bool false]) (by repeat first | exact .here _ _ | assumption | apply Pick.there)).pick (A := blkA g2 60 [.pointer (some ⟨g, 0, none⟩)]) (by repeat first | exact .here _ _ | assumption | apply Pick.there))⟩ (fun w hI => q_arr_nat Try.runUnderlying73 Try.sizeOf3 rfl rfl (by omega)) ?_ | refine p_q hap hsel 4 rfl rfl ⟨_, ((hS.pick (A := blkA g 75 [.pointer (some ⟨gd, 0, none⟩), .int .i64 a.f0, .int .i64 (a.f0 + 1), .int .i64 a.cn, .int .u64 (a.s.i : Int), .int .u64 (a.s.t : Int), .slice As a.s.b.length cs, .bool false]) (by repeat first | exact .here _ _ | assumption | apply Pick.there)).pick (A := blkA g2 60 [.pointer (some ⟨g, 0, none⟩)]) (by repeat first | exact .here _ _ | assumption | apply Pick.there))⟩ (fun w hI => q_arr Try.runUnderlying73 Try.sizeOf3 rfl rfl (by omega)) ?_
            refine p_q hap hsel 5 rfl rfl ⟨_, ((hS.pick (A := blkA g 75 [.pointer (some ⟨gd, 0, none⟩), .int .i64 a.f0, .int .i64 (a.f0 + 1), .int .i64 a.cn, .int .u64 (a.s.i : Int), .int .u64 (a.s.t : Int), .slice As a.s.b.length cs, .bool false]) (by repeat first | exact .here _ _ | assumption | apply Pick.there)).pick (A := blkA g2 60 [.pointer (some ⟨g, 0, none⟩)]) (by repeat first | exact .here _ _ | assumption | apply Pick.there))⟩ (fun w hI => q_load1 Try.isAgg3 rfl (hI.choose_spec.cell (by repeat first | exact .here _ _ | assumption | apply Pick.there) rfl)) ?_
            refine p_q hap hsel 6 rfl rfl ⟨_, ((hS.pick (A := blkA g 75 [.pointer (some ⟨gd, 0, none⟩), .int .i64 a.f0, .int .i64 (a.f0 + 1), .int .i64 a.cn, .int .u64 (a.s.i : Int), .int .u64 (a.s.t : Int), .slice As a.s.b.length cs, .bool false]) (by repeat first | exact .here _ _ | assumption | apply Pick.there)).pick (A := blkA g2 60 [.pointer (some ⟨g, 0, none⟩)]) (by repeat first | exact .here _ _ | assumption | apply Pick.there))⟩ (fun w hI => q_load1 Try.isAgg60 rfl (hI.choose_spec.cell (by repeat first | exact .here _ _ | assumption | apply Pick.there) rfl)) ?_
            refine p_q hap hsel 7 rfl rfl ⟨_, ((hS.pick (A := blkA g 75 [.pointer (some ⟨gd, 0, none⟩), .int .i64 a.f0, .int .i64 (a.f0 + 1), .int .i64 a.cn, .int .u64 (a.s.i : Int), .int .u64 (a.s.t : Int), .slice As a.s.b.length cs, .bool false]) (by repeat first | exact .here _ _ | assumption | apply Pick.there)).pick (A := blkA g2 60 [.pointer (some ⟨g, 0, none⟩)]) (by repeat first | exact .here _ _ | assumption | apply Pick.there))⟩ (fun w hI => q_mv (.int _ _) rfl) ?_
            refine p_q hap hsel 8 rfl rfl ⟨_, ((hS.pick (A := blkA g 75 [.pointer (some ⟨gd, 0, none⟩), .int .i64 a.f0, .int .i64 (a.f0 + 1), .int .i64 a.cn, .int .u64 (a.s.i : Int), .int .u64 (a.s.t : Int), .slice As a.s.b.length cs, .bool false]) (by repeat first | exact .here _ _ | assumption | apply Pick.there)).pick (A := blkA g2 60 [.pointer (some ⟨g, 0, none⟩)]) (by repeat first | exact .here _ _ | assumption | apply Pick.there))⟩ (fun w hI => q_sub_i64 rfl rfl (by omega)) ?_
            refine p_q hap hsel 9 rfl rfl ⟨_, ((hS.pick (A := blkA g 75 [.pointer (some ⟨gd, 0, none⟩), .int .i64 a.f0, .int .i64 (a.f0 + 1), .int .i64 a.cn, .int .u64 (a.s.i : Int), .int .u64 (a.s.t : Int), .slice As a.s.b.length cs, .bool false]) (by repeat first | exact .here _ _ | assumption | apply Pick.there)).pick (A := blkA g2 60 [.pointer (some ⟨g, 0, none⟩)]) (by repeat first | exact .here _ _ | assumption | apply Pick.there))⟩ (fun w hI => q_nilCheck rfl) ?_
            refine p_q hap hsel 10 rfl rfl ⟨_, ((hS.pick (A := blkA g 75 [.pointer (some ⟨gd, 0, none⟩), .int .i64 a.f0, .int .i64 (a.f0 + 1), .int .i64 a.cn, .int .u64 (a.s.i : Int), .int .u64 (a.s.t : Int), .slice As a.s.b.length cs, .bool false]) (by repeat first | exact .here _ _ | assumption | apply Pick.there)).pick (A := blkA g2 60 [.pointer (some ⟨g, 0, none⟩)]) (by repeat first | exact .here _ _ | assumption | apply Pick.there))⟩ (fun w hI => q_fieldAddr 1 Try.runUnderlying75 rfl Try.sizeOf73 (by decide) rfl rfl) ?_
            first | refine p_q hap hsel 11 rfl rfl ⟨_, ((hS.pick (A := blkA g 75 [.pointer (some ⟨gd, 0, none⟩), .int .i64 a.f0, .int .i64 (a.f0 + 1), .int .i64 a.cn, .int .u64 (a.s.i : Int), .int .u64 (a.s.t : Int), .slice As a.s.b.length cs, .bool false]) (by repeat first | exact .here _ _ | assumption | apply Pick.there)).pick (A := blkA g2 60 [.pointer (some ⟨g, 0, none⟩)]) (by repeat first | exact .here _ _ | assumption | apply Pick.there))⟩ (fun w hI => q_arr_nat Try.runUnderlying73 Try.sizeOf3 rfl rfl (by omega)) ?_ | refine p_q hap hsel 11 rfl rfl ⟨_, ((hS.pick (A := blkA g 75 [.pointer (some ⟨gd, 0, none⟩), .int .i64 a.f0, .int .i64 (a.f0 + 1), .int .i64 a.cn, .int .u64 (a.s.i : Int), .int .u64 (a.s.t : Int), .slice As a.s.b.length cs, .bool false]) (by repeat first | exact .here _ _ | assumption | apply Pick.there)).pick (A := blkA g2 60 [.pointer (some ⟨g, 0, none⟩)]) (by repeat first | exact .here _ _ | assumption | apply Pick.there))⟩ (fun w hI => q_arr Try.runUnderlying73 Try.sizeOf3 rfl rfl (by omega)) ?_
            refine p_q hap hsel 12 rfl rfl ⟨_, ((hS.pick (A := blkA g 75 [.pointer (some ⟨gd, 0, none⟩), .int .i64 a.f0, .int .i64 (a.f0 + 1), .int .i64 a.cn, .int .u64 (a.s.i : Int), .int .u64 (a.s.t : Int), .slice As a.s.b.length cs, .bool false]) (by repeat first | exact .here _ _ | assumption | apply Pick.there)).pick (A := blkA g2 60 [.pointer (some ⟨g, 0, none⟩)]) (by repeat first | exact .here _ _ | assumption | apply Pick.there))⟩ (fun w hI => q_load1 Try.isAgg3 rfl (hI.choose_spec.cell (by repeat first | exact .here _ _ | assumption | apply Pick.there) rfl)) ?_
            refine p_two 13 14 rfl rfl (by kernel_rfl) ?_ ?_
            ·
              refine t_alloc Try.zeroValue3 rfl hS (fun g8 w hS => ?_)
              refine t_nil ?_
              refine ⟨.inr ⟨_, ((hS.pick (A := blkA g 75 [.pointer (some ⟨gd, 0, none⟩), .int .i64 a.f0, .int .i64 (a.f0 + 1), .int .i64 a.cn, .int .u64 (a.s.i : Int), .int .u64 (a.s.t : Int), .slice As a.s.b.length cs, .bool false]) (by repeat first | exact .here _ _ | assumption | apply Pick.there)).pick (A := blkA g2 60 [.pointer (some ⟨g, 0, none⟩)]) (by repeat first | exact .here _ _ | assumption | apply Pick.there))⟩, ?_⟩
              refine p_one 14 rfl (by kernel_rfl) ?_
              refine t_alloc Try.zeroValue3 rfl hS (fun g9 w hS => ?_)
              refine t_nil ?_
              refine ⟨.inr ⟨_, ((hS.pick (A := blkA g 75 [.pointer (some ⟨gd, 0, none⟩), .int .i64 a.f0, .int .i64 (a.f0 + 1), .int .i64 a.cn, .int .u64 (a.s.i : Int), .int .u64 (a.s.t : Int), .slice As a.s.b.length cs, .bool false]) (by repeat first | exact .here _ _ | assumption | apply Pick.there)).pick (A := blkA g2 60 [.pointer (some ⟨g, 0, none⟩)]) (by repeat first | exact .here _ _ | assumption | apply Pick.there))⟩, ?_⟩
              refine p_one 15 rfl (by kernel_rfl) ?_
              refine t_store (v := (.int _ _)) Try.sizeOf3 hS (by repeat first | exact .here _ _ | assumption | apply Pick.there) rfl rfl rfl rfl rfl rfl (fun w hS => ?_)
              replace hS := hS.recast (show blkA g8 3 _ = blkA g8 3 [.int .i64 (a.f0 + saTo a)] from congrArg (fun n => blkA g8 3 [Value.int .i64 n]) (by omega))
              refine t_nil ?_
              refine ⟨.inr ⟨_, ((hS.pick (A := blkA g 75 [.pointer (some ⟨gd, 0, none⟩), .int .i64 a.f0, .int .i64 (a.f0 + 1), .int .i64 a.cn, .int .u64 (a.s.i : Int), .int .u64 (a.s.t : Int), .slice As a.s.b.length cs, .bool false]) (by repeat first | exact .here _ _ | assumption | apply Pick.there)).pick (A := blkA g2 60 [.pointer (some ⟨g, 0, none⟩)]) (by repeat first | exact .here _ _ | assumption | apply Pick.there))⟩, ?_⟩
              refine p_one 16 rfl (by kernel_rfl) ?_
              refine t_store (v := (.int _ _)) Try.sizeOf3 hS (by repeat first | exact .here _ _ | assumption | apply Pick.there) rfl rfl rfl rfl rfl rfl (fun w hS => ?_)
              replace hS := hS.recast (show blkA g9 3 _ = blkA g9 3 [.int .i64 (a.f0 + (1 - saTo a))] from congrArg (fun n => blkA g9 3 [Value.int .i64 n]) (by omega))
              refine t_nil ?_
              refine ⟨.inl (by kernel_rfl), ?_⟩
              refine p_end (by kernel_rfl) ?_
              refine c_seq ?_
              refine c_region ?_
              refine t_q (q_makeFunc rfl) ?_
              refine t_q (q_as (.func _ _ _) rfl) ?_
              refine t_nil ?_
              refine c_seq ?_
              refine c_seq ?_
              refine c_region ?_
              refine t_q (q_mv (.func _ _ _) rfl) ?_
              refine t_callv_b Try.call87 rfl (write_calls (n := a.f0 + saTo a) (old := a.f0 + (1 - saTo a)) (ys := snB i t bs) ((((((((hS.pick (A := rowA 5 1 A21 _ c21 _) (by repeat first | exact .here _ _ | assumption | apply Pick.there)).pick (A := blkA g9 3 _) (by repeat first | exact .here _ _ | assumption | apply Pick.there)).pick (A := blkA g5 25 _) (by repeat first | exact .here _ _ | assumption | apply Pick.there)).pick (A := blkA g8 3 _) (by repeat first | exact .here _ _ | assumption | apply Pick.there)).pick (A := blkA g2 60 _) (by repeat first | exact .here _ _ | assumption | apply Pick.there)).pick (A := blkA g 75 _) (by repeat first | exact .here _ _ | assumption | apply Pick.there)).pick (A := dskA gd d) (by repeat first | exact .here _ _ | assumption | apply Pick.there))) (fun w h => h.rowRd (A := A21) (bs := snB i t bs) (.here _ _) hm21) hm21 (by omega) hG hc) rfl ?_
              rintro e w ⟨rfl, hS⟩
              refine ⟨_, rfl, ?_⟩
              replace hS := hS.recast (show _ = dskA gd (saP a d (⟨i, t, bs⟩ : Sn)).2 from rfl)
              replace hS := (hS.pick (A := blkA g 75 _) (by repeat first | exact .here _ _ | assumption | apply Pick.there)).recast (show _ = blkA g 75 [.pointer (some ⟨gd, 0, none⟩), .int .i64 a.f0, .int .i64 (a.f0 + 1), .int .i64 a.cn, .int .u64 (a.s.i : Int), .int .u64 (a.s.t : Int), .slice As a.s.b.length cs, .bool (!(saP a d (⟨i, t, bs⟩ : Sn)).1)] from rfl)
              refine t_q (q_not rfl) ?_
              refine t_nil ?_
              refine c_cond rfl ?_ ?_
              · intro hc18
                have hP : (saP a d (⟨i, t, bs⟩ : Sn)).1 = false := not_back hc18
                refine c_seq ?_
                refine c_region ?_
                refine t_q (q_assign) ?_
                refine t_nil ?_
                refine c_ret ?_
                refine r_one rfl rfl ?_
                first
                  | (obtain ⟨e1, e2, e3⟩ := sa_1 (d := d) (s := (⟨i, t, bs⟩ : Sn)) hbr
                     rw [e1, e2, e3]
                     exact ⟨rfl, (St.unar a (((((((hS.pick (A := blkA g2 60 _) (by repeat first | exact .here _ _ | assumption | apply Pick.there)).pick (A := blkA g3 45 _) (by repeat first | exact .here _ _ | assumption | apply Pick.there)).drop.drop).pick (A := dskA gd d) (by repeat first | exact .here _ _ | assumption | apply Pick.there)).pick (A := rowA 5 1 As a.s.b.length cs (a.s.b.map bv)) (by repeat first | exact .here _ _ | assumption | apply Pick.there)).pick (A := blkA g 75 _) (by repeat first | exact .here _ _ | assumption | apply Pick.there))))⟩)
                  | (obtain ⟨e1, e2, e3⟩ := sa_2 (d := d) (s := (⟨i, t, bs⟩ : Sn)) hbr (by show snE i t bs ≠ 0; omega)
                     rw [e1, e2, e3]
                     have hx := (St.unar { a with br := false } (((((((((hS.pick (A := blkA g5 25 _) (by repeat first | exact .here _ _ | assumption | apply Pick.there)).pick (A := rowA 5 1 A21 _ c21 _) (by repeat first | exact .here _ _ | assumption | apply Pick.there)).pick (A := blkA g2 60 _) (by repeat first | exact .here _ _ | assumption | apply Pick.there)).pick (A := blkA g3 45 _) (by repeat first | exact .here _ _ | assumption | apply Pick.there)).drop.drop.drop.drop).pick (A := dskA gd d) (by repeat first | exact .here _ _ | assumption | apply Pick.there)).pick (A := rowA 5 1 As a.s.b.length cs (a.s.b.map bv)) (by repeat first | exact .here _ _ | assumption | apply Pick.there)).pick (A := blkA g 75 _) (by repeat first | exact .here _ _ | assumption | apply Pick.there))))
                     rw [ar_eq hbr] at hx
                     exact ⟨rfl, hx⟩)
                  | (obtain ⟨e1, e2, e3⟩ := sa_3 (d := d) (s := (⟨i, t, bs⟩ : Sn)) hbr hE0 hold
                     rw [e1, e2, e3]
                     have hx := (St.unar { a with br := false } (((((((((hS.pick (A := blkA g5 25 _) (by repeat first | exact .here _ _ | assumption | apply Pick.there)).pick (A := rowA 5 1 A21 _ c21 _) (by repeat first | exact .here _ _ | assumption | apply Pick.there)).pick (A := blkA g2 60 _) (by repeat first | exact .here _ _ | assumption | apply Pick.there)).pick (A := blkA g3 45 _) (by repeat first | exact .here _ _ | assumption | apply Pick.there)).drop.drop.drop.drop).pick (A := dskA gd d) (by repeat first | exact .here _ _ | assumption | apply Pick.there)).pick (A := rowA 5 1 As a.s.b.length cs (a.s.b.map bv)) (by repeat first | exact .here _ _ | assumption | apply Pick.there)).pick (A := blkA g 75 _) (by repeat first | exact .here _ _ | assumption | apply Pick.there))))
                     rw [ar_eq hbr] at hx
                     exact ⟨rfl, hx⟩)
                  | (obtain ⟨e1, e2, e3⟩ := sa_4 (d := d) (s := (⟨i, t, bs⟩ : Sn)) hbr hE0 hold hP
                     rw [e1, e2, e3]
                     rw [hP] at hS
                     exact ⟨rfl, (St.unar { a with br := true } (((((((((((hS.pick (A := blkA g9 3 _) (by repeat first | exact .here _ _ | assumption | apply Pick.there)).pick (A := blkA g8 3 _) (by repeat first | exact .here _ _ | assumption | apply Pick.there)).pick (A := blkA g5 25 _) (by repeat first | exact .here _ _ | assumption | apply Pick.there)).pick (A := rowA 5 1 A21 _ c21 _) (by repeat first | exact .here _ _ | assumption | apply Pick.there)).pick (A := blkA g2 60 _) (by repeat first | exact .here _ _ | assumption | apply Pick.there)).pick (A := blkA g3 45 _) (by repeat first | exact .here _ _ | assumption | apply Pick.there)).drop.drop.drop.drop.drop.drop).pick (A := dskA gd (saP a d (⟨i, t, bs⟩ : Sn)).2) (by repeat first | exact .here _ _ | assumption | apply Pick.there)).pick (A := rowA 5 1 As a.s.b.length cs (a.s.b.map bv)) (by repeat first | exact .here _ _ | assumption | apply Pick.there)).pick (A := blkA g 75 _) (by repeat first | exact .here _ _ | assumption | apply Pick.there))))⟩)
                  | (obtain ⟨e1, e2, e3⟩ := sa_5 (d := d) (s := (⟨i, t, bs⟩ : Sn)) hbr hE0 hold hP
                     rw [e1, e2, e3]
                     rw [hP] at hS
                     exact ⟨rfl, (St.unar ⟨a.f0, saTo a, (⟨i, t, bs⟩ : Sn), false⟩ ((((((((((((hS.pick (A := rowA 5 1 As a.s.b.length cs (a.s.b.map bv)) (by repeat first | exact .here _ _ | assumption | apply Pick.there)).pick (A := blkA g9 3 _) (by repeat first | exact .here _ _ | assumption | apply Pick.there)).pick (A := blkA g8 3 _) (by repeat first | exact .here _ _ | assumption | apply Pick.there)).pick (A := blkA g5 25 _) (by repeat first | exact .here _ _ | assumption | apply Pick.there)).pick (A := rowA 5 1 A21 _ c21 _) (by repeat first | exact .here _ _ | assumption | apply Pick.there)).pick (A := blkA g2 60 _) (by repeat first | exact .here _ _ | assumption | apply Pick.there)).pick (A := blkA g3 45 _) (by repeat first | exact .here _ _ | assumption | apply Pick.there)).drop.drop.drop.drop.drop.drop.drop).pick (A := dskA gd (saP a d (⟨i, t, bs⟩ : Sn)).2) (by repeat first | exact .here _ _ | assumption | apply Pick.there)).pick (A := rowA 5 1 A68 _ c68 _) (by repeat first | exact .here _ _ | assumption | apply Pick.there)).pick (A := blkA g 75 _) (by repeat first | exact .here _ _ | assumption | apply Pick.there))))⟩)
              · intro hc18
                have hP : (saP a d (⟨i, t, bs⟩ : Sn)).1 = true := not_back hc18
                refine c_skip ?_
                refine c_seq ?_
                refine c_region ?_
                refine t_q (q_fieldAddr 2 Try.runUnderlying45 rfl Try.sizeOf25 (by decide) rfl rfl) ?_
                refine t_q (q_load1 Try.isAgg25 rfl (hS.cell (by repeat first | exact .here _ _ | assumption | apply Pick.there) rfl)) ?_
                refine t_call Try.call88 (clone_calls (show RdB w B bs from hrd _ ((((((((((hS.pick (A := dskA gd (saP a d (⟨i, t, bs⟩ : Sn)).2) (by repeat first | exact .here _ _ | assumption | apply Pick.there)).pick (A := blkA g9 3 _) (by repeat first | exact .here _ _ | assumption | apply Pick.there)).pick (A := blkA g8 3 _) (by repeat first | exact .here _ _ | assumption | apply Pick.there)).pick (A := blkA g5 25 _) (by repeat first | exact .here _ _ | assumption | apply Pick.there)).pick (A := rowA 5 1 A21 _ c21 _) (by repeat first | exact .here _ _ | assumption | apply Pick.there)).pick (A := rowA 5 1 As a.s.b.length cs (a.s.b.map bv)) (by repeat first | exact .here _ _ | assumption | apply Pick.there)).pick (A := blkA g 75 _) (by repeat first | exact .here _ _ | assumption | apply Pick.there)).pick (A := blkA g2 60 _) (by repeat first | exact .here _ _ | assumption | apply Pick.there)).pick (A := blkA g3 45 _) (by repeat first | exact .here _ _ | assumption | apply Pick.there)).drop.drop.drop.drop.drop.drop.drop.drop.drop)) (by omega)) rfl ?_
                rintro e w ⟨A68, c68, rfl, hT⟩
                refine ⟨_, rfl, ?_⟩
                have hS : St W w (_ :: _) := hS.lift hT
                refine t_q (q_fieldAddr 2 Try.runUnderlying45 rfl Try.sizeOf25 (by decide) rfl rfl) ?_
                refine t_store (v := (.slice _ _ _)) Try.sizeOf25 hS (by repeat first | exact .here _ _ | assumption | apply Pick.there) rfl rfl rfl rfl rfl rfl (fun w hS => ?_)
                replace hS := hS.recast (show blkA g3 45 _ = blkA g3 45 [.int .u64 (i : Int), .int .u64 (t : Int), .slice A68 bs.length c68] from rfl)
                refine t_nil ?_
                refine c_seq ?_
                refine c_draw ?_
                refine d_keep2 (blkA g2 60 [.pointer (some ⟨g, 0, none⟩)]) (blkA g3 45 [.int .u64 (i : Int), .int .u64 (t : Int), .slice A68 bs.length c68]) 10 [0, 1, 2, 3, 4, 5, 6, 7, 8, 9] [0, 2, 4, 5, 6, 1, 3, 7, 8, 9] hS rfl (by kernel_rfl) (by kernel_rfl) (by kernel_rfl) (by kernel_rfl) (fun hap hsel w hS => ?_)
                refine p_q hap hsel 0 rfl rfl ⟨_, ((hS.pick (A := blkA g3 45 [.int .u64 (i : Int), .int .u64 (t : Int), .slice A68 bs.length c68]) (by repeat first | exact .here _ _ | assumption | apply Pick.there)).pick (A := blkA g2 60 [.pointer (some ⟨g, 0, none⟩)]) (by repeat first | exact .here _ _ | assumption | apply Pick.there))⟩ (fun w hI => q_load1 Try.isAgg60 rfl (hI.choose_spec.cell (by repeat first | exact .here _ _ | assumption | apply Pick.there) rfl)) ?_
                refine p_q hap hsel 1 rfl rfl ⟨_, ((hS.pick (A := blkA g3 45 [.int .u64 (i : Int), .int .u64 (t : Int), .slice A68 bs.length c68]) (by repeat first | exact .here _ _ | assumption | apply Pick.there)).pick (A := blkA g2 60 [.pointer (some ⟨g, 0, none⟩)]) (by repeat first | exact .here _ _ | assumption | apply Pick.there))⟩ (fun w hI => q_load1 Try.isAgg60 rfl (hI.choose_spec.cell (by repeat first | exact .here _ _ | assumption | apply Pick.there) rfl)) ?_
                refine p_q hap hsel 2 rfl rfl ⟨_, ((hS.pick (A := blkA g3 45 [.int .u64 (i : Int), .int .u64 (t : Int), .slice A68 bs.length c68]) (by repeat first | exact .here _ _ | assumption | apply Pick.there)).pick (A := blkA g2 60 [.pointer (some ⟨g, 0, none⟩)]) (by repeat first | exact .here _ _ | assumption | apply Pick.there))⟩ (fun w hI => q_mv (.int _ _) rfl) ?_
                refine p_q hap hsel 3 rfl rfl ⟨_, ((hS.pick (A := blkA g3 45 [.int .u64 (i : Int), .int .u64 (t : Int), .slice A68 bs.length c68]) (by repeat first | exact .here _ _ | assumption | apply Pick.there)).pick (A := blkA g2 60 [.pointer (some ⟨g, 0, none⟩)]) (by repeat first | exact .here _ _ | assumption | apply Pick.there))⟩ (fun w hI => q_load_blk Try.isAgg45 Try.sizeOf45 rfl (hI.choose_spec.blk (by repeat first | exact .here _ _ | assumption | apply Pick.there)) rfl) ?_
                refine p_q hap hsel 4 rfl rfl ⟨_, ((hS.pick (A := blkA g3 45 [.int .u64 (i : Int), .int .u64 (t : Int), .slice A68 bs.length c68]) (by repeat first | exact .here _ _ | assumption | apply Pick.there)).pick (A := blkA g2 60 [.pointer (some ⟨g, 0, none⟩)]) (by repeat first | exact .here _ _ | assumption | apply Pick.there))⟩ (fun w hI => q_nilCheck rfl) ?_
                refine p_q hap hsel 5 rfl rfl ⟨_, ((hS.pick (A := blkA g3 45 [.int .u64 (i : Int), .int .u64 (t : Int), .slice A68 bs.length c68]) (by repeat first | exact .here _ _ | assumption | apply Pick.there)).pick (A := blkA g2 60 [.pointer (some ⟨g, 0, none⟩)]) (by repeat first | exact .here _ _ | assumption | apply Pick.there))⟩ (fun w hI => q_fieldAddr 3 Try.runUnderlying75 rfl Try.sizeOf3 (by decide) rfl rfl) ?_
                refine p_one 6 rfl (by kernel_rfl) ?_
                refine t_store (v := (.int _ _)) Try.sizeOf3 hS (by repeat first | exact .here _ _ | assumption | apply Pick.there) rfl rfl rfl rfl rfl rfl (fun w hS => ?_)
                refine t_nil ?_
                refine ⟨.inr ⟨_, ((hS.pick (A := blkA g3 45 [.int .u64 (i : Int), .int .u64 (t : Int), .slice A68 bs.length c68]) (by repeat first | exact .here _ _ | assumption | apply Pick.there)).pick (A := blkA g2 60 [.pointer (some ⟨g, 0, none⟩)]) (by repeat first | exact .here _ _ | assumption | apply Pick.there))⟩, ?_⟩
                refine p_q hap hsel 7 rfl rfl ⟨_, ((hS.pick (A := blkA g3 45 [.int .u64 (i : Int), .int .u64 (t : Int), .slice A68 bs.length c68]) (by repeat first | exact .here _ _ | assumption | apply Pick.there)).pick (A := blkA g2 60 [.pointer (some ⟨g, 0, none⟩)]) (by repeat first | exact .here _ _ | assumption | apply Pick.there))⟩ (fun w hI => q_nilCheck rfl) ?_
                refine p_q hap hsel 8 rfl rfl ⟨_, ((hS.pick (A := blkA g3 45 [.int .u64 (i : Int), .int .u64 (t : Int), .slice A68 bs.length c68]) (by repeat first | exact .here _ _ | assumption | apply Pick.there)).pick (A := blkA g2 60 [.pointer (some ⟨g, 0, none⟩)]) (by repeat first | exact .here _ _ | assumption | apply Pick.there))⟩ (fun w hI => q_fieldAddr 4 Try.runUnderlying75 rfl Try.sizeOf45 (by decide) rfl rfl) ?_
                refine p_one 9 rfl (by kernel_rfl) ?_
                refine t_store (v := (.agg _)) Try.sizeOf45 hS (by repeat first | exact .here _ _ | assumption | apply Pick.there) rfl rfl rfl rfl rfl rfl (fun w hS => ?_)
                replace hS := hS.recast (show blkA g 75 _ = blkA g 75 [.pointer (some ⟨gd, 0, none⟩), .int .i64 a.f0, .int .i64 (a.f0 + 1), .int .i64 (saTo a), .int .u64 (i : Int), .int .u64 (t : Int), .slice A68 bs.length c68, .bool (!(saP a d (⟨i, t, bs⟩ : Sn)).1)] from by rw [hto]; rfl)
                refine t_nil ?_
                refine ⟨.inl (by kernel_rfl), ?_⟩
                refine p_end (by kernel_rfl) ?_
                refine c_seq ?_
                refine c_region ?_
                refine t_q (q_assign) ?_
                refine t_nil ?_
                refine c_ret ?_
                refine r_one rfl rfl ?_
                first
                  | (obtain ⟨e1, e2, e3⟩ := sa_1 (d := d) (s := (⟨i, t, bs⟩ : Sn)) hbr
                     rw [e1, e2, e3]
                     exact ⟨rfl, (St.unar a (((((((hS.pick (A := blkA g2 60 _) (by repeat first | exact .here _ _ | assumption | apply Pick.there)).pick (A := blkA g3 45 _) (by repeat first | exact .here _ _ | assumption | apply Pick.there)).drop.drop).pick (A := dskA gd d) (by repeat first | exact .here _ _ | assumption | apply Pick.there)).pick (A := rowA 5 1 As a.s.b.length cs (a.s.b.map bv)) (by repeat first | exact .here _ _ | assumption | apply Pick.there)).pick (A := blkA g 75 _) (by repeat first | exact .here _ _ | assumption | apply Pick.there))))⟩)
                  | (obtain ⟨e1, e2, e3⟩ := sa_2 (d := d) (s := (⟨i, t, bs⟩ : Sn)) hbr (by show snE i t bs ≠ 0; omega)
                     rw [e1, e2, e3]
                     have hx := (St.unar { a with br := false } (((((((((hS.pick (A := blkA g5 25 _) (by repeat first | exact .here _ _ | assumption | apply Pick.there)).pick (A := rowA 5 1 A21 _ c21 _) (by repeat first | exact .here _ _ | assumption | apply Pick.there)).pick (A := blkA g2 60 _) (by repeat first | exact .here _ _ | assumption | apply Pick.there)).pick (A := blkA g3 45 _) (by repeat first | exact .here _ _ | assumption | apply Pick.there)).drop.drop.drop.drop).pick (A := dskA gd d) (by repeat first | exact .here _ _ | assumption | apply Pick.there)).pick (A := rowA 5 1 As a.s.b.length cs (a.s.b.map bv)) (by repeat first | exact .here _ _ | assumption | apply Pick.there)).pick (A := blkA g 75 _) (by repeat first | exact .here _ _ | assumption | apply Pick.there))))
                     rw [ar_eq hbr] at hx
                     exact ⟨rfl, hx⟩)
                  | (obtain ⟨e1, e2, e3⟩ := sa_3 (d := d) (s := (⟨i, t, bs⟩ : Sn)) hbr hE0 hold
                     rw [e1, e2, e3]
                     have hx := (St.unar { a with br := false } (((((((((hS.pick (A := blkA g5 25 _) (by repeat first | exact .here _ _ | assumption | apply Pick.there)).pick (A := rowA 5 1 A21 _ c21 _) (by repeat first | exact .here _ _ | assumption | apply Pick.there)).pick (A := blkA g2 60 _) (by repeat first | exact .here _ _ | assumption | apply Pick.there)).pick (A := blkA g3 45 _) (by repeat first | exact .here _ _ | assumption | apply Pick.there)).drop.drop.drop.drop).pick (A := dskA gd d) (by repeat first | exact .here _ _ | assumption | apply Pick.there)).pick (A := rowA 5 1 As a.s.b.length cs (a.s.b.map bv)) (by repeat first | exact .here _ _ | assumption | apply Pick.there)).pick (A := blkA g 75 _) (by repeat first | exact .here _ _ | assumption | apply Pick.there))))
                     rw [ar_eq hbr] at hx
                     exact ⟨rfl, hx⟩)
                  | (obtain ⟨e1, e2, e3⟩ := sa_4 (d := d) (s := (⟨i, t, bs⟩ : Sn)) hbr hE0 hold hP
                     rw [e1, e2, e3]
                     rw [hP] at hS
                     exact ⟨rfl, (St.unar { a with br := true } (((((((((((hS.pick (A := blkA g9 3 _) (by repeat first | exact .here _ _ | assumption | apply Pick.there)).pick (A := blkA g8 3 _) (by repeat first | exact .here _ _ | assumption | apply Pick.there)).pick (A := blkA g5 25 _) (by repeat first | exact .here _ _ | assumption | apply Pick.there)).pick (A := rowA 5 1 A21 _ c21 _) (by repeat first | exact .here _ _ | assumption | apply Pick.there)).pick (A := blkA g2 60 _) (by repeat first | exact .here _ _ | assumption | apply Pick.there)).pick (A := blkA g3 45 _) (by repeat first | exact .here _ _ | assumption | apply Pick.there)).drop.drop.drop.drop.drop.drop).pick (A := dskA gd (saP a d (⟨i, t, bs⟩ : Sn)).2) (by repeat first | exact .here _ _ | assumption | apply Pick.there)).pick (A := rowA 5 1 As a.s.b.length cs (a.s.b.map bv)) (by repeat first | exact .here _ _ | assumption | apply Pick.there)).pick (A := blkA g 75 _) (by repeat first | exact .here _ _ | assumption | apply Pick.there))))⟩)
                  | (obtain ⟨e1, e2, e3⟩ := sa_5 (d := d) (s := (⟨i, t, bs⟩ : Sn)) hbr hE0 hold hP
                     rw [e1, e2, e3]
                     rw [hP] at hS
                     exact ⟨rfl, (St.unar ⟨a.f0, saTo a, (⟨i, t, bs⟩ : Sn), false⟩ ((((((((((((hS.pick (A := rowA 5 1 As a.s.b.length cs (a.s.b.map bv)) (by repeat first | exact .here _ _ | assumption | apply Pick.there)).pick (A := blkA g9 3 _) (by repeat first | exact .here _ _ | assumption | apply Pick.there)).pick (A := blkA g8 3 _) (by repeat first | exact .here _ _ | assumption | apply Pick.there)).pick (A := blkA g5 25 _) (by repeat first | exact .here _ _ | assumption | apply Pick.there)).pick (A := rowA 5 1 A21 _ c21 _) (by repeat first | exact .here _ _ | assumption | apply Pick.there)).pick (A := blkA g2 60 _) (by repeat first | exact .here _ _ | assumption | apply Pick.there)).pick (A := blkA g3 45 _) (by repeat first | exact .here _ _ | assumption | apply Pick.there)).drop.drop.drop.drop.drop.drop.drop).pick (A := dskA gd (saP a d (⟨i, t, bs⟩ : Sn)).2) (by repeat first | exact .here _ _ | assumption | apply Pick.there)).pick (A := rowA 5 1 A68 _ c68 _) (by repeat first | exact .here _ _ | assumption | apply Pick.there)).pick (A := blkA g 75 _) (by repeat first | exact .here _ _ | assumption | apply Pick.there))))⟩)
            ·
              refine t_alloc Try.zeroValue3 rfl hS (fun g9 w hS => ?_)
              refine t_nil ?_
              refine ⟨.inr ⟨_, ((hS.pick (A := blkA g 75 [.pointer (some ⟨gd, 0, none⟩), .int .i64 a.f0, .int .i64 (a.f0 + 1), .int .i64 a.cn, .int .u64 (a.s.i : Int), .int .u64 (a.s.t : Int), .slice As a.s.b.length cs, .bool false]) (by repeat first | exact .here _ _ | assumption | apply Pick.there)).pick (A := blkA g2 60 [.pointer (some ⟨g, 0, none⟩)]) (by repeat first | exact .here _ _ | assumption | apply Pick.there))⟩, ?_⟩
              refine p_one 13 rfl (by kernel_rfl) ?_
              refine t_alloc Try.zeroValue3 rfl hS (fun g8 w hS => ?_)
              refine t_nil ?_
              refine ⟨.inr ⟨_, ((hS.pick (A := blkA g 75 [.pointer (some ⟨gd, 0, none⟩), .int .i64 a.f0, .int .i64 (a.f0 + 1), .int .i64 a.cn, .int .u64 (a.s.i : Int), .int .u64 (a.s.t : Int), .slice As a.s.b.length cs, .bool false]) (by repeat first | exact .here _ _ | assumption | apply Pick.there)).pick (A := blkA g2 60 [.pointer (some ⟨g, 0, none⟩)]) (by repeat first | exact .here _ _ | assumption | apply Pick.there))⟩, ?_⟩
              refine p_one 15 rfl (by kernel_rfl) ?_
              refine t_store (v := (.int _ _)) Try.sizeOf3 hS (by repeat first | exact .here _ _ | assumption | apply Pick.there) rfl rfl rfl rfl rfl rfl (fun w hS => ?_)
              replace hS := hS.recast (show blkA g8 3 _ = blkA g8 3 [.int .i64 (a.f0 + saTo a)] from congrArg (fun n => blkA g8 3 [Value.int .i64 n]) (by omega))
              refine t_nil ?_
              refine ⟨.inr ⟨_, ((hS.pick (A := blkA g 75 [.pointer (some ⟨gd, 0, none⟩), .int .i64 a.f0, .int .i64 (a.f0 + 1), .int .i64 a.cn, .int .u64 (a.s.i : Int), .int .u64 (a.s.t : Int), .slice As a.s.b.length cs, .bool false]) (by repeat first | exact .here _ _ | assumption | apply Pick.there)).pick (A := blkA g2 60 [.pointer (some ⟨g, 0, none⟩)]) (by repeat first | exact .here _ _ | assumption | apply Pick.there))⟩, ?_⟩
              refine p_one 16 rfl (by kernel_rfl) ?_
              refine t_store (v := (.int _ _)) Try.sizeOf3 hS (by repeat first | exact .here _ _ | assumption | apply Pick.there) rfl rfl rfl rfl rfl rfl (fun w hS => ?_)
              replace hS := hS.recast (show blkA g9 3 _ = blkA g9 3 [.int .i64 (a.f0 + (1 - saTo a))] from congrArg (fun n => blkA g9 3 [Value.int .i64 n]) (by omega))
              refine t_nil ?_
              refine ⟨.inl (by kernel_rfl), ?_⟩
              refine p_end (by kernel_rfl) ?_
              refine c_seq ?_
              refine c_region ?_
              refine t_q (q_makeFunc rfl) ?_
              refine t_q (q_as (.func _ _ _) rfl) ?_
              refine t_nil ?_
              refine c_seq ?_
              refine c_seq ?_
              refine c_region ?_
              refine t_q (q_mv (.func _ _ _) rfl) ?_
              refine t_callv_b Try.call87 rfl (write_calls (n := a.f0 + saTo a) (old := a.f0 + (1 - saTo a)) (ys := snB i t bs) ((((((((hS.pick (A := rowA 5 1 A21 _ c21 _) (by repeat first | exact .here _ _ | assumption | apply Pick.there)).pick (A := blkA g9 3 _) (by repeat first | exact .here _ _ | assumption | apply Pick.there)).pick (A := blkA g5 25 _) (by repeat first | exact .here _ _ | assumption | apply Pick.there)).pick (A := blkA g8 3 _) (by repeat first | exact .here _ _ | assumption | apply Pick.there)).pick (A := blkA g2 60 _) (by repeat first | exact .here _ _ | assumption | apply Pick.there)).pick (A := blkA g 75 _) (by repeat first | exact .here _ _ | assumption | apply Pick.there)).pick (A := dskA gd d) (by repeat first | exact .here _ _ | assumption | apply Pick.there))) (fun w h => h.rowRd (A := A21) (bs := snB i t bs) (.here _ _) hm21) hm21 (by omega) hG hc) rfl ?_
              rintro e w ⟨rfl, hS⟩
              refine ⟨_, rfl, ?_⟩
              replace hS := hS.recast (show _ = dskA gd (saP a d (⟨i, t, bs⟩ : Sn)).2 from rfl)
              replace hS := (hS.pick (A := blkA g 75 _) (by repeat first | exact .here _ _ | assumption | apply Pick.there)).recast (show _ = blkA g 75 [.pointer (some ⟨gd, 0, none⟩), .int .i64 a.f0, .int .i64 (a.f0 + 1), .int .i64 a.cn, .int .u64 (a.s.i : Int), .int .u64 (a.s.t : Int), .slice As a.s.b.length cs, .bool (!(saP a d (⟨i, t, bs⟩ : Sn)).1)] from rfl)
              refine t_q (q_not rfl) ?_
              refine t_nil ?_
              refine c_cond rfl ?_ ?_
              · intro hc21
                have hP : (saP a d (⟨i, t, bs⟩ : Sn)).1 = false := not_back hc21
                refine c_seq ?_
                refine c_region ?_
                refine t_q (q_assign) ?_
                refine t_nil ?_
                refine c_ret ?_
                refine r_one rfl rfl ?_
                first
                  | (obtain ⟨e1, e2, e3⟩ := sa_1 (d := d) (s := (⟨i, t, bs⟩ : Sn)) hbr
                     rw [e1, e2, e3]
                     exact ⟨rfl, (St.unar a (((((((hS.pick (A := blkA g2 60 _) (by repeat first | exact .here _ _ | assumption | apply Pick.there)).pick (A := blkA g3 45 _) (by repeat first | exact .here _ _ | assumption | apply Pick.there)).drop.drop).pick (A := dskA gd d) (by repeat first | exact .here _ _ | assumption | apply Pick.there)).pick (A := rowA 5 1 As a.s.b.length cs (a.s.b.map bv)) (by repeat first | exact .here _ _ | assumption | apply Pick.there)).pick (A := blkA g 75 _) (by repeat first | exact .here _ _ | assumption | apply Pick.there))))⟩)
                  | (obtain ⟨e1, e2, e3⟩ := sa_2 (d := d) (s := (⟨i, t, bs⟩ : Sn)) hbr (by show snE i t bs ≠ 0; omega)
                     rw [e1, e2, e3]
                     have hx := (St.unar { a with br := false } (((((((((hS.pick (A := blkA g5 25 _) (by repeat first | exact .here _ _ | assumption | apply Pick.there)).pick (A := rowA 5 1 A21 _ c21 _) (by repeat first | exact .here _ _ | assumption | apply Pick.there)).pick (A := blkA g2 60 _) (by repeat first | exact .here _ _ | assumption | apply Pick.there)).pick (A := blkA g3 45 _) (by repeat first | exact .here _ _ | assumption | apply Pick.there)).drop.drop.drop.drop).pick (A := dskA gd d) (by repeat first | exact .here _ _ | assumption | apply Pick.there)).pick (A := rowA 5 1 As a.s.b.length cs (a.s.b.map bv)) (by repeat first | exact .here _ _ | assumption | apply Pick.there)).pick (A := blkA g 75 _) (by repeat first | exact .here _ _ | assumption | apply Pick.there))))
                     rw [ar_eq hbr] at hx
                     exact ⟨rfl, hx⟩)
                  | (obtain ⟨e1, e2, e3⟩ := sa_3 (d := d) (s := (⟨i, t, bs⟩ : Sn)) hbr hE0 hold
                     rw [e1, e2, e3]
                     have hx := (St.unar { a with br := false } (((((((((hS.pick (A := blkA g5 25 _) (by repeat first | exact .here _ _ | assumption | apply Pick.there)).pick (A := rowA 5 1 A21 _ c21 _) (by repeat first | exact .here _ _ | assumption | apply Pick.there)).pick (A := blkA g2 60 _) (by repeat first | exact .here _ _ | assumption | apply Pick.there)).pick (A := blkA g3 45 _) (by repeat first | exact .here _ _ | assumption | apply Pick.there)).drop.drop.drop.drop).pick (A := dskA gd d) (by repeat first | exact .here _ _ | assumption | apply Pick.there)).pick (A := rowA 5 1 As a.s.b.length cs (a.s.b.map bv)) (by repeat first | exact .here _ _ | assumption | apply Pick.there)).pick (A := blkA g 75 _) (by repeat first | exact .here _ _ | assumption | apply Pick.there))))
                     rw [ar_eq hbr] at hx
                     exact ⟨rfl, hx⟩)
                  | (obtain ⟨e1, e2, e3⟩ := sa_4 (d := d) (s := (⟨i, t, bs⟩ : Sn)) hbr hE0 hold hP
                     rw [e1, e2, e3]
                     rw [hP] at hS
                     exact ⟨rfl, (St.unar { a with br := true } (((((((((((hS.pick (A := blkA g9 3 _) (by repeat first | exact .here _ _ | assumption | apply Pick.there)).pick (A := blkA g8 3 _) (by repeat first | exact .here _ _ | assumption | apply Pick.there)).pick (A := blkA g5 25 _) (by repeat first | exact .here _ _ | assumption | apply Pick.there)).pick (A := rowA 5 1 A21 _ c21 _) (by repeat first | exact .here _ _ | assumption | apply Pick.there)).pick (A := blkA g2 60 _) (by repeat first | exact .here _ _ | assumption | apply Pick.there)).pick (A := blkA g3 45 _) (by repeat first | exact .here _ _ | assumption | apply Pick.there)).drop.drop.drop.drop.drop.drop).pick (A := dskA gd (saP a d (⟨i, t, bs⟩ : Sn)).2) (by repeat first | exact .here _ _ | assumption | apply Pick.there)).pick (A := rowA 5 1 As a.s.b.length cs (a.s.b.map bv)) (by repeat first | exact .here _ _ | assumption | apply Pick.there)).pick (A := blkA g 75 _) (by repeat first | exact .here _ _ | assumption | apply Pick.there))))⟩)
                  | (obtain ⟨e1, e2, e3⟩ := sa_5 (d := d) (s := (⟨i, t, bs⟩ : Sn)) hbr hE0 hold hP
                     rw [e1, e2, e3]
                     rw [hP] at hS
                     exact ⟨rfl, (St.unar ⟨a.f0, saTo a, (⟨i, t, bs⟩ : Sn), false⟩ ((((((((((((hS.pick (A := rowA 5 1 As a.s.b.length cs (a.s.b.map bv)) (by repeat first | exact .here _ _ | assumption | apply Pick.there)).pick (A := blkA g9 3 _) (by repeat first | exact .here _ _ | assumption | apply Pick.there)).pick (A := blkA g8 3 _) (by repeat first | exact .here _ _ | assumption | apply Pick.there)).pick (A := blkA g5 25 _) (by repeat first | exact .here _ _ | assumption | apply Pick.there)).pick (A := rowA 5 1 A21 _ c21 _) (by repeat first | exact .here _ _ | assumption | apply Pick.there)).pick (A := blkA g2 60 _) (by repeat first | exact .here _ _ | assumption | apply Pick.there)).pick (A := blkA g3 45 _) (by repeat first | exact .here _ _ | assumption | apply Pick.there)).drop.drop.drop.drop.drop.drop.drop).pick (A := dskA gd (saP a d (⟨i, t, bs⟩ : Sn)).2) (by repeat first | exact .here _ _ | assumption | apply Pick.there)).pick (A := rowA 5 1 A68 _ c68 _) (by repeat first | exact .here _ _ | assumption | apply Pick.there)).pick (A := blkA g 75 _) (by repeat first | exact .here _ _ | assumption | apply Pick.there))))⟩)
              · intro hc21
                have hP : (saP a d (⟨i, t, bs⟩ : Sn)).1 = true := not_back hc21
                refine c_skip ?_
                refine c_seq ?_
                refine c_region ?_
                refine t_q (q_fieldAddr 2 Try.runUnderlying45 rfl Try.sizeOf25 (by decide) rfl rfl) ?_
                refine t_q (q_load1 Try.isAgg25 rfl (hS.cell (by repeat first | exact .here _ _ | assumption | apply Pick.there) rfl)) ?_
                refine t_call Try.call88 (clone_calls (show RdB w B bs from hrd _ ((((((((((hS.pick (A := dskA gd (saP a d (⟨i, t, bs⟩ : Sn)).2) (by repeat first | exact .here _ _ | assumption | apply Pick.there)).pick (A := blkA g9 3 _) (by repeat first | exact .here _ _ | assumption | apply Pick.there)).pick (A := blkA g8 3 _) (by repeat first | exact .here _ _ | assumption | apply Pick.there)).pick (A := blkA g5 25 _) (by repeat first | exact .here _ _ | assumption | apply Pick.there)).pick (A := rowA 5 1 A21 _ c21 _) (by repeat first | exact .here _ _ | assumption | apply Pick.there)).pick (A := rowA 5 1 As a.s.b.length cs (a.s.b.map bv)) (by repeat first | exact .here _ _ | assumption | apply Pick.there)).pick (A := blkA g 75 _) (by repeat first | exact .here _ _ | assumption | apply Pick.there)).pick (A := blkA g2 60 _) (by repeat first | exact .here _ _ | assumption | apply Pick.there)).pick (A := blkA g3 45 _) (by repeat first | exact .here _ _ | assumption | apply Pick.there)).drop.drop.drop.drop.drop.drop.drop.drop.drop)) (by omega)) rfl ?_
                rintro e w ⟨A68, c68, rfl, hT⟩
                refine ⟨_, rfl, ?_⟩
                have hS : St W w (_ :: _) := hS.lift hT
                refine t_q (q_fieldAddr 2 Try.runUnderlying45 rfl Try.sizeOf25 (by decide) rfl rfl) ?_
                refine t_store (v := (.slice _ _ _)) Try.sizeOf25 hS (by repeat first | exact .here _ _ | assumption | apply Pick.there) rfl rfl rfl rfl rfl rfl (fun w hS => ?_)
                replace hS := hS.recast (show blkA g3 45 _ = blkA g3 45 [.int .u64 (i : Int), .int .u64 (t : Int), .slice A68 bs.length c68] from rfl)
                refine t_nil ?_
                refine c_seq ?_
                refine c_draw ?_
                refine d_keep2 (blkA g2 60 [.pointer (some ⟨g, 0, none⟩)]) (blkA g3 45 [.int .u64 (i : Int), .int .u64 (t : Int), .slice A68 bs.length c68]) 10 [0, 1, 2, 3, 4, 5, 6, 7, 8, 9] [0, 2, 4, 5, 6, 1, 3, 7, 8, 9] hS rfl (by kernel_rfl) (by kernel_rfl) (by kernel_rfl) (by kernel_rfl) (fun hap hsel w hS => ?_)
                refine p_q hap hsel 0 rfl rfl ⟨_, ((hS.pick (A := blkA g3 45 [.int .u64 (i : Int), .int .u64 (t : Int), .slice A68 bs.length c68]) (by repeat first | exact .here _ _ | assumption | apply Pick.there)).pick (A := blkA g2 60 [.pointer (some ⟨g, 0, none⟩)]) (by repeat first | exact .here _ _ | assumption | apply Pick.there))⟩ (fun w hI => q_load1 Try.isAgg60 rfl (hI.choose_spec.cell (by repeat first | exact .here _ _ | assumption | apply Pick.there) rfl)) ?_
                refine p_q hap hsel 1 rfl rfl ⟨_, ((hS.pick (A := blkA g3 45 [.int .u64 (i : Int), .int .u64 (t : Int), .slice A68 bs.length c68]) (by repeat first | exact .here _ _ | assumption | apply Pick.there)).pick (A := blkA g2 60 [.pointer (some ⟨g, 0, none⟩)]) (by repeat first | exact .here _ _ | assumption | apply Pick.there))⟩ (fun w hI => q_load1 Try.isAgg60 rfl (hI.choose_spec.cell (by repeat first | exact .here _ _ | assumption | apply Pick.there) rfl)) ?_
                refine p_q hap hsel 2 rfl rfl ⟨_, ((hS.pick (A := blkA g3 45 [.int .u64 (i : Int), .int .u64 (t : Int), .slice A68 bs.length c68]) (by repeat first | exact .here _ _ | assumption | apply Pick.there)).pick (A := blkA g2 60 [.pointer (some ⟨g, 0, none⟩)]) (by repeat first | exact .here _ _ | assumption | apply Pick.there))⟩ (fun w hI => q_mv (.int _ _) rfl) ?_
                refine p_q hap hsel 3 rfl rfl ⟨_, ((hS.pick (A := blkA g3 45 [.int .u64 (i : Int), .int .u64 (t : Int), .slice A68 bs.length c68]) (by repeat first | exact .here _ _ | assumption | apply Pick.there)).pick (A := blkA g2 60 [.pointer (some ⟨g, 0, none⟩)]) (by repeat first | exact .here _ _ | assumption | apply Pick.there))⟩ (fun w hI => q_load_blk Try.isAgg45 Try.sizeOf45 rfl (hI.choose_spec.blk (by repeat first | exact .here _ _ | assumption | apply Pick.there)) rfl) ?_
                refine p_q hap hsel 4 rfl rfl ⟨_, ((hS.pick (A := blkA g3 45 [.int .u64 (i : Int), .int .u64 (t : Int), .slice A68 bs.length c68]) (by repeat first | exact .here _ _ | assumption | apply Pick.there)).pick (A := blkA g2 60 [.pointer (some ⟨g, 0, none⟩)]) (by repeat first | exact .here _ _ | assumption | apply Pick.there))⟩ (fun w hI => q_nilCheck rfl) ?_
                refine p_q hap hsel 5 rfl rfl ⟨_, ((hS.pick (A := blkA g3 45 [.int .u64 (i : Int), .int .u64 (t : Int), .slice A68 bs.length c68]) (by repeat first | exact .here _ _ | assumption | apply Pick.there)).pick (A := blkA g2 60 [.pointer (some ⟨g, 0, none⟩)]) (by repeat first | exact .here _ _ | assumption | apply Pick.there))⟩ (fun w hI => q_fieldAddr 3 Try.runUnderlying75 rfl Try.sizeOf3 (by decide) rfl rfl) ?_
                refine p_one 6 rfl (by kernel_rfl) ?_
                refine t_store (v := (.int _ _)) Try.sizeOf3 hS (by repeat first | exact .here _ _ | assumption | apply Pick.there) rfl rfl rfl rfl rfl rfl (fun w hS => ?_)
                refine t_nil ?_
                refine ⟨.inr ⟨_, ((hS.pick (A := blkA g3 45 [.int .u64 (i : Int), .int .u64 (t : Int), .slice A68 bs.length c68]) (by repeat first | exact .here _ _ | assumption | apply Pick.there)).pick (A := blkA g2 60 [.pointer (some ⟨g, 0, none⟩)]) (by repeat first | exact .here _ _ | assumption | apply Pick.there))⟩, ?_⟩
                refine p_q hap hsel 7 rfl rfl ⟨_, ((hS.pick (A := blkA g3 45 [.int .u64 (i : Int), .int .u64 (t : Int), .slice A68 bs.length c68]) (by repeat first | exact .here _ _ | assumption | apply Pick.there)).pick (A := blkA g2 60 [.pointer (some ⟨g, 0, none⟩)]) (by repeat first | exact .here _ _ | assumption | apply Pick.there))⟩ (fun w hI => q_nilCheck rfl) ?_
                refine p_q hap hsel 8 rfl rfl ⟨_, ((hS.pick (A := blkA g3 45 [.int .u64 (i : Int), .int .u64 (t : Int), .slice A68 bs.length c68]) (by repeat first | exact .here _ _ | assumption | apply Pick.there)).pick (A := blkA g2 60 [.pointer (some ⟨g, 0, none⟩)]) (by repeat first | exact .here _ _ | assumption | apply Pick.there))⟩ (fun w hI => q_fieldAddr 4 Try.runUnderlying75 rfl Try.sizeOf45 (by decide) rfl rfl) ?_
                refine p_one 9 rfl (by kernel_rfl) ?_
                refine t_store (v := (.agg _)) Try.sizeOf45 hS (by repeat first | exact .here _ _ | assumption | apply Pick.there) rfl rfl rfl rfl rfl rfl (fun w hS => ?_)
                replace hS := hS.recast (show blkA g 75 _ = blkA g 75 [.pointer (some ⟨gd, 0, none⟩), .int .i64 a.f0, .int .i64 (a.f0 + 1), .int .i64 (saTo a), .int .u64 (i : Int), .int .u64 (t : Int), .slice A68 bs.length c68, .bool (!(saP a d (⟨i, t, bs⟩ : Sn)).1)] from by rw [hto]; rfl)
                refine t_nil ?_
                refine ⟨.inl (by kernel_rfl), ?_⟩
                refine p_end (by kernel_rfl) ?_
                refine c_seq ?_
                refine c_region ?_
                refine t_q (q_assign) ?_
                refine t_nil ?_
                refine c_ret ?_
                refine r_one rfl rfl ?_
                first
                  | (obtain ⟨e1, e2, e3⟩ := sa_1 (d := d) (s := (⟨i, t, bs⟩ : Sn)) hbr
                     rw [e1, e2, e3]
                     exact ⟨rfl, (St.unar a (((((((hS.pick (A := blkA g2 60 _) (by repeat first | exact .here _ _ | assumption | apply Pick.there)).pick (A := blkA g3 45 _) (by repeat first | exact .here _ _ | assumption | apply Pick.there)).drop.drop).pick (A := dskA gd d) (by repeat first | exact .here _ _ | assumption | apply Pick.there)).pick (A := rowA 5 1 As a.s.b.length cs (a.s.b.map bv)) (by repeat first | exact .here _ _ | assumption | apply Pick.there)).pick (A := blkA g 75 _) (by repeat first | exact .here _ _ | assumption | apply Pick.there))))⟩)
                  | (obtain ⟨e1, e2, e3⟩ := sa_2 (d := d) (s := (⟨i, t, bs⟩ : Sn)) hbr (by show snE i t bs ≠ 0; omega)
                     rw [e1, e2, e3]
                     have hx := (St.unar { a with br := false } (((((((((hS.pick (A := blkA g5 25 _) (by repeat first | exact .here _ _ | assumption | apply Pick.there)).pick (A := rowA 5 1 A21 _ c21 _) (by repeat first | exact .here _ _ | assumption | apply Pick.there)).pick (A := blkA g2 60 _) (by repeat first | exact .here _ _ | assumption | apply Pick.there)).pick (A := blkA g3 45 _) (by repeat first | exact .here _ _ | assumption | apply Pick.there)).drop.drop.drop.drop).pick (A := dskA gd d) (by repeat first | exact .here _ _ | assumption | apply Pick.there)).pick (A := rowA 5 1 As a.s.b.length cs (a.s.b.map bv)) (by repeat first | exact .here _ _ | assumption | apply Pick.there)).pick (A := blkA g 75 _) (by repeat first | exact .here _ _ | assumption | apply Pick.there))))
                     rw [ar_eq hbr] at hx
                     exact ⟨rfl, hx⟩)
                  | (obtain ⟨e1, e2, e3⟩ := sa_3 (d := d) (s := (⟨i, t, bs⟩ : Sn)) hbr hE0 hold
                     rw [e1, e2, e3]
                     have hx := (St.unar { a with br := false } (((((((((hS.pick (A := blkA g5 25 _) (by repeat first | exact .here _ _ | assumption | apply Pick.there)).pick (A := rowA 5 1 A21 _ c21 _) (by repeat first | exact .here _ _ | assumption | apply Pick.there)).pick (A := blkA g2 60 _) (by repeat first | exact .here _ _ | assumption | apply Pick.there)).pick (A := blkA g3 45 _) (by repeat first | exact .here _ _ | assumption | apply Pick.there)).drop.drop.drop.drop).pick (A := dskA gd d) (by repeat first | exact .here _ _ | assumption | apply Pick.there)).pick (A := rowA 5 1 As a.s.b.length cs (a.s.b.map bv)) (by repeat first | exact .here _ _ | assumption | apply Pick.there)).pick (A := blkA g 75 _) (by repeat first | exact .here _ _ | assumption | apply Pick.there))))
                     rw [ar_eq hbr] at hx
                     exact ⟨rfl, hx⟩)
                  | (obtain ⟨e1, e2, e3⟩ := sa_4 (d := d) (s := (⟨i, t, bs⟩ : Sn)) hbr hE0 hold hP
                     rw [e1, e2, e3]
                     rw [hP] at hS
                     exact ⟨rfl, (St.unar { a with br := true } (((((((((((hS.pick (A := blkA g9 3 _) (by repeat first | exact .here _ _ | assumption | apply Pick.there)).pick (A := blkA g8 3 _) (by repeat first | exact .here _ _ | assumption | apply Pick.there)).pick (A := blkA g5 25 _) (by repeat first | exact .here _ _ | assumption | apply Pick.there)).pick (A := rowA 5 1 A21 _ c21 _) (by repeat first | exact .here _ _ | assumption | apply Pick.there)).pick (A := blkA g2 60 _) (by repeat first | exact .here _ _ | assumption | apply Pick.there)).pick (A := blkA g3 45 _) (by repeat first | exact .here _ _ | assumption | apply Pick.there)).drop.drop.drop.drop.drop.drop).pick (A := dskA gd (saP a d (⟨i, t, bs⟩ : Sn)).2) (by repeat first | exact .here _ _ | assumption | apply Pick.there)).pick (A := rowA 5 1 As a.s.b.length cs (a.s.b.map bv)) (by repeat first | exact .here _ _ | assumption | apply Pick.there)).pick (A := blkA g 75 _) (by repeat first | exact .here _ _ | assumption | apply Pick.there))))⟩)
                  | (obtain ⟨e1, e2, e3⟩ := sa_5 (d := d) (s := (⟨i, t, bs⟩ : Sn)) hbr hE0 hold hP
                     rw [e1, e2, e3]
                     rw [hP] at hS
                     exact ⟨rfl, (St.unar ⟨a.f0, saTo a, (⟨i, t, bs⟩ : Sn), false⟩ ((((((((((((hS.pick (A := rowA 5 1 As a.s.b.length cs (a.s.b.map bv)) (by repeat first | exact .here _ _ | assumption | apply Pick.there)).pick (A := blkA g9 3 _) (by repeat first | exact .here _ _ | assumption | apply Pick.there)).pick (A := blkA g8 3 _) (by repeat first | exact .here _ _ | assumption | apply Pick.there)).pick (A := blkA g5 25 _) (by repeat first | exact .here _ _ | assumption | apply Pick.there)).pick (A := rowA 5 1 A21 _ c21 _) (by repeat first | exact .here _ _ | assumption | apply Pick.there)).pick (A := blkA g2 60 _) (by repeat first | exact .here _ _ | assumption | apply Pick.there)).pick (A := blkA g3 45 _) (by repeat first | exact .here _ _ | assumption | apply Pick.there)).drop.drop.drop.drop.drop.drop.drop).pick (A := dskA gd (saP a d (⟨i, t, bs⟩ : Sn)).2) (by repeat first | exact .here _ _ | assumption | apply Pick.there)).pick (A := rowA 5 1 A68 _ c68 _) (by repeat first | exact .here _ _ | assumption | apply Pick.there)).pick (A := blkA g 75 _) (by repeat first | exact .here _ _ | assumption | apply Pick.there))))⟩)
          · intro hc14
            have hc14d := of_decide_eq_false hc14
            have hto : saTo a = 0 := by unfold saTo; rw [if_neg (by omega)]
            refine c_skip ?_
            refine c_seq ?_
            refine c_draw ?_
            refine d_keep2 (blkA g2 60 [.pointer (some ⟨g, 0, none⟩)]) (blkA g 75 [.pointer (some ⟨gd, 0, none⟩), .int .i64 a.f0, .int .i64 (a.f0 + 1), .int .i64 a.cn, .int .u64 (a.s.i : Int), .int .u64 (a.s.t : Int), .slice As a.s.b.length cs, .bool false]) 17 [0, 1, 2, 3, 4, 5, 6, 7, 8, 9, 10, 11, 12, 13, 14, 15, 16] [0, 1, 2, 3, 4, 5, 13, 14, 15, 6, 7, 8, 9, 10, 11, 12, 16] hS rfl (by kernel_rfl) (by kernel_rfl) (by kernel_rfl) (by kernel_rfl) (fun hap hsel w hS => ?_)
            refine p_q hap hsel 0 rfl rfl ⟨_, ((hS.pick (A := blkA g 75 [.pointer (some ⟨gd, 0, none⟩), .int .i64 a.f0, .int .i64 (a.f0 + 1), .int .i64 a.cn, .int .u64 (a.s.i : Int), .int .u64 (a.s.t : Int), .slice As a.s.b.length cs, .bool false]) (by repeat first | exact .here _ _ | assumption | apply Pick.there)).pick (A := blkA g2 60 [.pointer (some ⟨g, 0, none⟩)]) (by repeat first | exact .here _ _ | assumption | apply Pick.there))⟩ (fun w hI => q_load1 Try.isAgg60 rfl (hI.choose_spec.cell (by repeat first | exact .here _ _ | assumption | apply Pick.there) rfl)) ?_
            refine p_q hap hsel 1 rfl rfl ⟨_, ((hS.pick (A := blkA g 75 [.pointer (some ⟨gd, 0, none⟩), .int .i64 a.f0, .int .i64 (a.f0 + 1), .int .i64 a.cn, .int .u64 (a.s.i : Int), .int .u64 (a.s.t : Int), .slice As a.s.b.length cs, .bool false]) (by repeat first | exact .here _ _ | assumption | apply Pick.there)).pick (A := blkA g2 60 [.pointer (some ⟨g, 0, none⟩)]) (by repeat first | exact .here _ _ | assumption | apply Pick.there))⟩ (fun w hI => q_mv (.int _ _) rfl) ?_
            refine p_q hap hsel 2 rfl rfl ⟨_, ((hS.pick (A := blkA g 75 [.pointer (some ⟨gd, 0, none⟩), .int .i64 a.f0, .int .i64 (a.f0 + 1), .int .i64 a.cn, .int .u64 (a.s.i : Int), .int .u64 (a.s.t : Int), .slice As a.s.b.length cs, .bool false]) (by repeat first | exact .here _ _ | assumption | apply Pick.there)).pick (A := blkA g2 60 [.pointer (some ⟨g, 0, none⟩)]) (by repeat first | exact .here _ _ | assumption | apply Pick.there))⟩ (fun w hI => q_nilCheck rfl) ?_
            refine p_q hap hsel 3 rfl rfl ⟨_, ((hS.pick (A := blkA g 75 [.pointer (some ⟨gd, 0, none⟩), .int .i64 a.f0, .int .i64 (a.f0 + 1), .int .i64 a.cn, .int .u64 (a.s.i : Int), .int .u64 (a.s.t : Int), .slice As a.s.b.length cs, .bool false]) (by repeat first | exact .here _ _ | assumption | apply Pick.there)).pick (A := blkA g2 60 [.pointer (some ⟨g, 0, none⟩)]) (by repeat first | exact .here _ _ | assumption | apply Pick.there))⟩ (fun w hI => q_fieldAddr 1 Try.runUnderlying75 rfl Try.sizeOf73 (by decide) rfl rfl) ?_
            first | refine p_q hap hsel 4 rfl rfl ⟨_, ((hS.pick (A := blkA g 75 [.pointer (some ⟨gd, 0, none⟩), .int .i64 a.f0, .int .i64 (a.f0 + 1), .int .i64 a.cn, .int .u64 (a.s.i : Int), .int .u64 (a.s.t : Int), .slice As a.s.b.length cs, .bool false]) (by repeat first | exact .here _ _ | assumption | apply Pick.there)).pick (A := blkA g2 60 [.pointer (some ⟨g, 0, none⟩)]) (by repeat first | exact .here _ _ | assumption | apply Pick.there))⟩ (fun w hI => q_arr_nat Try.runUnderlying73 Try.sizeOf3 rfl rfl (by omega)) ?_ | refine p_q hap hsel 4 rfl rfl ⟨_, ((hS.pick (A := blkA g 75 [.pointer (some ⟨gd, 0, none⟩), .int .i64 a.f0, .int .i64 (a.f0 + 1), .int .i64 a.cn, .int .u64 (a.s.i : Int), .int .u64 (a.s.t : Int), .slice As a.s.b.length cs, .bool false]) (by repeat first | exact .here _ _ | assumption | apply Pick.there)).pick (A := blkA g2 60 [.pointer (some ⟨g, 0, none⟩)]) (by repeat first | exact .here _ _ | assumption | apply Pick.there))⟩ (fun w hI => q_arr Try.runUnderlying73 Try.sizeOf3 rfl rfl (by omega)) ?_
            refine p_q hap hsel 5 rfl rfl ⟨_, ((hS.pick (A := blkA g 75 [.pointer (some ⟨gd, 0, none⟩), .int .i64 a.f0, .int .i64 (a.f0 + 1), .int .i64 a.cn, .int .u64 (a.s.i : Int), .int .u64 (a.s.t : Int), .slice As a.s.b.length cs, .bool false]) (by repeat first | exact .here _ _ | assumption | apply Pick.there)).pick (A := blkA g2 60 [.pointer (some ⟨g, 0, none⟩)]) (by repeat first | exact .here _ _ | assumption | apply Pick.there))⟩ (fun w hI => q_load1 Try.isAgg3 rfl (hI.choose_spec.cell (by repeat first | exact .here _ _ | assumption | apply Pick.there) rfl)) ?_
            refine p_q hap hsel 6 rfl rfl ⟨_, ((hS.pick (A := blkA g 75 [.pointer (some ⟨gd, 0, none⟩), .int .i64 a.f0, .int .i64 (a.f0 + 1), .int .i64 a.cn, .int .u64 (a.s.i : Int), .int .u64 (a.s.t : Int), .slice As a.s.b.length cs, .bool false]) (by repeat first | exact .here _ _ | assumption | apply Pick.there)).pick (A := blkA g2 60 [.pointer (some ⟨g, 0, none⟩)]) (by repeat first | exact .here _ _ | assumption | apply Pick.there))⟩ (fun w hI => q_load1 Try.isAgg60 rfl (hI.choose_spec.cell (by repeat first | exact .here _ _ | assumption | apply Pick.there) rfl)) ?_
            refine p_q hap hsel 7 rfl rfl ⟨_, ((hS.pick (A := blkA g 75 [.pointer (some ⟨gd, 0, none⟩), .int .i64 a.f0, .int .i64 (a.f0 + 1), .int .i64 a.cn, .int .u64 (a.s.i : Int), .int .u64 (a.s.t : Int), .slice As a.s.b.length cs, .bool false]) (by repeat first | exact .here _ _ | assumption | apply Pick.there)).pick (A := blkA g2 60 [.pointer (some ⟨g, 0, none⟩)]) (by repeat first | exact .here _ _ | assumption | apply Pick.there))⟩ (fun w hI => q_mv (.int _ _) rfl) ?_
            refine p_q hap hsel 8 rfl rfl ⟨_, ((hS.pick (A := blkA g 75 [.pointer (some ⟨gd, 0, none⟩), .int .i64 a.f0, .int .i64 (a.f0 + 1), .int .i64 a.cn, .int .u64 (a.s.i : Int), .int .u64 (a.s.t : Int), .slice As a.s.b.length cs, .bool false]) (by repeat first | exact .here _ _ | assumption | apply Pick.there)).pick (A := blkA g2 60 [.pointer (some ⟨g, 0, none⟩)]) (by repeat first | exact .here _ _ | assumption | apply Pick.there))⟩ (fun w hI => q_sub_i64 rfl rfl (by omega)) ?_
            refine p_q hap hsel 9 rfl rfl ⟨_, ((hS.pick (A := blkA g 75 [.pointer (some ⟨gd, 0, none⟩), .int .i64 a.f0, .int .i64 (a.f0 + 1), .int .i64 a.cn, .int .u64 (a.s.i : Int), .int .u64 (a.s.t : Int), .slice As a.s.b.length cs, .bool false]) (by repeat first | exact .here _ _ | assumption | apply Pick.there)).pick (A := blkA g2 60 [.pointer (some ⟨g, 0, none⟩)]) (by repeat first | exact .here _ _ | assumption | apply Pick.there))⟩ (fun w hI => q_nilCheck rfl) ?_
            refine p_q hap hsel 10 rfl rfl ⟨_, ((hS.pick (A := blkA g 75 [.pointer (some ⟨gd, 0, none⟩), .int .i64 a.f0, .int .i64 (a.f0 + 1), .int .i64 a.cn, .int .u64 (a.s.i : Int), .int .u64 (a.s.t : Int), .slice As a.s.b.length cs, .bool false]) (by repeat first | exact .here _ _ | assumption | apply Pick.there)).pick (A := blkA g2 60 [.pointer (some ⟨g, 0, none⟩)]) (by repeat first | exact .here _ _ | assumption | apply Pick.there))⟩ (fun w hI => q_fieldAddr 1 Try.runUnderlying75 rfl Try.sizeOf73 (by decide) rfl rfl) ?_
            first | refine p_q hap hsel 11 rfl rfl ⟨_, ((hS.pick (A := blkA g 75 [.pointer (some ⟨gd, 0, none⟩), .int .i64 a.f0, .int .i64 (a.f0 + 1), .int .i64 a.cn, .int .u64 (a.s.i : Int), .int .u64 (a.s.t : Int), .slice As a.s.b.length cs, .bool false]) (by repeat first | exact .here _ _ | assumption | apply Pick.there)).pick (A := blkA g2 60 [.pointer (some ⟨g, 0, none⟩)]) (by repeat first | exact .here _ _ | assumption | apply Pick.there))⟩ (fun w hI => q_arr_nat Try.runUnderlying73 Try.sizeOf3 rfl rfl (by omega)) ?_ | refine p_q hap hsel 11 rfl rfl ⟨_, ((hS.pick (A := blkA g 75 [.pointer (some ⟨gd, 0, none⟩), .int .i64 a.f0, .int .i64 (a.f0 + 1), .int .i64 a.cn, .int .u64 (a.s.i : Int), .int .u64 (a.s.t : Int), .slice As a.s.b.length cs, .bool false]) (by repeat first | exact .here _ _ | assumption | apply Pick.there)).pick (A := blkA g2 60 [.pointer (some ⟨g, 0, none⟩)]) (by repeat first | exact .here _ _ | assumption | apply Pick.there))⟩ (fun w hI => q_arr Try.runUnderlying73 Try.sizeOf3 rfl rfl (by omega)) ?_
            refine p_q hap hsel 12 rfl rfl ⟨_, ((hS.pick (A := blkA g 75 [.pointer (some ⟨gd, 0, none⟩), .int .i64 a.f0, .int .i64 (a.f0 + 1), .int .i64 a.cn, .int .u64 (a.s.i : Int), .int .u64 (a.s.t : Int), .slice As a.s.b.length cs, .bool false]) (by repeat first | exact .here _ _ | assumption | apply Pick.there)).pick (A := blkA g2 60 [.pointer (some ⟨g, 0, none⟩)]) (by repeat first | exact .here _ _ | assumption | apply Pick.there))⟩ (fun w hI => q_load1 Try.isAgg3 rfl (hI.choose_spec.cell (by repeat first | exact .here _ _ | assumption | apply Pick.there) rfl)) ?_
            refine p_two 13 14 rfl rfl (by kernel_rfl) ?_ ?_
            ·
              refine t_alloc Try.zeroValue3 rfl hS (fun g8 w hS => ?_)
              refine t_nil ?_
              refine ⟨.inr ⟨_, ((hS.pick (A := blkA g 75 [.pointer (some ⟨gd, 0, none⟩), .int .i64 a.f0, .int .i64 (a.f0 + 1), .int .i64 a.cn, .int .u64 (a.s.i : Int), .int .u64 (a.s.t : Int), .slice As a.s.b.length cs, .bool false]) (by repeat first | exact .here _ _ | assumption | apply Pick.there)).pick (A := blkA g2 60 [.pointer (some ⟨g, 0, none⟩)]) (by repeat first | exact .here _ _ | assumption | apply Pick.there))⟩, ?_⟩
              refine p_one 14 rfl (by kernel_rfl) ?_
              refine t_alloc Try.zeroValue3 rfl hS (fun g9 w hS => ?_)
              refine t_nil ?_
              refine ⟨.inr ⟨_, ((hS.pick (A := blkA g 75 [.pointer (some ⟨gd, 0, none⟩), .int .i64 a.f0, .int .i64 (a.f0 + 1), .int .i64 a.cn, .int .u64 (a.s.i : Int), .int .u64 (a.s.t : Int), .slice As a.s.b.length cs, .bool false]) (by repeat first | exact .here _ _ | assumption | apply Pick.there)).pick (A := blkA g2 60 [.pointer (some ⟨g, 0, none⟩)]) (by repeat first | exact .here _ _ | assumption | apply Pick.there))⟩, ?_⟩
              refine p_one 15 rfl (by kernel_rfl) ?_
              refine t_store (v := (.int _ _)) Try.sizeOf3 hS (by repeat first | exact .here _ _ | assumption | apply Pick.there) rfl rfl rfl rfl rfl rfl (fun w hS => ?_)
              replace hS := hS.recast (show blkA g8 3 _ = blkA g8 3 [.int .i64 (a.f0 + saTo a)] from congrArg (fun n => blkA g8 3 [Value.int .i64 n]) (by omega))
              refine t_nil ?_
              refine ⟨.inr ⟨_, ((hS.pick (A := blkA g 75 [.pointer (some ⟨gd, 0, none⟩), .int .i64 a.f0, .int .i64 (a.f0 + 1), .int .i64 a.cn, .int .u64 (a.s.i : Int), .int .u64 (a.s.t : Int), .slice As a.s.b.length cs, .bool false]) (by repeat first | exact .here _ _ | assumption | apply Pick.there)).pick (A := blkA g2 60 [.pointer (some ⟨g, 0, none⟩)]) (by repeat first | exact .here _ _ | assumption | apply Pick.there))⟩, ?_⟩
              refine p_one 16 rfl (by kernel_rfl) ?_
              refine t_store (v := (.int _ _)) Try.sizeOf3 hS (by repeat first | exact .here _ _ | assumption | apply Pick.there) rfl rfl rfl rfl rfl rfl (fun w hS => ?_)
              replace hS := hS.recast (show blkA g9 3 _ = blkA g9 3 [.int .i64 (a.f0 + (1 - saTo a))] from congrArg (fun n => blkA g9 3 [Value.int .i64 n]) (by omega))
              refine t_nil ?_
              refine ⟨.inl (by kernel_rfl), ?_⟩
              refine p_end (by kernel_rfl) ?_
              refine c_seq ?_
              refine c_region ?_
              refine t_q (q_makeFunc rfl) ?_
              refine t_q (q_as (.func _ _ _) rfl) ?_
              refine t_nil ?_
              refine c_seq ?_
              refine c_seq ?_
              refine c_region ?_
              refine t_q (q_mv (.func _ _ _) rfl) ?_
              refine t_callv_b Try.call87 rfl (write_calls (n := a.f0 + saTo a) (old := a.f0 + (1 - saTo a)) (ys := snB i t bs) ((((((((hS.pick (A := rowA 5 1 A21 _ c21 _) (by repeat first | exact .here _ _ | assumption | apply Pick.there)).pick (A := blkA g9 3 _) (by repeat first | exact .here _ _ | assumption | apply Pick.there)).pick (A := blkA g5 25 _) (by repeat first | exact .here _ _ | assumption | apply Pick.there)).pick (A := blkA g8 3 _) (by repeat first | exact .here _ _ | assumption | apply Pick.there)).pick (A := blkA g2 60 _) (by repeat first | exact .here _ _ | assumption | apply Pick.there)).pick (A := blkA g 75 _) (by repeat first | exact .here _ _ | assumption | apply Pick.there)).pick (A := dskA gd d) (by repeat first | exact .here _ _ | assumption | apply Pick.there))) (fun w h => h.rowRd (A := A21) (bs := snB i t bs) (.here _ _) hm21) hm21 (by omega) hG hc) rfl ?_
              rintro e w ⟨rfl, hS⟩
              refine ⟨_, rfl, ?_⟩
              replace hS := hS.recast (show _ = dskA gd (saP a d (⟨i, t, bs⟩ : Sn)).2 from rfl)
              replace hS := (hS.pick (A := blkA g 75 _) (by repeat first | exact .here _ _ | assumption | apply Pick.there)).recast (show _ = blkA g 75 [.pointer (some ⟨gd, 0, none⟩), .int .i64 a.f0, .int .i64 (a.f0 + 1), .int .i64 a.cn, .int .u64 (a.s.i : Int), .int .u64 (a.s.t : Int), .slice As a.s.b.length cs, .bool (!(saP a d (⟨i, t, bs⟩ : Sn)).1)] from rfl)
              refine t_q (q_not rfl) ?_
              refine t_nil ?_
              refine c_cond rfl ?_ ?_
              · intro hc26
                have hP : (saP a d (⟨i, t, bs⟩ : Sn)).1 = false := not_back hc26
                refine c_seq ?_
                refine c_region ?_
                refine t_q (q_assign) ?_
                refine t_nil ?_
                refine c_ret ?_
                refine r_one rfl rfl ?_
                first
                  | (obtain ⟨e1, e2, e3⟩ := sa_1 (d := d) (s := (⟨i, t, bs⟩ : Sn)) hbr
                     rw [e1, e2, e3]
                     exact ⟨rfl, (St.unar a (((((((hS.pick (A := blkA g2 60 _) (by repeat first | exact .here _ _ | assumption | apply Pick.there)).pick (A := blkA g3 45 _) (by repeat first | exact .here _ _ | assumption | apply Pick.there)).drop.drop).pick (A := dskA gd d) (by repeat first | exact .here _ _ | assumption | apply Pick.there)).pick (A := rowA 5 1 As a.s.b.length cs (a.s.b.map bv)) (by repeat first | exact .here _ _ | assumption | apply Pick.there)).pick (A := blkA g 75 _) (by repeat first | exact .here _ _ | assumption | apply Pick.there))))⟩)
                  | (obtain ⟨e1, e2, e3⟩ := sa_2 (d := d) (s := (⟨i, t, bs⟩ : Sn)) hbr (by show snE i t bs ≠ 0; omega)
                     rw [e1, e2, e3]
                     have hx := (St.unar { a with br := false } (((((((((hS.pick (A := blkA g5 25 _) (by repeat first | exact .here _ _ | assumption | apply Pick.there)).pick (A := rowA 5 1 A21 _ c21 _) (by repeat first | exact .here _ _ | assumption | apply Pick.there)).pick (A := blkA g2 60 _) (by repeat first | exact .here _ _ | assumption | apply Pick.there)).pick (A := blkA g3 45 _) (by repeat first | exact .here _ _ | assumption | apply Pick.there)).drop.drop.drop.drop).pick (A := dskA gd d) (by repeat first | exact .here _ _ | assumption | apply Pick.there)).pick (A := rowA 5 1 As a.s.b.length cs (a.s.b.map bv)) (by repeat first | exact .here _ _ | assumption | apply Pick.there)).pick (A := blkA g 75 _) (by repeat first | exact .here _ _ | assumption | apply Pick.there))))
                     rw [ar_eq hbr] at hx
                     exact ⟨rfl, hx⟩)
                  | (obtain ⟨e1, e2, e3⟩ := sa_3 (d := d) (s := (⟨i, t, bs⟩ : Sn)) hbr hE0 hold
                     rw [e1, e2, e3]
                     have hx := (St.unar { a with br := false } (((((((((hS.pick (A := blkA g5 25 _) (by repeat first | exact .here _ _ | assumption | apply Pick.there)).pick (A := rowA 5 1 A21 _ c21 _) (by repeat first | exact .here _ _ | assumption | apply Pick.there)).pick (A := blkA g2 60 _) (by repeat first | exact .here _ _ | assumption | apply Pick.there)).pick (A := blkA g3 45 _) (by repeat first | exact .here _ _ | assumption | apply Pick.there)).drop.drop.drop.drop).pick (A := dskA gd d) (by repeat first | exact .here _ _ | assumption | apply Pick.there)).pick (A := rowA 5 1 As a.s.b.length cs (a.s.b.map bv)) (by repeat first | exact .here _ _ | assumption | apply Pick.there)).pick (A := blkA g 75 _) (by repeat first | exact .here _ _ | assumption | apply Pick.there))))
                     rw [ar_eq hbr] at hx
                     exact ⟨rfl, hx⟩)
                  | (obtain ⟨e1, e2, e3⟩ := sa_4 (d := d) (s := (⟨i, t, bs⟩ : Sn)) hbr hE0 hold hP
                     rw [e1, e2, e3]
                     rw [hP] at hS
                     exact ⟨rfl, (St.unar { a with br := true } (((((((((((hS.pick (A := blkA g9 3 _) (by repeat first | exact .here _ _ | assumption | apply Pick.there)).pick (A := blkA g8 3 _) (by repeat first | exact .here _ _ | assumption | apply Pick.there)).pick (A := blkA g5 25 _) (by repeat first | exact .here _ _ | assumption | apply Pick.there)).pick (A := rowA 5 1 A21 _ c21 _) (by repeat first | exact .here _ _ | assumption | apply Pick.there)).pick (A := blkA g2 60 _) (by repeat first | exact .here _ _ | assumption | apply Pick.there)).pick (A := blkA g3 45 _) (by repeat first | exact .here _ _ | assumption | apply Pick.there)).drop.drop.drop.drop.drop.drop).pick (A := dskA gd (saP a d (⟨i, t, bs⟩ : Sn)).2) (by repeat first | exact .here _ _ | assumption | apply Pick.there)).pick (A := rowA 5 1 As a.s.b.length cs (a.s.b.map bv)) (by repeat first | exact .here _ _ | assumption | apply Pick.there)).pick (A := blkA g 75 _) (by repeat first | exact .here _ _ | assumption | apply Pick.there))))⟩)
                  | (obtain ⟨e1, e2, e3⟩ := sa_5 (d := d) (s := (⟨i, t, bs⟩ : Sn)) hbr hE0 hold hP
                     rw [e1, e2, e3]
                     rw [hP] at hS
                     exact ⟨rfl, (St.unar ⟨a.f0, saTo a, (⟨i, t, bs⟩ : Sn), false⟩ ((((((((((((hS.pick (A := rowA 5 1 As a.s.b.length cs (a.s.b.map bv)) (by repeat first | exact .here _ _ | assumption | apply Pick.there)).pick (A := blkA g9 3 _) (by repeat first | exact .here _ _ | assumption | apply Pick.there)).pick (A := blkA g8 3 _) (by repeat first | exact .here _ _ | assumption | apply Pick.there)).pick (A := blkA g5 25 _) (by repeat first | exact .here _ _ | assumption | apply Pick.there)).pick (A := rowA 5 1 A21 _ c21 _) (by repeat first | exact .here _ _ | assumption | apply Pick.there)).pick (A := blkA g2 60 _) (by repeat first | exact .here _ _ | assumption | apply Pick.there)).pick (A := blkA g3 45 _) (by repeat first | exact .here _ _ | assumption | apply Pick.there)).drop.drop.drop.drop.drop.drop.drop).pick (A := dskA gd (saP a d (⟨i, t, bs⟩ : Sn)).2) (by repeat first | exact .here _ _ | assumption | apply Pick.there)).pick (A := rowA 5 1 A68 _ c68 _) (by repeat first | exact .here _ _ | assumption | apply Pick.there)).pick (A := blkA g 75 _) (by repeat first | exact .here _ _ | assumption | apply Pick.there))))⟩)
              · intro hc26
                have hP : (saP a d (⟨i, t, bs⟩ : Sn)).1 = true := not_back hc26
                refine c_skip ?_
                refine c_seq ?_
                refine c_region ?_
                refine t_q (q_fieldAddr 2 Try.runUnderlying45 rfl Try.sizeOf25 (by decide) rfl rfl) ?_
                refine t_q (q_load1 Try.isAgg25 rfl (hS.cell (by repeat first | exact .here _ _ | assumption | apply Pick.there) rfl)) ?_
                refine t_call Try.call88 (clone_calls (show RdB w B bs from hrd _ ((((((((((hS.pick (A := dskA gd (saP a d (⟨i, t, bs⟩ : Sn)).2) (by repeat first | exact .here _ _ | assumption | apply Pick.there)).pick (A := blkA g9 3 _) (by repeat first | exact .here _ _ | assumption | apply Pick.there)).pick (A := blkA g8 3 _) (by repeat first | exact .here _ _ | assumption | apply Pick.there)).pick (A := blkA g5 25 _) (by repeat first | exact .here _ _ | assumption | apply Pick.there)).pick (A := rowA 5 1 A21 _ c21 _) (by repeat first | exact .here _ _ | assumption | apply Pick.there)).pick (A := rowA 5 1 As a.s.b.length cs (a.s.b.map bv)) (by repeat first | exact .here _ _ | assumption | apply Pick.there)).pick (A := blkA g 75 _) (by repeat first | exact .here _ _ | assumption | apply Pick.there)).pick (A := blkA g2 60 _) (by repeat first | exact .here _ _ | assumption | apply Pick.there)).pick (A := blkA g3 45 _) (by repeat first | exact .here _ _ | assumption | apply Pick.there)).drop.drop.drop.drop.drop.drop.drop.drop.drop)) (by omega)) rfl ?_
                rintro e w ⟨A68, c68, rfl, hT⟩
                refine ⟨_, rfl, ?_⟩
                have hS : St W w (_ :: _) := hS.lift hT
                refine t_q (q_fieldAddr 2 Try.runUnderlying45 rfl Try.sizeOf25 (by decide) rfl rfl) ?_
                refine t_store (v := (.slice _ _ _)) Try.sizeOf25 hS (by repeat first | exact .here _ _ | assumption | apply Pick.there) rfl rfl rfl rfl rfl rfl (fun w hS => ?_)
                replace hS := hS.recast (show blkA g3 45 _ = blkA g3 45 [.int .u64 (i : Int), .int .u64 (t : Int), .slice A68 bs.length c68] from rfl)
                refine t_nil ?_
                refine c_seq ?_
                refine c_draw ?_
                refine d_keep2 (blkA g2 60 [.pointer (some ⟨g, 0, none⟩)]) (blkA g3 45 [.int .u64 (i : Int), .int .u64 (t : Int), .slice A68 bs.length c68]) 10 [0, 1, 2, 3, 4, 5, 6, 7, 8, 9] [0, 2, 4, 5, 6, 1, 3, 7, 8, 9] hS rfl (by kernel_rfl) (by kernel_rfl) (by kernel_rfl) (by kernel_rfl) (fun hap hsel w hS => ?_)
                refine p_q hap hsel 0 rfl rfl ⟨_, ((hS.pick (A := blkA g3 45 [.int .u64 (i : Int), .int .u64 (t : Int), .slice A68 bs.length c68]) (by repeat first | exact .here _ _ | assumption | apply Pick.there)).pick (A := blkA g2 60 [.pointer (some ⟨g, 0, none⟩)]) (by repeat first | exact .here _ _ | assumption | apply Pick.there))⟩ (fun w hI => q_load1 Try.isAgg60 rfl (hI.choose_spec.cell (by repeat first | exact .here _ _ | assumption | apply Pick.there) rfl)) ?_
                refine p_q hap hsel 1 rfl rfl ⟨_, ((hS.pick (A := blkA g3 45 [.int .u64 (i : Int), .int .u64 (t : Int), .slice A68 bs.length c68]) (by repeat first | exact .here _ _ | assumption | apply Pick.there)).pick (A := blkA g2 60 [.pointer (some ⟨g, 0, none⟩)]) (by repeat first | exact .here _ _ | assumption | apply Pick.there))⟩ (fun w hI => q_load1 Try.isAgg60 rfl (hI.choose_spec.cell (by repeat first | exact .here _ _ | assumption | apply Pick.there) rfl)) ?_
                refine p_q hap hsel 2 rfl rfl ⟨_, ((hS.pick (A := blkA g3 45 [.int .u64 (i : Int), .int .u64 (t : Int), .slice A68 bs.length c68]) (by repeat first | exact .here _ _ | assumption | apply Pick.there)).pick (A := blkA g2 60 [.pointer (some ⟨g, 0, none⟩)]) (by repeat first | exact .here _ _ | assumption | apply Pick.there))⟩ (fun w hI => q_mv (.int _ _) rfl) ?_
                refine p_q hap hsel 3 rfl rfl ⟨_, ((hS.pick (A := blkA g3 45 [.int .u64 (i : Int), .int .u64 (t : Int), .slice A68 bs.length c68]) (by repeat first | exact .here _ _ | assumption | apply Pick.there)).pick (A := blkA g2 60 [.pointer (some ⟨g, 0, none⟩)]) (by repeat first | exact .here _ _ | assumption | apply Pick.there))⟩ (fun w hI => q_load_blk Try.isAgg45 Try.sizeOf45 rfl (hI.choose_spec.blk (by repeat first | exact .here _ _ | assumption | apply Pick.there)) rfl) ?_
                refine p_q hap hsel 4 rfl rfl ⟨_, ((hS.pick (A := blkA g3 45 [.int .u64 (i : Int), .int .u64 (t : Int), .slice A68 bs.length c68]) (by repeat first | exact .here _ _ | assumption | apply Pick.there)).pick (A := blkA g2 60 [.pointer (some ⟨g, 0, none⟩)]) (by repeat first | exact .here _ _ | assumption | apply Pick.there))⟩ (fun w hI => q_nilCheck rfl) ?_
                refine p_q hap hsel 5 rfl rfl ⟨_, ((hS.pick (A := blkA g3 45 [.int .u64 (i : Int), .int .u64 (t : Int), .slice A68 bs.length c68]) (by repeat first | exact .here _ _ | assumption | apply Pick.there)).pick (A := blkA g2 60 [.pointer (some ⟨g, 0, none⟩)]) (by repeat first | exact .here _ _ | assumption | apply Pick.there))⟩ (fun w hI => q_fieldAddr 3 Try.runUnderlying75 rfl Try.sizeOf3 (by decide) rfl rfl) ?_
                refine p_one 6 rfl (by kernel_rfl) ?_
                refine t_store (v := (.int _ _)) Try.sizeOf3 hS (by repeat first | exact .here _ _ | assumption | apply Pick.there) rfl rfl rfl rfl rfl rfl (fun w hS => ?_)
                refine t_nil ?_
                refine ⟨.inr ⟨_, ((hS.pick (A := blkA g3 45 [.int .u64 (i : Int), .int .u64 (t : Int), .slice A68 bs.length c68]) (by repeat first | exact .here _ _ | assumption | apply Pick.there)).pick (A := blkA g2 60 [.pointer (some ⟨g, 0, none⟩)]) (by repeat first | exact .here _ _ | assumption | apply Pick.there))⟩, ?_⟩
                refine p_q hap hsel 7 rfl rfl ⟨_, ((hS.pick (A := blkA g3 45 [.int .u64 (i : Int), .int .u64 (t : Int), .slice A68 bs.length c68]) (by repeat first | exact .here _ _ | assumption | apply Pick.there)).pick (A := blkA g2 60 [.pointer (some ⟨g, 0, none⟩)]) (by repeat first | exact .here _ _ | assumption | apply Pick.there))⟩ (fun w hI => q_nilCheck rfl) ?_
                refine p_q hap hsel 8 rfl rfl ⟨_, ((hS.pick (A := blkA g3 45 [.int .u64 (i : Int), .int .u64 (t : Int), .slice A68 bs.length c68]) (by repeat first | exact .here _ _ | assumption | apply Pick.there)).pick (A := blkA g2 60 [.pointer (some ⟨g, 0, none⟩)]) (by repeat first | exact .here _ _ | assumption | apply Pick.there))⟩ (fun w hI => q_fieldAddr 4 Try.runUnderlying75 rfl Try.sizeOf45 (by decide) rfl rfl) ?_
                refine p_one 9 rfl (by kernel_rfl) ?_
                refine t_store (v := (.agg _)) Try.sizeOf45 hS (by repeat first | exact .here _ _ | assumption | apply Pick.there) rfl rfl rfl rfl rfl rfl (fun w hS => ?_)
                replace hS := hS.recast (show blkA g 75 _ = blkA g 75 [.pointer (some ⟨gd, 0, none⟩), .int .i64 a.f0, .int .i64 (a.f0 + 1), .int .i64 (saTo a), .int .u64 (i : Int), .int .u64 (t : Int), .slice A68 bs.length c68, .bool (!(saP a d (⟨i, t, bs⟩ : Sn)).1)] from by rw [hto]; rfl)
                refine t_nil ?_
                refine ⟨.inl (by kernel_rfl), ?_⟩
                refine p_end (by kernel_rfl) ?_
                refine c_seq ?_
                refine c_region ?_
                refine t_q (q_assign) ?_
                refine t_nil ?_
                refine c_ret ?_
                refine r_one rfl rfl ?_
                first
                  | (obtain ⟨e1, e2, e3⟩ := sa_1 (d := d) (s := (⟨i, t, bs⟩ : Sn)) hbr
                     rw [e1, e2, e3]
                     exact ⟨rfl, (St.unar a (((((((hS.pick (A := blkA g2 60 _) (by repeat first | exact .here _ _ | assumption | apply Pick.there)).pick (A := blkA g3 45 _) (by repeat first | exact .here _ _ | assumption | apply Pick.there)).drop.drop).pick (A := dskA gd d) (by repeat first | exact .here _ _ | assumption | apply Pick.there)).pick (A := rowA 5 1 As a.s.b.length cs (a.s.b.map bv)) (by repeat first | exact .here _ _ | assumption | apply Pick.there)).pick (A := blkA g 75 _) (by repeat first | exact .here _ _ | assumption | apply Pick.there))))⟩)
                  | (obtain ⟨e1, e2, e3⟩ := sa_2 (d := d) (s := (⟨i, t, bs⟩ : Sn)) hbr (by show snE i t bs ≠ 0; omega)
                     rw [e1, e2, e3]
                     have hx := (St.unar { a with br := false } (((((((((hS.pick (A := blkA g5 25 _) (by repeat first | exact .here _ _ | assumption | apply Pick.there)).pick (A := rowA 5 1 A21 _ c21 _) (by repeat first | exact .here _ _ | assumption | apply Pick.there)).pick (A := blkA g2 60 _) (by repeat first | exact .here _ _ | assumption | apply Pick.there)).pick (A := blkA g3 45 _) (by repeat first | exact .here _ _ | assumption | apply Pick.there)).drop.drop.drop.drop).pick (A := dskA gd d) (by repeat first | exact .here _ _ | assumption | apply Pick.there)).pick (A := rowA 5 1 As a.s.b.length cs (a.s.b.map bv)) (by repeat first | exact .here _ _ | assumption | apply Pick.there)).pick (A := blkA g 75 _) (by repeat first | exact .here _ _ | assumption | apply Pick.there))))
                     rw [ar_eq hbr] at hx
                     exact ⟨rfl, hx⟩)
                  | (obtain ⟨e1, e2, e3⟩ := sa_3 (d := d) (s := (⟨i, t, bs⟩ : Sn)) hbr hE0 hold
                     rw [e1, e2, e3]
                     have hx := (St.unar { a with br := false } (((((((((hS.pick (A := blkA g5 25 _) (by repeat first | exact .here _ _ | assumption | apply Pick.there)).pick (A := rowA 5 1 A21 _ c21 _) (by repeat first | exact .here _ _ | assumption | apply Pick.there)).pick (A := blkA g2 60 _) (by repeat first | exact .here _ _ | assumption | apply Pick.there)).pick (A := blkA g3 45 _) (by repeat first | exact .here _ _ | assumption | apply Pick.there)).drop.drop.drop.drop).pick (A := dskA gd d) (by repeat first | exact .here _ _ | assumption | apply Pick.there)).pick (A := rowA 5 1 As a.s.b.length cs (a.s.b.map bv)) (by repeat first | exact .here _ _ | assumption | apply Pick.there)).pick (A := blkA g 75 _) (by repeat first | exact .here _ _ | assumption | apply Pick.there))))
                     rw [ar_eq hbr] at hx
                     exact ⟨rfl, hx⟩)
                  | (obtain ⟨e1, e2, e3⟩ := sa_4 (d := d) (s := (⟨i, t, bs⟩ : Sn)) hbr hE0 hold hP
                     rw [e1, e2, e3]
                     rw [hP] at hS
                     exact ⟨rfl, (St.unar { a with br := true } (((((((((((hS.pick (A := blkA g9 3 _) (by repeat first | exact .here _ _ | assumption | apply Pick.there)).pick (A := blkA g8 3 _) (by repeat first | exact .here _ _ | assumption | apply Pick.there)).pick (A := blkA g5 25 _) (by repeat first | exact .here _ _ | assumption | apply Pick.there)).pick (A := rowA 5 1 A21 _ c21 _) (by repeat first | exact .here _ _ | assumption | apply Pick.there)).pick (A := blkA g2 60 _) (by repeat first | exact .here _ _ | assumption | apply Pick.there)).pick (A := blkA g3 45 _) (by repeat first | exact .here _ _ | assumption | apply Pick.there)).drop.drop.drop.drop.drop.drop).pick (A := dskA gd (saP a d (⟨i, t, bs⟩ : Sn)).2) (by repeat first | exact .here _ _ | assumption | apply Pick.there)).pick (A := rowA 5 1 As a.s.b.length cs (a.s.b.map bv)) (by repeat first | exact .here _ _ | assumption | apply Pick.there)).pick (A := blkA g 75 _) (by repeat first | exact .here _ _ | assumption | apply Pick.there))))⟩)
                  | (obtain ⟨e1, e2, e3⟩ := sa_5 (d := d) (s := (⟨i, t, bs⟩ : Sn)) hbr hE0 hold hP
                     rw [e1, e2, e3]
                     rw [hP] at hS
                     exact ⟨rfl, (St.unar ⟨a.f0, saTo a, (⟨i, t, bs⟩ : Sn), false⟩ ((((((((((((hS.pick (A := rowA 5 1 As a.s.b.length cs (a.s.b.map bv)) (by repeat first | exact .here _ _ | assumption | apply Pick.there)).pick (A := blkA g9 3 _) (by repeat first | exact .here _ _ | assumption | apply Pick.there)).pick (A := blkA g8 3 _) (by repeat first | exact .here _ _ | assumption | apply Pick.there)).pick (A := blkA g5 25 _) (by repeat first | exact .here _ _ | assumption | apply Pick.there)).pick (A := rowA 5 1 A21 _ c21 _) (by repeat first | exact .here _ _ | assumption | apply Pick.there)).pick (A := blkA g2 60 _) (by repeat first | exact .here _ _ | assumption | apply Pick.there)).pick (A := blkA g3 45 _) (by repeat first | exact .here _ _ | assumption | apply Pick.there)).drop.drop.drop.drop.drop.drop.drop).pick (A := dskA gd (saP a d (⟨i, t, bs⟩ : Sn)).2) (by repeat first | exact .here _ _ | assumption | apply Pick.there)).pick (A := rowA 5 1 A68 _ c68 _) (by repeat first | exact .here _ _ | assumption | apply Pick.there)).pick (A := blkA g 75 _) (by repeat first | exact .here _ _ | assumption | apply Pick.there))))⟩)
            ·
              refine t_alloc Try.zeroValue3 rfl hS (fun g9 w hS => ?_)
              refine t_nil ?_
              refine ⟨.inr ⟨_, ((hS.pick (A := blkA g 75 [.pointer (some ⟨gd, 0, none⟩), .int .i64 a.f0, .int .i64 (a.f0 + 1), .int .i64 a.cn, .int .u64 (a.s.i : Int), .int .u64 (a.s.t : Int), .slice As a.s.b.length cs, .bool false]) (by repeat first | exact .here _ _ | assumption | apply Pick.there)).pick (A := blkA g2 60 [.pointer (some ⟨g, 0, none⟩)]) (by repeat first | exact .here _ _ | assumption | apply Pick.there))⟩, ?_⟩
              refine p_one 13 rfl (by kernel_rfl) ?_
              refine t_alloc Try.zeroValue3 rfl hS (fun g8 w hS => ?_)
              refine t_nil ?_
              refine ⟨.inr ⟨_, ((hS.pick (A := blkA g 75 [.pointer (some ⟨gd, 0, none⟩), .int .i64 a.f0, .int .i64 (a.f0 + 1), .int .i64 a.cn, .int .u64 (a.s.i : Int), .int .u64 (a.s.t : Int), .slice As a.s.b.length cs, .bool false]) (by repeat first | exact .here _ _ | assumption | apply Pick.there)).pick (A := blkA g2 60 [.pointer (some ⟨g, 0, none⟩)]) (by repeat first | exact .here _ _ | assumption | apply Pick.there))⟩, ?_⟩
              refine p_one 15 rfl (by kernel_rfl) ?_
              refine t_store (v := (.int _ _)) Try.sizeOf3 hS (by repeat first | exact .here _ _ | assumption | apply Pick.there) rfl rfl rfl rfl rfl rfl (fun w hS => ?_)
              replace hS := hS.recast (show blkA g8 3 _ = blkA g8 3 [.int .i64 (a.f0 + saTo a)] from congrArg (fun n => blkA g8 3 [Value.int .i64 n]) (by omega))
              refine t_nil ?_
              refine ⟨.inr ⟨_, ((hS.pick (A := blkA g 75 [.pointer (some ⟨gd, 0, none⟩), .int .i64 a.f0, .int .i64 (a.f0 + 1), .int .i64 a.cn, .int .u64 (a.s.i : Int), .int .u64 (a.s.t : Int), .slice As a.s.b.length cs, .bool false]) (by repeat first | exact .here _ _ | assumption | apply Pick.there)).pick (A := blkA g2 60 [.pointer (some ⟨g, 0, none⟩)]) (by repeat first | exact .here _ _ | assumption | apply Pick.there))⟩, ?_⟩
              refine p_one 16 rfl (by kernel_rfl) ?_
              refine t_store (v := (.int _ _)) Try.sizeOf3 hS (by repeat first | exact .here _ _ | assumption | apply Pick.there) rfl rfl rfl rfl rfl rfl (fun w hS => ?_)
              replace hS := hS.recast (show blkA g9 3 _ = blkA g9 3 [.int .i64 (a.f0 + (1 - saTo a))] from congrArg (fun n => blkA g9 3 [Value.int .i64 n]) (by omega))
              refine t_nil ?_
              refine ⟨.inl (by kernel_rfl), ?_⟩
              refine p_end (by kernel_rfl) ?_
              refine c_seq ?_
              refine c_region ?_
              refine t_q (q_makeFunc rfl) ?_
              refine t_q (q_as (.func _ _ _) rfl) ?_
              refine t_nil ?_
              refine c_seq ?_
              refine c_seq ?_
              refine c_region ?_
              refine t_q (q_mv (.func _ _ _) rfl) ?_
              refine t_callv_b Try.call87 rfl (write_calls (n := a.f0 + saTo a) (old := a.f0 + (1 - saTo a)) (ys := snB i t bs) ((((((((hS.pick (A := rowA 5 1 A21 _ c21 _) (by repeat first | exact .here _ _ | assumption | apply Pick.there)).pick (A := blkA g9 3 _) (by repeat first | exact .here _ _ | assumption | apply Pick.there)).pick (A := blkA g5 25 _) (by repeat first | exact .here _ _ | assumption | apply Pick.there)).pick (A := blkA g8 3 _) (by repeat first | exact .here _ _ | assumption | apply Pick.there)).pick (A := blkA g2 60 _) (by repeat first | exact .here _ _ | assumption | apply Pick.there)).pick (A := blkA g 75 _) (by repeat first | exact .here _ _ | assumption | apply Pick.there)).pick (A := dskA gd d) (by repeat first | exact .here _ _ | assumption | apply Pick.there))) (fun w h => h.rowRd (A := A21) (bs := snB i t bs) (.here _ _) hm21) hm21 (by omega) hG hc) rfl ?_
              rintro e w ⟨rfl, hS⟩
              refine ⟨_, rfl, ?_⟩
              replace hS := hS.recast (show _ = dskA gd (saP a d (⟨i, t, bs⟩ : Sn)).2 from rfl)
              replace hS := (hS.pick (A := blkA g 75 _) (by repeat first | exact .here _ _ | assumption | apply Pick.there)).recast (show _ = blkA g 75 [.pointer (some ⟨gd, 0, none⟩), .int .i64 a.f0, .int .i64 (a.f0 + 1), .int .i64 a.cn, .int .u64 (a.s.i : Int), .int .u64 (a.s.t : Int), .slice As a.s.b.length cs, .bool (!(saP a d (⟨i, t, bs⟩ : Sn)).1)] from rfl)
              refine t_q (q_not rfl) ?_
              refine t_nil ?_
              refine c_cond rfl ?_ ?_
              · intro hc29
                have hP : (saP a d (⟨i, t, bs⟩ : Sn)).1 = false := not_back hc29
                refine c_seq ?_
                refine c_region ?_
                refine t_q (q_assign) ?_
                refine t_nil ?_
                refine c_ret ?_
                refine r_one rfl rfl ?_
                first
                  | (obtain ⟨e1, e2, e3⟩ := sa_1 (d := d) (s := (⟨i, t, bs⟩ : Sn)) hbr
                     rw [e1, e2, e3]
                     exact ⟨rfl, (St.unar a (((((((hS.pick (A := blkA g2 60 _) (by repeat first | exact .here _ _ | assumption | apply Pick.there)).pick (A := blkA g3 45 _) (by repeat first | exact .here _ _ | assumption | apply Pick.there)).drop.drop).pick (A := dskA gd d) (by repeat first | exact .here _ _ | assumption | apply Pick.there)).pick (A := rowA 5 1 As a.s.b.length cs (a.s.b.map bv)) (by repeat first | exact .here _ _ | assumption | apply Pick.there)).pick (A := blkA g 75 _) (by repeat first | exact .here _ _ | assumption | apply Pick.there))))⟩)
                  | (obtain ⟨e1, e2, e3⟩ := sa_2 (d := d) (s := (⟨i, t, bs⟩ : Sn)) hbr (by show snE i t bs ≠ 0; omega)
                     rw [e1, e2, e3]
                     have hx := (St.unar { a with br := false } (((((((((hS.pick (A := blkA g5 25 _) (by repeat first | exact .here _ _ | assumption | apply Pick.there)).pick (A := rowA 5 1 A21 _ c21 _) (by repeat first | exact .here _ _ | assumption | apply Pick.there)).pick (A := blkA g2 60 _) (by repeat first | exact .here _ _ | assumption | apply Pick.there)).pick (A := blkA g3 45 _) (by repeat first | exact .here _ _ | assumption | apply Pick.there)).drop.drop.drop.drop).pick (A := dskA gd d) (by repeat first | exact .here _ _ | assumption | apply Pick.there)).pick (A := rowA 5 1 As a.s.b.length cs (a.s.b.map bv)) (by repeat first | exact .here _ _ | assumption | apply Pick.there)).pick (A := blkA g 75 _) (by repeat first | exact .here _ _ | assumption | apply Pick.there))))
                     rw [ar_eq hbr] at hx
                     exact ⟨rfl, hx⟩)
                  | (obtain ⟨e1, e2, e3⟩ := sa_3 (d := d) (s := (⟨i, t, bs⟩ : Sn)) hbr hE0 hold
                     rw [e1, e2, e3]
                     have hx := (St.unar { a with br := false } (((((((((hS.pick (A := blkA g5 25 _) (by repeat first | exact .here _ _ | assumption | apply Pick.there)).pick (A := rowA 5 1 A21 _ c21 _) (by repeat first | exact .here _ _ | assumption | apply Pick.there)).pick (A := blkA g2 60 _) (by repeat first | exact .here _ _ | assumption | apply Pick.there)).pick (A := blkA g3 45 _) (by repeat first | exact .here _ _ | assumption | apply Pick.there)).drop.drop.drop.drop).pick (A := dskA gd d) (by repeat first | exact .here _ _ | assumption | apply Pick.there)).pick (A := rowA 5 1 As a.s.b.length cs (a.s.b.map bv)) (by repeat first | exact .here _ _ | assumption | apply Pick.there)).pick (A := blkA g 75 _) (by repeat first | exact .here _ _ | assumption | apply Pick.there))))
                     rw [ar_eq hbr] at hx
                     exact ⟨rfl, hx⟩)
                  | (obtain ⟨e1, e2, e3⟩ := sa_4 (d := d) (s := (⟨i, t, bs⟩ : Sn)) hbr hE0 hold hP
                     rw [e1, e2, e3]
                     rw [hP] at hS
                     exact ⟨rfl, (St.unar { a with br := true } (((((((((((hS.pick (A := blkA g9 3 _) (by repeat first | exact .here _ _ | assumption | apply Pick.there)).pick (A := blkA g8 3 _) (by repeat first | exact .here _ _ | assumption | apply Pick.there)).pick (A := blkA g5 25 _) (by repeat first | exact .here _ _ | assumption | apply Pick.there)).pick (A := rowA 5 1 A21 _ c21 _) (by repeat first | exact .here _ _ | assumption | apply Pick.there)).pick (A := blkA g2 60 _) (by repeat first | exact .here _ _ | assumption | apply Pick.there)).pick (A := blkA g3 45 _) (by repeat first | exact .here _ _ | assumption | apply Pick.there)).drop.drop.drop.drop.drop.drop).pick (A := dskA gd (saP a d (⟨i, t, bs⟩ : Sn)).2) (by repeat first | exact .here _ _ | assumption | apply Pick.there)).pick (A := rowA 5 1 As a.s.b.length cs (a.s.b.map bv)) (by repeat first | exact .here _ _ | assumption | apply Pick.there)).pick (A := blkA g 75 _) (by repeat first | exact .here _ _ | assumption | apply Pick.there))))⟩)
                  | (obtain ⟨e1, e2, e3⟩ := sa_5 (d := d) (s := (⟨i, t, bs⟩ : Sn)) hbr hE0 hold hP
                     rw [e1, e2, e3]
                     rw [hP] at hS
                     exact ⟨rfl, (St.unar ⟨a.f0, saTo a, (⟨i, t, bs⟩ : Sn), false⟩ ((((((((((((hS.pick (A := rowA 5 1 As a.s.b.length cs (a.s.b.map bv)) (by repeat first | exact .here _ _ | assumption | apply Pick.there)).pick (A := blkA g9 3 _) (by repeat first | exact .here _ _ | assumption | apply Pick.there)).pick (A := blkA g8 3 _) (by repeat first | exact .here _ _ | assumption | apply Pick.there)).pick (A := blkA g5 25 _) (by repeat first | exact .here _ _ | assumption | apply Pick.there)).pick (A := rowA 5 1 A21 _ c21 _) (by repeat first | exact .here _ _ | assumption | apply Pick.there)).pick (A := blkA g2 60 _) (by repeat first | exact .here _ _ | assumption | apply Pick.there)).pick (A := blkA g3 45 _) (by repeat first | exact .here _ _ | assumption | apply Pick.there)).drop.drop.drop.drop.drop.drop.drop).pick (A := dskA gd (saP a d (⟨i, t, bs⟩ : Sn)).2) (by repeat first | exact .here _ _ | assumption | apply Pick.there)).pick (A := rowA 5 1 A68 _ c68 _) (by repeat first | exact .here _ _ | assumption | apply Pick.there)).pick (A := blkA g 75 _) (by repeat first | exact .here _ _ | assumption | apply Pick.there))))⟩)
              · intro hc29
                have hP : (saP a d (⟨i, t, bs⟩ : Sn)).1 = true := not_back hc29
                refine c_skip ?_
                refine c_seq ?_
                refine c_region ?_
                refine t_q (q_fieldAddr 2 Try.runUnderlying45 rfl Try.sizeOf25 (by decide) rfl rfl) ?_
                refine t_q (q_load1 Try.isAgg25 rfl (hS.cell (by repeat first | exact .here _ _ | assumption | apply Pick.there) rfl)) ?_
                refine t_call Try.call88 (clone_calls (show RdB w B bs from hrd _ ((((((((((hS.pick (A := dskA gd (saP a d (⟨i, t, bs⟩ : Sn)).2) (by repeat first | exact .here _ _ | assumption | apply Pick.there)).pick (A := blkA g9 3 _) (by repeat first | exact .here _ _ | assumption | apply Pick.there)).pick (A := blkA g8 3 _) (by repeat first | exact .here _ _ | assumption | apply Pick.there)).pick (A := blkA g5 25 _) (by repeat first | exact .here _ _ | assumption | apply Pick.there)).pick (A := rowA 5 1 A21 _ c21 _) (by repeat first | exact .here _ _ | assumption | apply Pick.there)).pick (A := rowA 5 1 As a.s.b.length cs (a.s.b.map bv)) (by repeat first | exact .here _ _ | assumption | apply Pick.there)).pick (A := blkA g 75 _) (by repeat first | exact .here _ _ | assumption | apply Pick.there)).pick (A := blkA g2 60 _) (by repeat first | exact .here _ _ | assumption | apply Pick.there)).pick (A := blkA g3 45 _) (by repeat first | exact .here _ _ | assumption | apply Pick.there)).drop.drop.drop.drop.drop.drop.drop.drop.drop)) (by omega)) rfl ?_
                rintro e w ⟨A68, c68, rfl, hT⟩
                refine ⟨_, rfl, ?_⟩
                have hS : St W w (_ :: _) := hS.lift hT
                refine t_q (q_fieldAddr 2 Try.runUnderlying45 rfl Try.sizeOf25 (by decide) rfl rfl) ?_
                refine t_store (v := (.slice _ _ _)) Try.sizeOf25 hS (by repeat first | exact .here _ _ | assumption | apply Pick.there) rfl rfl rfl rfl rfl rfl (fun w hS => ?_)
                replace hS := hS.recast (show blkA g3 45 _ = blkA g3 45 [.int .u64 (i : Int), .int .u64 (t : Int), .slice A68 bs.length c68] from rfl)
                refine t_nil ?_
                refine c_seq ?_
                refine c_draw ?_
                refine d_keep2 (blkA g2 60 [.pointer (some ⟨g, 0, none⟩)]) (blkA g3 45 [.int .u64 (i : Int), .int .u64 (t : Int), .slice A68 bs.length c68]) 10 [0, 1, 2, 3, 4, 5, 6, 7, 8, 9] [0, 2, 4, 5, 6, 1, 3, 7, 8, 9] hS rfl (by kernel_rfl) (by kernel_rfl) (by kernel_rfl) (by kernel_rfl) (fun hap hsel w hS => ?_)
                refine p_q hap hsel 0 rfl rfl ⟨_, ((hS.pick (A := blkA g3 45 [.int .u64 (i : Int), .int .u64 (t : Int), .slice A68 bs.length c68]) (by repeat first | exact .here _ _ | assumption | apply Pick.there)).pick (A := blkA g2 60 [.pointer (some ⟨g, 0, none⟩)]) (by repeat first | exact .here _ _ | assumption | apply Pick.there))⟩ (fun w hI => q_load1 Try.isAgg60 rfl (hI.choose_spec.cell (by repeat first | exact .here _ _ | assumption | apply Pick.there) rfl)) ?_
                refine p_q hap hsel 1 rfl rfl ⟨_, ((hS.pick (A := blkA g3 45 [.int .u64 (i : Int), .int .u64 (t : Int), .slice A68 bs.length c68]) (by repeat first | exact .here _ _ | assumption | apply Pick.there)).pick (A := blkA g2 60 [.pointer (some ⟨g, 0, none⟩)]) (by repeat first | exact .here _ _ | assumption | apply Pick.there))⟩ (fun w hI => q_load1 Try.isAgg60 rfl (hI.choose_spec.cell (by repeat first | exact .here _ _ | assumption | apply Pick.there) rfl)) ?_
                refine p_q hap hsel 2 rfl rfl ⟨_, ((hS.pick (A := blkA g3 45 [.int .u64 (i : Int), .int .u64 (t : Int), .slice A68 bs.length c68]) (by repeat first | exact .here _ _ | assumption | apply Pick.there)).pick (A := blkA g2 60 [.pointer (some ⟨g, 0, none⟩)]) (by repeat first | exact .here _ _ | assumption | apply Pick.there))⟩ (fun w hI => q_mv (.int _ _) rfl) ?_
                refine p_q hap hsel 3 rfl rfl ⟨_, ((hS.pick (A := blkA g3 45 [.int .u64 (i : Int), .int .u64 (t : Int), .slice A68 bs.length c68]) (by repeat first | exact .here _ _ | assumption | apply Pick.there)).pick (A := blkA g2 60 [.pointer (some ⟨g, 0, none⟩)]) (by repeat first | exact .here _ _ | assumption | apply Pick.there))⟩ (fun w hI => q_load_blk Try.isAgg45 Try.sizeOf45 rfl (hI.choose_spec.blk (by repeat first | exact .here _ _ | assumption | apply Pick.there)) rfl) ?_
                refine p_q hap hsel 4 rfl rfl ⟨_, ((hS.pick (A := blkA g3 45 [.int .u64 (i : Int), .int .u64 (t : Int), .slice A68 bs.length c68]) (by repeat first | exact .here _ _ | assumption | apply Pick.there)).pick (A := blkA g2 60 [.pointer (some ⟨g, 0, none⟩)]) (by repeat first | exact .here _ _ | assumption | apply Pick.there))⟩ (fun w hI => q_nilCheck rfl) ?_
                refine p_q hap hsel 5 rfl rfl ⟨_, ((hS.pick (A := blkA g3 45 [.int .u64 (i : Int), .int .u64 (t : Int), .slice A68 bs.length c68]) (by repeat first | exact .here _ _ | assumption | apply Pick.there)).pick (A := blkA g2 60 [.pointer (some ⟨g, 0, none⟩)]) (by repeat first | exact .here _ _ | assumption | apply Pick.there))⟩ (fun w hI => q_fieldAddr 3 Try.runUnderlying75 rfl Try.sizeOf3 (by decide) rfl rfl) ?_
                refine p_one 6 rfl (by kernel_rfl) ?_
                refine t_store (v := (.int _ _)) Try.sizeOf3 hS (by repeat first | exact .here _ _ | assumption | apply Pick.there) rfl rfl rfl rfl rfl rfl (fun w hS => ?_)
                refine t_nil ?_
                refine ⟨.inr ⟨_, ((hS.pick (A := blkA g3 45 [.int .u64 (i : Int), .int .u64 (t : Int), .slice A68 bs.length c68]) (by repeat first | exact .here _ _ | assumption | apply Pick.there)).pick (A := blkA g2 60 [.pointer (some ⟨g, 0, none⟩)]) (by repeat first | exact .here _ _ | assumption | apply Pick.there))⟩, ?_⟩
                refine p_q hap hsel 7 rfl rfl ⟨_, ((hS.pick (A := blkA g3 45 [.int .u64 (i : Int), .int .u64 (t : Int), .slice A68 bs.length c68]) (by repeat first | exact .here _ _ | assumption | apply Pick.there)).pick (A := blkA g2 60 [.pointer (some ⟨g, 0, none⟩)]) (by repeat first | exact .here _ _ | assumption | apply Pick.there))⟩ (fun w hI => q_nilCheck rfl) ?_
                refine p_q hap hsel 8 rfl rfl ⟨_, ((hS.pick (A := blkA g3 45 [.int .u64 (i : Int), .int .u64 (t : Int), .slice A68 bs.length c68]) (by repeat first | exact .here _ _ | assumption | apply Pick.there)).pick (A := blkA g2 60 [.pointer (some ⟨g, 0, none⟩)]) (by repeat first | exact .here _ _ | assumption | apply Pick.there))⟩ (fun w hI => q_fieldAddr 4 Try.runUnderlying75 rfl Try.sizeOf45 (by decide) rfl rfl) ?_
                refine p_one 9 rfl (by kernel_rfl) ?_
                refine t_store (v := (.agg _)) Try.sizeOf45 hS (by repeat first | exact .here _ _ | assumption | apply Pick.there) rfl rfl rfl rfl rfl rfl (fun w hS => ?_)
                replace hS := hS.recast (show blkA g 75 _ = blkA g 75 [.pointer (some ⟨gd, 0, none⟩), .int .i64 a.f0, .int .i64 (a.f0 + 1), .int .i64 (saTo a), .int .u64 (i : Int), .int .u64 (t : Int), .slice A68 bs.length c68, .bool (!(saP a d (⟨i, t, bs⟩ : Sn)).1)] from by rw [hto]; rfl)
                refine t_nil ?_
                refine ⟨.inl (by kernel_rfl), ?_⟩
                refine p_end (by kernel_rfl) ?_
                refine c_seq ?_
                refine c_region ?_
                refine t_q (q_assign) ?_
                refine t_nil ?_
                refine c_ret ?_
                refine r_one rfl rfl ?_
                first
                  | (obtain ⟨e1, e2, e3⟩ := sa_1 (d := d) (s := (⟨i, t, bs⟩ : Sn)) hbr
                     rw [e1, e2, e3]
                     exact ⟨rfl, (St.unar a (((((((hS.pick (A := blkA g2 60 _) (by repeat first | exact .here _ _ | assumption | apply Pick.there)).pick (A := blkA g3 45 _) (by repeat first | exact .here _ _ | assumption | apply Pick.there)).drop.drop).pick (A := dskA gd d) (by repeat first | exact .here _ _ | assumption | apply Pick.there)).pick (A := rowA 5 1 As a.s.b.length cs (a.s.b.map bv)) (by repeat first | exact .here _ _ | assumption | apply Pick.there)).pick (A := blkA g 75 _) (by repeat first | exact .here _ _ | assumption | apply Pick.there))))⟩)
                  | (obtain ⟨e1, e2, e3⟩ := sa_2 (d := d) (s := (⟨i, t, bs⟩ : Sn)) hbr (by show snE i t bs ≠ 0; omega)
                     rw [e1, e2, e3]
                     have hx := (St.unar { a with br := false } (((((((((hS.pick (A := blkA g5 25 _) (by repeat first | exact .here _ _ | assumption | apply Pick.there)).pick (A := rowA 5 1 A21 _ c21 _) (by repeat first | exact .here _ _ | assumption | apply Pick.there)).pick (A := blkA g2 60 _) (by repeat first | exact .here _ _ | assumption | apply Pick.there)).pick (A := blkA g3 45 _) (by repeat first | exact .here _ _ | assumption | apply Pick.there)).drop.drop.drop.drop).pick (A := dskA gd d) (by repeat first | exact .here _ _ | assumption | apply Pick.there)).pick (A := rowA 5 1 As a.s.b.length cs (a.s.b.map bv)) (by repeat first | exact .here _ _ | assumption | apply Pick.there)).pick (A := blkA g 75 _) (by repeat first | exact .here _ _ | assumption | apply Pick.there))))
                     rw [ar_eq hbr] at hx
                     exact ⟨rfl, hx⟩)
                  | (obtain ⟨e1, e2, e3⟩ := sa_3 (d := d) (s := (⟨i, t, bs⟩ : Sn)) hbr hE0 hold
                     rw [e1, e2, e3]
                     have hx := (St.unar { a with br := false } (((((((((hS.pick (A := blkA g5 25 _) (by repeat first | exact .here _ _ | assumption | apply Pick.there)).pick (A := rowA 5 1 A21 _ c21 _) (by repeat first | exact .here _ _ | assumption | apply Pick.there)).pick (A := blkA g2 60 _) (by repeat first | exact .here _ _ | assumption | apply Pick.there)).pick (A := blkA g3 45 _) (by repeat first | exact .here _ _ | assumption | apply Pick.there)).drop.drop.drop.drop).pick (A := dskA gd d) (by repeat first | exact .here _ _ | assumption | apply Pick.there)).pick (A := rowA 5 1 As a.s.b.length cs (a.s.b.map bv)) (by repeat first | exact .here _ _ | assumption | apply Pick.there)).pick (A := blkA g 75 _) (by repeat first | exact .here _ _ | assumption | apply Pick.there))))
                     rw [ar_eq hbr] at hx
                     exact ⟨rfl, hx⟩)
                  | (obtain ⟨e1, e2, e3⟩ := sa_4 (d := d) (s := (⟨i, t, bs⟩ : Sn)) hbr hE0 hold hP
                     rw [e1, e2, e3]
                     rw [hP] at hS
                     exact ⟨rfl, (St.unar { a with br := true } (((((((((((hS.pick (A := blkA g9 3 _) (by repeat first | exact .here _ _ | assumption | apply Pick.there)).pick (A := blkA g8 3 _) (by repeat first | exact .here _ _ | assumption | apply Pick.there)).pick (A := blkA g5 25 _) (by repeat first | exact .here _ _ | assumption | apply Pick.there)).pick (A := rowA 5 1 A21 _ c21 _) (by repeat first | exact .here _ _ | assumption | apply Pick.there)).pick (A := blkA g2 60 _) (by repeat first | exact .here _ _ | assumption | apply Pick.there)).pick (A := blkA g3 45 _) (by repeat first | exact .here _ _ | assumption | apply Pick.there)).drop.drop.drop.drop.drop.drop).pick (A := dskA gd (saP a d (⟨i, t, bs⟩ : Sn)).2) (by repeat first | exact .here _ _ | assumption | apply Pick.there)).pick (A := rowA 5 1 As a.s.b.length cs (a.s.b.map bv)) (by repeat first | exact .here _ _ | assumption | apply Pick.there)).pick (A := blkA g 75 _) (by repeat first | exact .here _ _ | assumption | apply Pick.there))))⟩)
                  | (obtain ⟨e1, e2, e3⟩ := sa_5 (d := d) (s := (⟨i, t, bs⟩ : Sn)) hbr hE0 hold hP
                     rw [e1, e2, e3]
                     rw [hP] at hS
                     exact ⟨rfl, (St.unar ⟨a.f0, saTo a, (⟨i, t, bs⟩ : Sn), false⟩ ((((((((((((hS.pick (A := rowA 5 1 As a.s.b.length cs (a.s.b.map bv)) (by repeat first | exact .here _ _ | assumption | apply Pick.there)).pick (A := blkA g9 3 _) (by repeat first | exact .here _ _ | assumption | apply Pick.there)).pick (A := blkA g8 3 _) (by repeat first | exact .here _ _ | assumption | apply Pick.there)).pick (A := blkA g5 25 _) (by repeat first | exact .here _ _ | assumption | apply Pick.there)).pick (A := rowA 5 1 A21 _ c21 _) (by repeat first | exact .here _ _ | assumption | apply Pick.there)).pick (A := blkA g2 60 _) (by repeat first | exact .here _ _ | assumption | apply Pick.there)).pick (A := blkA g3 45 _) (by repeat first | exact .here _ _ | assumption | apply Pick.there)).drop.drop.drop.drop.drop.drop.drop).pick (A := dskA gd (saP a d (⟨i, t, bs⟩ : Sn)).2) (by repeat first | exact .here _ _ | assumption | apply Pick.there)).pick (A := rowA 5 1 A68 _ c68 _) (by repeat first | exact .here _ _ | assumption | apply Pick.there)).pick (A := blkA g 75 _) (by repeat first | exact .here _ _ | assumption | apply Pick.there))))⟩)
      · intro hg10
        have hg10d := of_decide_eq_false hg10
        refine p_no hap hsel 6 rfl rfl hS rfl rfl (by rw [hg10]; decide) ?_
        refine p_no hap hsel 7 rfl rfl hS rfl rfl (by rw [hg10]; decide) ?_
        refine p_no hap hsel 8 rfl rfl hS rfl rfl (by rw [hg10]; decide) ?_
        refine p_no hap hsel 9 rfl rfl hS rfl rfl (by rw [hg10]; decide) ?_
        refine p_no hap hsel 10 rfl rfl hS rfl rfl (by rw [hg10]; decide) ?_
        refine p_no hap hsel 11 rfl rfl hS rfl rfl (by rw [hg10]; decide) ?_
        refine p_no hap hsel 12 rfl rfl hS rfl rfl (by rw [hg10]; decide) ?_
        refine p_no hap hsel 13 rfl rfl hS rfl rfl (by rw [hg10]; decide) ?_
        refine p_q hap hsel 14 rfl rfl hS (fun w hS => q_pick_f rfl hg10) ?_
        refine p_q hap hsel 15 rfl rfl hS (fun w hS => q_as (.bool _) rfl) ?_
        refine p_end (by kernel_rfl) ?_
        refine c_cond_f rfl rfl ?_
        have hold : ¬ (0 ≤ a.cn ∧ i ≤ a.s.i) := by omega
        refine c_skip ?_
        refine c_seq ?_
        refine c_region ?_
        refine t_q (q_assign) ?_
        refine t_nil ?_
        refine c_seq ?_
        refine c_seq ?_
        refine c_region ?_
        refine t_q (q_load1 Try.isAgg60 rfl (hS.cell (by repeat first | exact .here _ _ | assumption | apply Pick.there) rfl)) ?_
        refine t_q (q_nilCheck rfl) ?_
        refine t_q (q_fieldAddr 3 Try.runUnderlying75 rfl Try.sizeOf3 (by decide) rfl rfl) ?_
        refine t_q (q_load1 Try.isAgg3 rfl (hS.cell (by repeat first | exact .here _ _ | assumption | apply Pick.there) rfl)) ?_
        refine t_q (q_eql rfl rfl) ?_
        refine t_nil ?_
        refine c_cond rfl ?_ ?_
        · intro hc32
          have hc32d := of_decide_eq_true hc32
          have hto : saTo a = 1 := by unfold saTo; rw [if_pos (by omega)]
          refine c_region ?_
          refine t_q (q_assign) ?_
          refine t_nil ?_
          refine c_seq ?_
          refine c_draw ?_
          refine d_keep2 (blkA g2 60 [.pointer (some ⟨g, 0, none⟩)]) (blkA g 75 [.pointer (some ⟨gd, 0, none⟩), .int .i64 a.f0, .int .i64 (a.f0 + 1), .int .i64 a.cn, .int .u64 (a.s.i : Int), .int .u64 (a.s.t : Int), .slice As a.s.b.length cs, .bool false]) 17 [0, 1, 2, 3, 4, 5, 6, 7, 8, 9, 10, 11, 12, 13, 14, 15, 16] [0, 1, 2, 3, 4, 5, 13, 14, 15, 6, 7, 8, 9, 10, 11, 12, 16] hS rfl (by kernel_rfl) (by kernel_rfl) (by kernel_rfl) (by kernel_rfl) (fun hap hsel w hS => ?_)
          refine p_q hap hsel 0 rfl rfl ⟨_, ((hS.pick (A := blkA g 75 [.pointer (some ⟨gd, 0, none⟩), .int .i64 a.f0, .int .i64 (a.f0 + 1), .int .i64 a.cn, .int .u64 (a.s.i : Int), .int .u64 (a.s.t : Int), .slice As a.s.b.length cs, .bool false]) (by repeat first | exact .here _ _ | assumption | apply Pick.there)).pick (A := blkA g2 60 [.pointer (some ⟨g, 0, none⟩)]) (by repeat first | exact .here _ _ | assumption | apply Pick.there))⟩ (fun w hI => q_load1 Try.isAgg60 rfl (hI.choose_spec.cell (by repeat first | exact .here _ _ | assumption | apply Pick.there) rfl)) ?_
          refine p_q hap hsel 1 rfl rfl ⟨_, ((hS.pick (A := blkA g 75 [.pointer (some ⟨gd, 0, none⟩), .int .i64 a.f0, .int .i64 (a.f0 + 1), .int .i64 a.cn, .int .u64 (a.s.i : Int), .int .u64 (a.s.t : Int), .slice As a.s.b.length cs, .bool false]) (by repeat first | exact .here _ _ | assumption | apply Pick.there)).pick (A := blkA g2 60 [.pointer (some ⟨g, 0, none⟩)]) (by repeat first | exact .here _ _ | assumption | apply Pick.there))⟩ (fun w hI => q_mv (.int _ _) rfl) ?_
          refine p_q hap hsel 2 rfl rfl ⟨_, ((hS.pick (A := blkA g 75 [.pointer (some ⟨gd, 0, none⟩), .int .i64 a.f0, .int .i64 (a.f0 + 1), .int .i64 a.cn, .int .u64 (a.s.i : Int), .int .u64 (a.s.t : Int), .slice As a.s.b.length cs, .bool false]) (by repeat first | exact .here _ _ | assumption | apply Pick.there)).pick (A := blkA g2 60 [.pointer (some ⟨g, 0, none⟩)]) (by repeat first | exact .here _ _ | assumption | apply Pick.there))⟩ (fun w hI => q_nilCheck rfl) ?_
          refine p_q hap hsel 3 rfl rfl ⟨_, ((hS.pick (A := blkA g 75 [.pointer (some ⟨gd, 0, none⟩), .int .i64 a.f0, .int .i64 (a.f0 + 1), .int .i64 a.cn, .int .u64 (a.s.i : Int), .int .u64 (a.s.t : Int), .slice As a.s.b.length cs, .bool false]) (by repeat first | exact .here _ _ | assumption | apply Pick.there)).pick (A := blkA g2 60 [.pointer (some ⟨g, 0, none⟩)]) (by repeat first | exact .here _ _ | assumption | apply Pick.there))⟩ (fun w hI => q_fieldAddr 1 Try.runUnderlying75 rfl Try.sizeOf73 (by decide) rfl rfl) ?_
          first | refine p_q hap hsel 4 rfl rfl ⟨_, ((hS.pick (A := blkA g 75 [.pointer (some ⟨gd, 0, none⟩), .int .i64 a.f0, .int .i64 (a.f0 + 1), .int .i64 a.cn, .int .u64 (a.s.i : Int), .int .u64 (a.s.t : Int), .slice As a.s.b.length cs, .bool false]) (by repeat first | exact .here _ _ | assumption | apply Pick.there)).pick (A := blkA g2 60 [.pointer (some ⟨g, 0, none⟩)]) (by repeat first | exact .here _ _ | assumption | apply Pick.there))⟩ (fun w hI => q_arr_nat Try.runUnderlying73 Try.sizeOf3 rfl rfl (by omega)) ?_ | refine p_q hap hsel 4 rfl rfl ⟨_, ((hS.pick (A := blkA g 75 [.pointer (some ⟨gd, 0, none⟩), .int .i64 a.f0, .int .i64 (a.f0 + 1), .int .i64 a.cn, .int .u64 (a.s.i : Int), .int .u64 (a.s.t : Int), .slice As a.s.b.length cs, .bool false]) (by repeat first | exact .here _ _ | assumption | apply Pick.there)).pick (A := blkA g2 60 [.pointer (some ⟨g, 0, none⟩)]) (by repeat first | exact .here _ _ | assumption | apply Pick.there))⟩ (fun w hI => q_arr Try.runUnderlying73 Try.sizeOf3 rfl rfl (by omega)) ?_
          refine p_q hap hsel 5 rfl rfl ⟨_, ((hS.pick (A := blkA g 75 [.pointer (some ⟨gd, 0, none⟩), .int .i64 a.f0, .int .i64 (a.f0 + 1), .int .i64 a.cn, .int .u64 (a.s.i : Int), .int .u64 (a.s.t : Int), .slice As a.s.b.length cs, .bool false]) (by repeat first | exact .here _ _ | assumption | apply Pick.there)).pick (A := blkA g2 60 [.pointer (some ⟨g, 0, none⟩)]) (by repeat first | exact .here _ _ | assumption | apply Pick.there))⟩ (fun w hI => q_load1 Try.isAgg3 rfl (hI.choose_spec.cell (by repeat first | exact .here _ _ | assumption | apply Pick.there) rfl)) ?_
          refine p_q hap hsel 6 rfl rfl ⟨_, ((hS.pick (A := blkA g 75 [.pointer (some ⟨gd, 0, none⟩), .int .i64 a.f0, .int .i64 (a.f0 + 1), .int .i64 a.cn, .int .u64 (a.s.i : Int), .int .u64 (a.s.t : Int), .slice As a.s.b.length cs, .bool false]) (by repeat first | exact .here _ _ | assumption | apply Pick.there)).pick (A := blkA g2 60 [.pointer (some ⟨g, 0, none⟩)]) (by repeat first | exact .here _ _ | assumption | apply Pick.there))⟩ (fun w hI => q_load1 Try.isAgg60 rfl (hI.choose_spec.cell (by repeat first | exact .here _ _ | assumption | apply Pick.there) rfl)) ?_
          refine p_q hap hsel 7 rfl rfl ⟨_, ((hS.pick (A := blkA g 75 [.pointer (some ⟨gd, 0, none⟩), .int .i64 a.f0, .int .i64 (a.f0 + 1), .int .i64 a.cn, .int .u64 (a.s.i : Int), .int .u64 (a.s.t : Int), .slice As a.s.b.length cs, .bool false]) (by repeat first | exact .here _ _ | assumption | apply Pick.there)).pick (A := blkA g2 60 [.pointer (some ⟨g, 0, none⟩)]) (by repeat first | exact .here _ _ | assumption | apply Pick.there))⟩ (fun w hI => q_mv (.int _ _) rfl) ?_
          refine p_q hap hsel 8 rfl rfl ⟨_, ((hS.pick (A := blkA g 75 [.pointer (some ⟨gd, 0, none⟩), .int .i64 a.f0, .int .i64 (a.f0 + 1), .int .i64 a.cn, .int .u64 (a.s.i : Int), .int .u64 (a.s.t : Int), .slice As a.s.b.length cs, .bool false]) (by repeat first | exact .here _ _ | assumption | apply Pick.there)).pick (A := blkA g2 60 [.pointer (some ⟨g, 0, none⟩)]) (by repeat first | exact .here _ _ | assumption | apply Pick.there))⟩ (fun w hI => q_sub_i64 rfl rfl (by omega)) ?_
          refine p_q hap hsel 9 rfl rfl ⟨_, ((hS.pick (A := blkA g 75 [.pointer (some ⟨gd, 0, none⟩), .int .i64 a.f0, .int .i64 (a.f0 + 1), .int .i64 a.cn, .int .u64 (a.s.i : Int), .int .u64 (a.s.t : Int), .slice As a.s.b.length cs, .bool false]) (by repeat first | exact .here _ _ | assumption | apply Pick.there)).pick (A := blkA g2 60 [.pointer (some ⟨g, 0, none⟩)]) (by repeat first | exact .here _ _ | assumption | apply Pick.there))⟩ (fun w hI => q_nilCheck rfl) ?_
          refine p_q hap hsel 10 rfl rfl ⟨_, ((hS.pick (A := blkA g 75 [.pointer (some ⟨gd, 0, none⟩), .int .i64 a.f0, .int .i64 (a.f0 + 1), .int .i64 a.cn, .int .u64 (a.s.i : Int), .int .u64 (a.s.t : Int), .slice As a.s.b.length cs, .bool false]) (by repeat first | exact .here _ _ | assumption | apply Pick.there)).pick (A := blkA g2 60 [.pointer (some ⟨g, 0, none⟩)]) (by repeat first | exact .here _ _ | assumption | apply Pick.there))⟩ (fun w hI => q_fieldAddr 1 Try.runUnderlying75 rfl Try.sizeOf73 (by decide) rfl rfl) ?_
          first | refine p_q hap hsel 11 rfl rfl ⟨_, ((hS.pick (A := blkA g 75 [.pointer (some ⟨gd, 0, none⟩), .int .i64 a.f0, .int .i64 (a.f0 + 1), .int .i64 a.cn, .int .u64 (a.s.i : Int), .int .u64 (a.s.t : Int), .slice As a.s.b.length cs, .bool false]) (by repeat first | exact .here _ _ | assumption | apply Pick.there)).pick (A := blkA g2 60 [.pointer (some ⟨g, 0, none⟩)]) (by repeat first | exact .here _ _ | assumption | apply Pick.there))⟩ (fun w hI => q_arr_nat Try.runUnderlying73 Try.sizeOf3 rfl rfl (by omega)) ?_ | refine p_q hap hsel 11 rfl rfl ⟨_, ((hS.pick (A := blkA g 75 [.pointer (some ⟨gd, 0, none⟩), .int .i64 a.f0, .int .i64 (a.f0 + 1), .int .i64 a.cn, .int .u64 (a.s.i : Int), .int .u64 (a.s.t : Int), .slice As a.s.b.length cs, .bool false]) (by repeat first | exact .here _ _ | assumption | apply Pick.there)).pick (A := blkA g2 60 [.pointer (some ⟨g, 0, none⟩)]) (by repeat first | exact .here _ _ | assumption | apply Pick.there))⟩ (fun w hI => q_arr Try.runUnderlying73 Try.sizeOf3 rfl rfl (by omega)) ?_
          refine p_q hap hsel 12 rfl rfl ⟨_, ((hS.pick (A := blkA g 75 [.pointer (some ⟨gd, 0, none⟩), .int .i64 a.f0, .int .i64 (a.f0 + 1), .int .i64 a.cn, .int .u64 (a.s.i : Int), .int .u64 (a.s.t : Int), .slice As a.s.b.length cs, .bool false]) (by repeat first | exact .here _ _ | assumption | apply Pick.there)).pick (A := blkA g2 60 [.pointer (some ⟨g, 0, none⟩)]) (by repeat first | exact .here _ _ | assumption | apply Pick.there))⟩ (fun w hI => q_load1 Try.isAgg3 rfl (hI.choose_spec.cell (by repeat first | exact .here _ _ | assumption | apply Pick.there) rfl)) ?_
          refine p_two 13 14 rfl rfl (by kernel_rfl) ?_ ?_
          ·
            refine t_alloc Try.zeroValue3 rfl hS (fun g8 w hS => ?_)
            refine t_nil ?_
            refine ⟨.inr ⟨_, ((hS.pick (A := blkA g 75 [.pointer (some ⟨gd, 0, none⟩), .int .i64 a.f0, .int .i64 (a.f0 + 1), .int .i64 a.cn, .int .u64 (a.s.i : Int), .int .u64 (a.s.t : Int), .slice As a.s.b.length cs, .bool false]) (by repeat first | exact .here _ _ | assumption | apply Pick.there)).pick (A := blkA g2 60 [.pointer (some ⟨g, 0, none⟩)]) (by repeat first | exact .here _ _ | assumption | apply Pick.there))⟩, ?_⟩
            refine p_one 14 rfl (by kernel_rfl) ?_
            refine t_alloc Try.zeroValue3 rfl hS (fun g9 w hS => ?_)
            refine t_nil ?_
            refine ⟨.inr ⟨_, ((hS.pick (A := blkA g 75 [.pointer (some ⟨gd, 0, none⟩), .int .i64 a.f0, .int .i64 (a.f0 + 1), .int .i64 a.cn, .int .u64 (a.s.i : Int), .int .u64 (a.s.t : Int), .slice As a.s.b.length cs, .bool false]) (by repeat first | exact .here _ _ | assumption | apply Pick.there)).pick (A := blkA g2 60 [.pointer (some ⟨g, 0, none⟩)]) (by repeat first | exact .here _ _ | assumption | apply Pick.there))⟩, ?_⟩
            refine p_one 15 rfl (by kernel_rfl) ?_
            refine t_store (v := (.int _ _)) Try.sizeOf3 hS (by repeat first | exact .here _ _ | assumption | apply Pick.there) rfl rfl rfl rfl rfl rfl (fun w hS => ?_)
            replace hS := hS.recast (show blkA g8 3 _ = blkA g8 3 [.int .i64 (a.f0 + saTo a)] from congrArg (fun n => blkA g8 3 [Value.int .i64 n]) (by omega))
            refine t_nil ?_
            refine ⟨.inr ⟨_, ((hS.pick (A := blkA g 75 [.pointer (some ⟨gd, 0, none⟩), .int .i64 a.f0, .int .i64 (a.f0 + 1), .int .i64 a.cn, .int .u64 (a.s.i : Int), .int .u64 (a.s.t : Int), .slice As a.s.b.length cs, .bool false]) (by repeat first | exact .here _ _ | assumption | apply Pick.there)).pick (A := blkA g2 60 [.pointer (some ⟨g, 0, none⟩)]) (by repeat first | exact .here _ _ | assumption | apply Pick.there))⟩, ?_⟩
            refine p_one 16 rfl (by kernel_rfl) ?_
            refine t_store (v := (.int _ _)) Try.sizeOf3 hS (by repeat first | exact .here _ _ | assumption | apply Pick.there) rfl rfl rfl rfl rfl rfl (fun w hS => ?_)
            replace hS := hS.recast (show blkA g9 3 _ = blkA g9 3 [.int .i64 (a.f0 + (1 - saTo a))] from congrArg (fun n => blkA g9 3 [Value.int .i64 n]) (by omega))
            refine t_nil ?_
            refine ⟨.inl (by kernel_rfl), ?_⟩
            refine p_end (by kernel_rfl) ?_
            refine c_seq ?_
            refine c_region ?_
            refine t_q (q_makeFunc rfl) ?_
            refine t_q (q_as (.func _ _ _) rfl) ?_
            refine t_nil ?_
            refine c_seq ?_
            refine c_seq ?_
            refine c_region ?_
            refine t_q (q_mv (.func _ _ _) rfl) ?_
            refine t_callv_b Try.call87 rfl (write_calls (n := a.f0 + saTo a) (old := a.f0 + (1 - saTo a)) (ys := snB i t bs) ((((((((hS.pick (A := rowA 5 1 A21 _ c21 _) (by repeat first | exact .here _ _ | assumption | apply Pick.there)).pick (A := blkA g9 3 _) (by repeat first | exact .here _ _ | assumption | apply Pick.there)).pick (A := blkA g5 25 _) (by repeat first | exact .here _ _ | assumption | apply Pick.there)).pick (A := blkA g8 3 _) (by repeat first | exact .here _ _ | assumption | apply Pick.there)).pick (A := blkA g2 60 _) (by repeat first | exact .here _ _ | assumption | apply Pick.there)).pick (A := blkA g 75 _) (by repeat first | exact .here _ _ | assumption | apply Pick.there)).pick (A := dskA gd d) (by repeat first | exact .here _ _ | assumption | apply Pick.there))) (fun w h => h.rowRd (A := A21) (bs := snB i t bs) (.here _ _) hm21) hm21 (by omega) hG hc) rfl ?_
            rintro e w ⟨rfl, hS⟩
            refine ⟨_, rfl, ?_⟩
            replace hS := hS.recast (show _ = dskA gd (saP a d (⟨i, t, bs⟩ : Sn)).2 from rfl)
            replace hS := (hS.pick (A := blkA g 75 _) (by repeat first | exact .here _ _ | assumption | apply Pick.there)).recast (show _ = blkA g 75 [.pointer (some ⟨gd, 0, none⟩), .int .i64 a.f0, .int .i64 (a.f0 + 1), .int .i64 a.cn, .int .u64 (a.s.i : Int), .int .u64 (a.s.t : Int), .slice As a.s.b.length cs, .bool (!(saP a d (⟨i, t, bs⟩ : Sn)).1)] from rfl)
            refine t_q (q_not rfl) ?_
            refine t_nil ?_
            refine c_cond rfl ?_ ?_
            · intro hc36
              have hP : (saP a d (⟨i, t, bs⟩ : Sn)).1 = false := not_back hc36
              refine c_seq ?_
              refine c_region ?_
              refine t_q (q_assign) ?_
              refine t_nil ?_
              refine c_ret ?_
              refine r_one rfl rfl ?_
              first
                | (obtain ⟨e1, e2, e3⟩ := sa_1 (d := d) (s := (⟨i, t, bs⟩ : Sn)) hbr
                   rw [e1, e2, e3]
                   exact ⟨rfl, (St.unar a (((((((hS.pick (A := blkA g2 60 _) (by repeat first | exact .here _ _ | assumption | apply Pick.there)).pick (A := blkA g3 45 _) (by repeat first | exact .here _ _ | assumption | apply Pick.there)).drop.drop).pick (A := dskA gd d) (by repeat first | exact .here _ _ | assumption | apply Pick.there)).pick (A := rowA 5 1 As a.s.b.length cs (a.s.b.map bv)) (by repeat first | exact .here _ _ | assumption | apply Pick.there)).pick (A := blkA g 75 _) (by repeat first | exact .here _ _ | assumption | apply Pick.there))))⟩)
                | (obtain ⟨e1, e2, e3⟩ := sa_2 (d := d) (s := (⟨i, t, bs⟩ : Sn)) hbr (by show snE i t bs ≠ 0; omega)
                   rw [e1, e2, e3]
                   have hx := (St.unar { a with br := false } (((((((((hS.pick (A := blkA g5 25 _) (by repeat first | exact .here _ _ | assumption | apply Pick.there)).pick (A := rowA 5 1 A21 _ c21 _) (by repeat first | exact .here _ _ | assumption | apply Pick.there)).pick (A := blkA g2 60 _) (by repeat first | exact .here _ _ | assumption | apply Pick.there)).pick (A := blkA g3 45 _) (by repeat first | exact .here _ _ | assumption | apply Pick.there)).drop.drop.drop.drop).pick (A := dskA gd d) (by repeat first | exact .here _ _ | assumption | apply Pick.there)).pick (A := rowA 5 1 As a.s.b.length cs (a.s.b.map bv)) (by repeat first | exact .here _ _ | assumption | apply Pick.there)).pick (A := blkA g 75 _) (by repeat first | exact .here _ _ | assumption | apply Pick.there))))
                   rw [ar_eq hbr] at hx
                   exact ⟨rfl, hx⟩)
                | (obtain ⟨e1, e2, e3⟩ := sa_3 (d := d) (s := (⟨i, t, bs⟩ : Sn)) hbr hE0 hold
                   rw [e1, e2, e3]
                   have hx := (St.unar { a with br := false } (((((((((hS.pick (A := blkA g5 25 _) (by repeat first | exact .here _ _ | assumption | apply Pick.there)).pick (A := rowA 5 1 A21 _ c21 _) (by repeat first | exact .here _ _ | assumption | apply Pick.there)).pick (A := blkA g2 60 _) (by repeat first | exact .here _ _ | assumption | apply Pick.there)).pick (A := blkA g3 45 _) (by repeat first | exact .here _ _ | assumption | apply Pick.there)).drop.drop.drop.drop).pick (A := dskA gd d) (by repeat first | exact .here _ _ | assumption | apply Pick.there)).pick (A := rowA 5 1 As a.s.b.length cs (a.s.b.map bv)) (by repeat first | exact .here _ _ | assumption | apply Pick.there)).pick (A := blkA g 75 _) (by repeat first | exact .here _ _ | assumption | apply Pick.there))))
                   rw [ar_eq hbr] at hx
                   exact ⟨rfl, hx⟩)
                | (obtain ⟨e1, e2, e3⟩ := sa_4 (d := d) (s := (⟨i, t, bs⟩ : Sn)) hbr hE0 hold hP
                   rw [e1, e2, e3]
                   rw [hP] at hS
                   exact ⟨rfl, (St.unar { a with br := true } (((((((((((hS.pick (A := blkA g9 3 _) (by repeat first | exact .here _ _ | assumption | apply Pick.there)).pick (A := blkA g8 3 _) (by repeat first | exact .here _ _ | assumption | apply Pick.there)).pick (A := blkA g5 25 _) (by repeat first | exact .here _ _ | assumption | apply Pick.there)).pick (A := rowA 5 1 A21 _ c21 _) (by repeat first | exact .here _ _ | assumption | apply Pick.there)).pick (A := blkA g2 60 _) (by repeat first | exact .here _ _ | assumption | apply Pick.there)).pick (A := blkA g3 45 _) (by repeat first | exact .here _ _ | assumption | apply Pick.there)).drop.drop.drop.drop.drop.drop).pick (A := dskA gd (saP a d (⟨i, t, bs⟩ : Sn)).2) (by repeat first | exact .here _ _ | assumption | apply Pick.there)).pick (A := rowA 5 1 As a.s.b.length cs (a.s.b.map bv)) (by repeat first | exact .here _ _ | assumption | apply Pick.there)).pick (A := blkA g 75 _) (by repeat first | exact .here _ _ | assumption | apply Pick.there))))⟩)
                | (obtain ⟨e1, e2, e3⟩ := sa_5 (d := d) (s := (⟨i, t, bs⟩ : Sn)) hbr hE0 hold hP
                   rw [e1, e2, e3]
                   rw [hP] at hS
                   exact ⟨rfl, (St.unar ⟨a.f0, saTo a, (⟨i, t, bs⟩ : Sn), false⟩ ((((((((((((hS.pick (A := rowA 5 1 As a.s.b.length cs (a.s.b.map bv)) (by repeat first | exact .here _ _ | assumption | apply Pick.there)).pick (A := blkA g9 3 _) (by repeat first | exact .here _ _ | assumption | apply Pick.there)).pick (A := blkA g8 3 _) (by repeat first | exact .here _ _ | assumption | apply Pick.there)).pick (A := blkA g5 25 _) (by repeat first | exact .here _ _ | assumption | apply Pick.there)).pick (A := rowA 5 1 A21 _ c21 _) (by repeat first | exact .here _ _ | assumption | apply Pick.there)).pick (A := blkA g2 60 _) (by repeat first | exact .here _ _ | assumption | apply Pick.there)).pick (A := blkA g3 45 _) (by repeat first | exact .here _ _ | assumption | apply Pick.there)).drop.drop.drop.drop.drop.drop.drop).pick (A := dskA gd (saP a d (⟨i, t, bs⟩ : Sn)).2) (by repeat first | exact .here _ _ | assumption | apply Pick.there)).pick (A := rowA 5 1 A68 _ c68 _) (by repeat first | exact .here _ _ | assumption | apply Pick.there)).pick (A := blkA g 75 _) (by repeat first | exact .here _ _ | assumption | apply Pick.there))))⟩)
            · intro hc36
              have hP : (saP a d (⟨i, t, bs⟩ : Sn)).1 = true := not_back hc36
              refine c_skip ?_
              refine c_seq ?_
              refine c_region ?_
              refine t_q (q_fieldAddr 2 Try.runUnderlying45 rfl Try.sizeOf25 (by decide) rfl rfl) ?_
              refine t_q (q_load1 Try.isAgg25 rfl (hS.cell (by repeat first | exact .here _ _ | assumption | apply Pick.there) rfl)) ?_
              refine t_call Try.call88 (clone_calls (show RdB w B bs from hrd _ ((((((((((hS.pick (A := dskA gd (saP a d (⟨i, t, bs⟩ : Sn)).2) (by repeat first | exact .here _ _ | assumption | apply Pick.there)).pick (A := blkA g9 3 _) (by repeat first | exact .here _ _ | assumption | apply Pick.there)).pick (A := blkA g8 3 _) (by repeat first | exact .here _ _ | assumption | apply Pick.there)).pick (A := blkA g5 25 _) (by repeat first | exact .here _ _ | assumption | apply Pick.there)).pick (A := rowA 5 1 A21 _ c21 _) (by repeat first | exact .here _ _ | assumption | apply Pick.there)).pick (A := rowA 5 1 As a.s.b.length cs (a.s.b.map bv)) (by repeat first | exact .here _ _ | assumption | apply Pick.there)).pick (A := blkA g 75 _) (by repeat first | exact .here _ _ | assumption | apply Pick.there)).pick (A := blkA g2 60 _) (by repeat first | exact .here _ _ | assumption | apply Pick.there)).pick (A := blkA g3 45 _) (by repeat first | exact .here _ _ | assumption | apply Pick.there)).drop.drop.drop.drop.drop.drop.drop.drop.drop)) (by omega)) rfl ?_
              rintro e w ⟨A68, c68, rfl, hT⟩
              refine ⟨_, rfl, ?_⟩
              have hS : St W w (_ :: _) := hS.lift hT
              refine t_q (q_fieldAddr 2 Try.runUnderlying45 rfl Try.sizeOf25 (by decide) rfl rfl) ?_
              refine t_store (v := (.slice _ _ _)) Try.sizeOf25 hS (by repeat first | exact .here _ _ | assumption | apply Pick.there) rfl rfl rfl rfl rfl rfl (fun w hS => ?_)
              replace hS := hS.recast (show blkA g3 45 _ = blkA g3 45 [.int .u64 (i : Int), .int .u64 (t : Int), .slice A68 bs.length c68] from rfl)
              refine t_nil ?_
              refine c_seq ?_
              refine c_draw ?_
              refine d_keep2 (blkA g2 60 [.pointer (some ⟨g, 0, none⟩)]) (blkA g3 45 [.int .u64 (i : Int), .int .u64 (t : Int), .slice A68 bs.length c68]) 10 [0, 1, 2, 3, 4, 5, 6, 7, 8, 9] [0, 2, 4, 5, 6, 1, 3, 7, 8, 9] hS rfl (by kernel_rfl) (by kernel_rfl) (by kernel_rfl) (by kernel_rfl) (fun hap hsel w hS => ?_)
              refine p_q hap hsel 0 rfl rfl ⟨_, ((hS.pick (A := blkA g3 45 [.int .u64 (i : Int), .int .u64 (t : Int), .slice A68 bs.length c68]) (by repeat first | exact .here _ _ | assumption | apply Pick.there)).pick (A := blkA g2 60 [.pointer (some ⟨g, 0, none⟩)]) (by repeat first | exact .here _ _ | assumption | apply Pick.there))⟩ (fun w hI => q_load1 Try.isAgg60 rfl (hI.choose_spec.cell (by repeat first | exact .here _ _ | assumption | apply Pick.there) rfl)) ?_
              refine p_q hap hsel 1 rfl rfl ⟨_, ((hS.pick (A := blkA g3 45 [.int .u64 (i : Int), .int .u64 (t : Int), .slice A68 bs.length c68]) (by repeat first | exact .here _ _ | assumption | apply Pick.there)).pick (A := blkA g2 60 [.pointer (some ⟨g, 0, none⟩)]) (by repeat first | exact .here _ _ | assumption | apply Pick.there))⟩ (fun w hI => q_load1 Try.isAgg60 rfl (hI.choose_spec.cell (by repeat first | exact .here _ _ | assumption | apply Pick.there) rfl)) ?_
              refine p_q hap hsel 2 rfl rfl ⟨_, ((hS.pick (A := blkA g3 45 [.int .u64 (i : Int), .int .u64 (t : Int), .slice A68 bs.length c68]) (by repeat first | exact .here _ _ | assumption | apply Pick.there)).pick (A := blkA g2 60 [.pointer (some ⟨g, 0, none⟩)]) (by repeat first | exact .here _ _ | assumption | apply Pick.there))⟩ (fun w hI => q_mv (.int _ _) rfl) ?_
              refine p_q hap hsel 3 rfl rfl ⟨_, ((hS.pick (A := blkA g3 45 [.int .u64 (i : Int), .int .u64 (t : Int), .slice A68 bs.length c68]) (by repeat first | exact .here _ _ | assumption | apply Pick.there)).pick (A := blkA g2 60 [.pointer (some ⟨g, 0, none⟩)]) (by repeat first | exact .here _ _ | assumption | apply Pick.there))⟩ (fun w hI => q_load_blk Try.isAgg45 Try.sizeOf45 rfl (hI.choose_spec.blk (by repeat first | exact .here _ _ | assumption | apply Pick.there)) rfl) ?_
              refine p_q hap hsel 4 rfl rfl ⟨_, ((hS.pick (A := blkA g3 45 [.int .u64 (i : Int), .int .u64 (t : Int), .slice A68 bs.length c68]) (by repeat first | exact .here _ _ | assumption | apply Pick.there)).pick (A := blkA g2 60 [.pointer (some ⟨g, 0, none⟩)]) (by repeat first | exact .here _ _ | assumption | apply Pick.there))⟩ (fun w hI => q_nilCheck rfl) ?_
              refine p_q hap hsel 5 rfl rfl ⟨_, ((hS.pick (A := blkA g3 45 [.int .u64 (i : Int), .int .u64 (t : Int), .slice A68 bs.length c68]) (by repeat first | exact .here _ _ | assumption | apply Pick.there)).pick (A := blkA g2 60 [.pointer (some ⟨g, 0, none⟩)]) (by repeat first | exact .here _ _ | assumption | apply Pick.there))⟩ (fun w hI => q_fieldAddr 3 Try.runUnderlying75 rfl Try.sizeOf3 (by decide) rfl rfl) ?_
              refine p_one 6 rfl (by kernel_rfl) ?_
              refine t_store (v := (.int _ _)) Try.sizeOf3 hS (by repeat first | exact .here _ _ | assumption | apply Pick.there) rfl rfl rfl rfl rfl rfl (fun w hS => ?_)
              refine t_nil ?_
              refine ⟨.inr ⟨_, ((hS.pick (A := blkA g3 45 [.int .u64 (i : Int), .int .u64 (t : Int), .slice A68 bs.length c68]) (by repeat first | exact .here _ _ | assumption | apply Pick.there)).pick (A := blkA g2 60 [.pointer (some ⟨g, 0, none⟩)]) (by repeat first | exact .here _ _ | assumption | apply Pick.there))⟩, ?_⟩
              refine p_q hap hsel 7 rfl rfl ⟨_, ((hS.pick (A := blkA g3 45 [.int .u64 (i : Int), .int .u64 (t : Int), .slice A68 bs.length c68]) (by repeat first | exact .here _ _ | assumption | apply Pick.there)).pick (A := blkA g2 60 [.pointer (some ⟨g, 0, none⟩)]) (by repeat first | exact .here _ _ | assumption | apply Pick.there))⟩ (fun w hI => q_nilCheck rfl) ?_
              refine p_q hap hsel 8 rfl rfl ⟨_, ((hS.pick (A := blkA g3 45 [.int .u64 (i : Int), .int .u64 (t : Int), .slice A68 bs.length c68]) (by repeat first | exact .here _ _ | assumption | apply Pick.there)).pick (A := blkA g2 60 [.pointer (some ⟨g, 0, none⟩)]) (by repeat first | exact .here _ _ | assumption | apply Pick.there))⟩ (fun w hI => q_fieldAddr 4 Try.runUnderlying75 rfl Try.sizeOf45 (by decide) rfl rfl) ?_
              refine p_one 9 rfl (by kernel_rfl) ?_
              refine t_store (v := (.agg _)) Try.sizeOf45 hS (by repeat first | exact .here _ _ | assumption | apply Pick.there) rfl rfl rfl rfl rfl rfl (fun w hS => ?_)
              replace hS := hS.recast (show blkA g 75 _ = blkA g 75 [.pointer (some ⟨gd, 0, none⟩), .int .i64 a.f0, .int .i64 (a.f0 + 1), .int .i64 (saTo a), .int .u64 (i : Int), .int .u64 (t : Int), .slice A68 bs.length c68, .bool (!(saP a d (⟨i, t, bs⟩ : Sn)).1)] from by rw [hto]; rfl)
              refine t_nil ?_
              refine ⟨.inl (by kernel_rfl), ?_⟩
              refine p_end (by kernel_rfl) ?_
              refine c_seq ?_
              refine c_region ?_
              refine t_q (q_assign) ?_
              refine t_nil ?_
              refine c_ret ?_
              refine r_one rfl rfl ?_
              first
                | (obtain ⟨e1, e2, e3⟩ := sa_1 (d := d) (s := (⟨i, t, bs⟩ : Sn)) hbr
                   rw [e1, e2, e3]
                   exact ⟨rfl, (St.unar a (((((((hS.pick (A := blkA g2 60 _) (by repeat first | exact .here _ _ | assumption | apply Pick.there)).pick (A := blkA g3 45 _) (by repeat first | exact .here _ _ | assumption | apply Pick.there)).drop.drop).pick (A := dskA gd d) (by repeat first | exact .here _ _ | assumption | apply Pick.there)).pick (A := rowA 5 1 As a.s.b.length cs (a.s.b.map bv)) (by repeat first | exact .here _ _ | assumption | apply Pick.there)).pick (A := blkA g 75 _) (by repeat first | exact .here _ _ | assumption | apply Pick.there))))⟩)
                | (obtain ⟨e1, e2, e3⟩ := sa_2 (d := d) (s := (⟨i, t, bs⟩ : Sn)) hbr (by show snE i t bs ≠ 0; omega)
                   rw [e1, e2, e3]
                   have hx := (St.unar { a with br := false } (((((((((hS.pick (A := blkA g5 25 _) (by repeat first | exact .here _ _ | assumption | apply Pick.there)).pick (A := rowA 5 1 A21 _ c21 _) (by repeat first | exact .here _ _ | assumption | apply Pick.there)).pick (A := blkA g2 60 _) (by repeat first | exact .here _ _ | assumption | apply Pick.there)).pick (A := blkA g3 45 _) (by repeat first | exact .here _ _ | assumption | apply Pick.there)).drop.drop.drop.drop).pick (A := dskA gd d) (by repeat first | exact .here _ _ | assumption | apply Pick.there)).pick (A := rowA 5 1 As a.s.b.length cs (a.s.b.map bv)) (by repeat first | exact .here _ _ | assumption | apply Pick.there)).pick (A := blkA g 75 _) (by repeat first | exact .here _ _ | assumption | apply Pick.there))))
                   rw [ar_eq hbr] at hx
                   exact ⟨rfl, hx⟩)
                | (obtain ⟨e1, e2, e3⟩ := sa_3 (d := d) (s := (⟨i, t, bs⟩ : Sn)) hbr hE0 hold
                   rw [e1, e2, e3]
                   have hx := (St.unar { a with br := false } (((((((((hS.pick (A := blkA g5 25 _) (by repeat first | exact .here _ _ | assumption | apply Pick.there)).pick (A := rowA 5 1 A21 _ c21 _) (by repeat first | exact .here _ _ | assumption | apply Pick.there)).pick (A := blkA g2 60 _) (by repeat first | exact .here _ _ | assumption | apply Pick.there)).pick (A := blkA g3 45 _) (by repeat first | exact .here _ _ | assumption | apply Pick.there)).drop.drop.drop.drop).pick (A := dskA gd d) (by repeat first | exact .here _ _ | assumption | apply Pick.there)).pick (A := rowA 5 1 As a.s.b.length cs (a.s.b.map bv)) (by repeat first | exact .here _ _ | assumption | apply Pick.there)).pick (A := blkA g 75 _) (by repeat first | exact .here _ _ | assumption | apply Pick.there))))
                   rw [ar_eq hbr] at hx
                   exact ⟨rfl, hx⟩)
                | (obtain ⟨e1, e2, e3⟩ := sa_4 (d := d) (s := (⟨i, t, bs⟩ : Sn)) hbr hE0 hold hP
                   rw [e1, e2, e3]
                   rw [hP] at hS
                   exact ⟨rfl, (St.unar { a with br := true } (((((((((((hS.pick (A := blkA g9 3 _) (by repeat first | exact .here _ _ | assumption | apply Pick.there)).pick (A := blkA g8 3 _) (by repeat first | exact .here _ _ | assumption | apply Pick.there)).pick (A := blkA g5 25 _) (by repeat first | exact .here _ _ | assumption | apply Pick.there)).pick (A := rowA 5 1 A21 _ c21 _) (by repeat first | exact .here _ _ | assumption | apply Pick.there)).pick (A := blkA g2 60 _) (by repeat first | exact .here _ _ | assumption | apply Pick.there)).pick (A := blkA g3 45 _) (by repeat first | exact .here _ _ | assumption | apply Pick.there)).drop.drop.drop.drop.drop.drop).pick (A := dskA gd (saP a d (⟨i, t, bs⟩ : Sn)).2) (by repeat first | exact .here _ _ | assumption | apply Pick.there)).pick (A := rowA 5 1 As a.s.b.length cs (a.s.b.map bv)) (by repeat first | exact .here _ _ | assumption | apply Pick.there)).pick (A := blkA g 75 _) (by repeat first | exact .here _ _ | assumption | apply Pick.there))))⟩)
                | (obtain ⟨e1, e2, e3⟩ := sa_5 (d := d) (s := (⟨i, t, bs⟩ : Sn)) hbr hE0 hold hP
                   rw [e1, e2, e3]
                   rw [hP] at hS
                   exact ⟨rfl, (St.unar ⟨a.f0, saTo a, (⟨i, t, bs⟩ : Sn), false⟩ ((((((((((((hS.pick (A := rowA 5 1 As a.s.b.length cs (a.s.b.map bv)) (by repeat first | exact .here _ _ | assumption | apply Pick.there)).pick (A := blkA g9 3 _) (by repeat first | exact .here _ _ | assumption | apply Pick.there)).pick (A := blkA g8 3 _) (by repeat first | exact .here _ _ | assumption | apply Pick.there)).pick (A := blkA g5 25 _) (by repeat first | exact .here _ _ | assumption | apply Pick.there)).pick (A := rowA 5 1 A21 _ c21 _) (by repeat first | exact .here _ _ | assumption | apply Pick.there)).pick (A := blkA g2 60 _) (by repeat first | exact .here _ _ | assumption | apply Pick.there)).pick (A := blkA g3 45 _) (by repeat first | exact .here _ _ | assumption | apply Pick.there)).drop.drop.drop.drop.drop.drop.drop).pick (A := dskA gd (saP a d (⟨i, t, bs⟩ : Sn)).2) (by repeat first | exact .here _ _ | assumption | apply Pick.there)).pick (A := rowA 5 1 A68 _ c68 _) (by repeat first | exact .here _ _ | assumption | apply Pick.there)).pick (A := blkA g 75 _) (by repeat first | exact .here _ _ | assumption | apply Pick.there))))⟩)
          ·
            refine t_alloc Try.zeroValue3 rfl hS (fun g9 w hS => ?_)
            refine t_nil ?_
            refine ⟨.inr ⟨_, ((hS.pick (A := blkA g 75 [.pointer (some ⟨gd, 0, none⟩), .int .i64 a.f0, .int .i64 (a.f0 + 1), .int .i64 a.cn, .int .u64 (a.s.i : Int), .int .u64 (a.s.t : Int), .slice As a.s.b.length cs, .bool false]) (by repeat first | exact .here _ _ | assumption | apply Pick.there)).pick (A := blkA g2 60 [.pointer (some ⟨g, 0, none⟩)]) (by repeat first | exact .here _ _ | assumption | apply Pick.there))⟩, ?_⟩
            refine p_one 13 rfl (by kernel_rfl) ?_
            refine t_alloc Try.zeroValue3 rfl hS (fun g8 w hS => ?_)
            refine t_nil ?_
            refine ⟨.inr ⟨_, ((hS.pick (A := blkA g 75 [.pointer (some ⟨gd, 0, none⟩), .int .i64 a.f0, .int .i64 (a.f0 + 1), .int .i64 a.cn, .int .u64 (a.s.i : Int), .int .u64 (a.s.t : Int), .slice As a.s.b.length cs, .bool false]) (by repeat first | exact .here _ _ | assumption | apply Pick.there)).pick (A := blkA g2 60 [.pointer (some ⟨g, 0, none⟩)]) (by repeat first | exact .here _ _ | assumption | apply Pick.there))⟩, ?_⟩
            refine p_one 15 rfl (by kernel_rfl) ?_
            refine t_store (v := (.int _ _)) Try.sizeOf3 hS (by repeat first | exact .here _ _ | assumption | apply Pick.there) rfl rfl rfl rfl rfl rfl (fun w hS => ?_)
            replace hS := hS.recast (show blkA g8 3 _ = blkA g8 3 [.int .i64 (a.f0 + saTo a)] from congrArg (fun n => blkA g8 3 [Value.int .i64 n]) (by omega))
            refine t_nil ?_
            refine ⟨.inr ⟨_, ((hS.pick (A := blkA g 75 [.pointer (some ⟨gd, 0, none⟩), .int .i64 a.f0, .int .i64 (a.f0 + 1), .int .i64 a.cn, .int .u64 (a.s.i : Int), .int .u64 (a.s.t : Int), .slice As a.s.b.length cs, .bool false]) (by repeat first | exact .here _ _ | assumption | apply Pick.there)).pick (A := blkA g2 60 [.pointer (some ⟨g, 0, none⟩)]) (by repeat first | exact .here _ _ | assumption | apply Pick.there))⟩, ?_⟩
            refine p_one 16 rfl (by kernel_rfl) ?_
            refine t_store (v := (.int _ _)) Try.sizeOf3 hS (by repeat first | exact .here _ _ | assumption | apply Pick.there) rfl rfl rfl rfl rfl rfl (fun w hS => ?_)
            replace hS := hS.recast (show blkA g9 3 _ = blkA g9 3 [.int .i64 (a.f0 + (1 - saTo a))] from congrArg (fun n => blkA g9 3 [Value.int .i64 n]) (by omega))
            refine t_nil ?_
            refine ⟨.inl (by kernel_rfl), ?_⟩
            refine p_end (by kernel_rfl) ?_
            refine c_seq ?_
            refine c_region ?_
            refine t_q (q_makeFunc rfl) ?_
            refine t_q (q_as (.func _ _ _) rfl) ?_
            refine t_nil ?_
            refine c_seq ?_
            refine c_seq ?_
            refine c_region ?_
            refine t_q (q_mv (.func _ _ _) rfl) ?_
            refine t_callv_b Try.call87 rfl (write_calls (n := a.f0 + saTo a) (old := a.f0 + (1 - saTo a)) (ys := snB i t bs) ((((((((hS.pick (A := rowA 5 1 A21 _ c21 _) (by repeat first | exact .here _ _ | assumption | apply Pick.there)).pick (A := blkA g9 3 _) (by repeat first | exact .here _ _ | assumption | apply Pick.there)).pick (A := blkA g5 25 _) (by repeat first | exact .here _ _ | assumption | apply Pick.there)).pick (A := blkA g8 3 _) (by repeat first | exact .here _ _ | assumption | apply Pick.there)).pick (A := blkA g2 60 _) (by repeat first | exact .here _ _ | assumption | apply Pick.there)).pick (A := blkA g 75 _) (by repeat first | exact .here _ _ | assumption | apply Pick.there)).pick (A := dskA gd d) (by repeat first | exact .here _ _ | assumption | apply Pick.there))) (fun w h => h.rowRd (A := A21) (bs := snB i t bs) (.here _ _) hm21) hm21 (by omega) hG hc) rfl ?_
            rintro e w ⟨rfl, hS⟩
            refine ⟨_, rfl, ?_⟩
            replace hS := hS.recast (show _ = dskA gd (saP a d (⟨i, t, bs⟩ : Sn)).2 from rfl)
            replace hS := (hS.pick (A := blkA g 75 _) (by repeat first | exact .here _ _ | assumption | apply Pick.there)).recast (show _ = blkA g 75 [.pointer (some ⟨gd, 0, none⟩), .int .i64 a.f0, .int .i64 (a.f0 + 1), .int .i64 a.cn, .int .u64 (a.s.i : Int), .int .u64 (a.s.t : Int), .slice As a.s.b.length cs, .bool (!(saP a d (⟨i, t, bs⟩ : Sn)).1)] from rfl)
            refine t_q (q_not rfl) ?_
            refine t_nil ?_
            refine c_cond rfl ?_ ?_
            · intro hc39
              have hP : (saP a d (⟨i, t, bs⟩ : Sn)).1 = false := not_back hc39
              refine c_seq ?_
              refine c_region ?_
              refine t_q (q_assign) ?_
              refine t_nil ?_
              refine c_ret ?_
              refine r_one rfl rfl ?_
              first
                | (obtain ⟨e1, e2, e3⟩ := sa_1 (d := d) (s := (⟨i, t, bs⟩ : Sn)) hbr
                   rw [e1, e2, e3]
                   exact ⟨rfl, (St.unar a (((((((hS.pick (A := blkA g2 60 _) (by repeat first | exact .here _ _ | assumption | apply Pick.there)).pick (A := blkA g3 45 _) (by repeat first | exact .here _ _ | assumption | apply Pick.there)).drop.drop).pick (A := dskA gd d) (by repeat first | exact .here _ _ | assumption | apply Pick.there)).pick (A := rowA 5 1 As a.s.b.length cs (a.s.b.map bv)) (by repeat first | exact .here _ _ | assumption | apply Pick.there)).pick (A := blkA g 75 _) (by repeat first | exact .here _ _ | assumption | apply Pick.there))))⟩)
                | (obtain ⟨e1, e2, e3⟩ := sa_2 (d := d) (s := (⟨i, t, bs⟩ : Sn)) hbr (by show snE i t bs ≠ 0; omega)
                   rw [e1, e2, e3]
                   have hx := (St.unar { a with br := false } (((((((((hS.pick (A := blkA g5 25 _) (by repeat first | exact .here _ _ | assumption | apply Pick.there)).pick (A := rowA 5 1 A21 _ c21 _) (by repeat first | exact .here _ _ | assumption | apply Pick.there)).pick (A := blkA g2 60 _) (by repeat first | exact .here _ _ | assumption | apply Pick.there)).pick (A := blkA g3 45 _) (by repeat first | exact .here _ _ | assumption | apply Pick.there)).drop.drop.drop.drop).pick (A := dskA gd d) (by repeat first | exact .here _ _ | assumption | apply Pick.there)).pick (A := rowA 5 1 As a.s.b.length cs (a.s.b.map bv)) (by repeat first | exact .here _ _ | assumption | apply Pick.there)).pick (A := blkA g 75 _) (by repeat first | exact .here _ _ | assumption | apply Pick.there))))
                   rw [ar_eq hbr] at hx
                   exact ⟨rfl, hx⟩)
                | (obtain ⟨e1, e2, e3⟩ := sa_3 (d := d) (s := (⟨i, t, bs⟩ : Sn)) hbr hE0 hold
                   rw [e1, e2, e3]
                   have hx := (St.unar { a with br := false } (((((((((hS.pick (A := blkA g5 25 _) (by repeat first | exact .here _ _ | assumption | apply Pick.there)).pick (A := rowA 5 1 A21 _ c21 _) (by repeat first | exact .here _ _ | assumption | apply Pick.there)).pick (A := blkA g2 60 _) (by repeat first | exact .here _ _ | assumption | apply Pick.there)).pick (A := blkA g3 45 _) (by repeat first | exact .here _ _ | assumption | apply Pick.there)).drop.drop.drop.drop).pick (A := dskA gd d) (by repeat first | exact .here _ _ | assumption | apply Pick.there)).pick (A := rowA 5 1 As a.s.b.length cs (a.s.b.map bv)) (by repeat first | exact .here _ _ | assumption | apply Pick.there)).pick (A := blkA g 75 _) (by repeat first | exact .here _ _ | assumption | apply Pick.there))))
                   rw [ar_eq hbr] at hx
                   exact ⟨rfl, hx⟩)
                | (obtain ⟨e1, e2, e3⟩ := sa_4 (d := d) (s := (⟨i, t, bs⟩ : Sn)) hbr hE0 hold hP
                   rw [e1, e2, e3]
                   rw [hP] at hS
                   exact ⟨rfl, (St.unar { a with br := true } (((((((((((hS.pick (A := blkA g9 3 _) (by repeat first | exact .here _ _ | assumption | apply Pick.there)).pick (A := blkA g8 3 _) (by repeat first | exact .here _ _ | assumption | apply Pick.there)).pick (A := blkA g5 25 _) (by repeat first | exact .here _ _ | assumption | apply Pick.there)).pick (A := rowA 5 1 A21 _ c21 _) (by repeat first | exact .here _ _ | assumption | apply Pick.there)).pick (A := blkA g2 60 _) (by repeat first | exact .here _ _ | assumption | apply Pick.there)).pick (A := blkA g3 45 _) (by repeat first | exact .here _ _ | assumption | apply Pick.there)).drop.drop.drop.drop.drop.drop).pick (A := dskA gd (saP a d (⟨i, t, bs⟩ : Sn)).2) (by repeat first | exact .here _ _ | assumption | apply Pick.there)).pick (A := rowA 5 1 As a.s.b.length cs (a.s.b.map bv)) (by repeat first | exact .here _ _ | assumption | apply Pick.there)).pick (A := blkA g 75 _) (by repeat first | exact .here _ _ | assumption | apply Pick.there))))⟩)
                | (obtain ⟨e1, e2, e3⟩ := sa_5 (d := d) (s := (⟨i, t, bs⟩ : Sn)) hbr hE0 hold hP
                   rw [e1, e2, e3]
                   rw [hP] at hS
                   exact ⟨rfl, (St.unar ⟨a.f0, saTo a, (⟨i, t, bs⟩ : Sn), false⟩ ((((((((((((hS.pick (A := rowA 5 1 As a.s.b.length cs (a.s.b.map bv)) (by repeat first | exact .here _ _ | assumption | apply Pick.there)).pick (A := blkA g9 3 _) (by repeat first | exact .here _ _ | assumption | apply Pick.there)).pick (A := blkA g8 3 _) (by repeat first | exact .here _ _ | assumption | apply Pick.there)).pick (A := blkA g5 25 _) (by repeat first | exact .here _ _ | assumption | apply Pick.there)).pick (A := rowA 5 1 A21 _ c21 _) (by repeat first | exact .here _ _ | assumption | apply Pick.there)).pick (A := blkA g2 60 _) (by repeat first | exact .here _ _ | assumption | apply Pick.there)).pick (A := blkA g3 45 _) (by repeat first | exact .here _ _ | assumption | apply Pick.there)).drop.drop.drop.drop.drop.drop.drop).pick (A := dskA gd (saP a d (⟨i, t, bs⟩ : Sn)).2) (by repeat first | exact .here _ _ | assumption | apply Pick.there)).pick (A := rowA 5 1 A68 _ c68 _) (by repeat first | exact .here _ _ | assumption | apply Pick.there)).pick (A := blkA g 75 _) (by repeat first | exact .here _ _ | assumption | apply Pick.there))))⟩)
            · intro hc39
              have hP : (saP a d (⟨i, t, bs⟩ : Sn)).1 = true := not_back hc39
              refine c_skip ?_
              refine c_seq ?_
              refine c_region ?_
              refine t_q (q_fieldAddr 2 Try.runUnderlying45 rfl Try.sizeOf25 (by decide) rfl rfl) ?_
              refine t_q (q_load1 Try.isAgg25 rfl (hS.cell (by repeat first | exact .here _ _ | assumption | apply Pick.there) rfl)) ?_
              refine t_call Try.call88 (clone_calls (show RdB w B bs from hrd _ ((((((((((hS.pick (A := dskA gd (saP a d (⟨i, t, bs⟩ : Sn)).2) (by repeat first | exact .here _ _ | assumption | apply Pick.there)).pick (A := blkA g9 3 _) (by repeat first | exact .here _ _ | assumption | apply Pick.there)).pick (A := blkA g8 3 _) (by repeat first | exact .here _ _ | assumption | apply Pick.there)).pick (A := blkA g5 25 _) (by repeat first | exact .here _ _ | assumption | apply Pick.there)).pick (A := rowA 5 1 A21 _ c21 _) (by repeat first | exact .here _ _ | assumption | apply Pick.there)).pick (A := rowA 5 1 As a.s.b.length cs (a.s.b.map bv)) (by repeat first | exact .here _ _ | assumption | apply Pick.there)).pick (A := blkA g 75 _) (by repeat first | exact .here _ _ | assumption | apply Pick.there)).pick (A := blkA g2 60 _) (by repeat first | exact .here _ _ | assumption | apply Pick.there)).pick (A := blkA g3 45 _) (by repeat first | exact .here _ _ | assumption | apply Pick.there)).drop.drop.drop.drop.drop.drop.drop.drop.drop)) (by omega)) rfl ?_
              rintro e w ⟨A68, c68, rfl, hT⟩
              refine ⟨_, rfl, ?_⟩
              have hS : St W w (_ :: _) := hS.lift hT
              refine t_q (q_fieldAddr 2 Try.runUnderlying45 rfl Try.sizeOf25 (by decide) rfl rfl) ?_
              refine t_store (v := (.slice _ _ _)) Try.sizeOf25 hS (by repeat first | exact .here _ _ | assumption | apply Pick.there) rfl rfl rfl rfl rfl rfl (fun w hS => ?_)
              replace hS := hS.recast (show blkA g3 45 _ = blkA g3 45 [.int .u64 (i : Int), .int .u64 (t : Int), .slice A68 bs.length c68] from rfl)
              refine t_nil ?_
              refine c_seq ?_
              refine c_draw ?_
              refine d_keep2 (blkA g2 60 [.pointer (some ⟨g, 0, none⟩)]) (blkA g3 45 [.int .u64 (i : Int), .int .u64 (t : Int), .slice A68 bs.length c68]) 10 [0, 1, 2, 3, 4, 5, 6, 7, 8, 9] [0, 2, 4, 5, 6, 1, 3, 7, 8, 9] hS rfl (by kernel_rfl) (by kernel_rfl) (by kernel_rfl) (by kernel_rfl) (fun hap hsel w hS => ?_)
              refine p_q hap hsel 0 rfl rfl ⟨_, ((hS.pick (A := blkA g3 45 [.int .u64 (i : Int), .int .u64 (t : Int), .slice A68 bs.length c68]) (by repeat first | exact .here _ _ | assumption | apply Pick.there)).pick (A := blkA g2 60 [.pointer (some ⟨g, 0, none⟩)]) (by repeat first | exact .here _ _ | assumption | apply Pick.there))⟩ (fun w hI => q_load1 Try.isAgg60 rfl (hI.choose_spec.cell (by repeat first | exact .here _ _ | assumption | apply Pick.there) rfl)) ?_
              refine p_q hap hsel 1 rfl rfl ⟨_, ((hS.pick (A := blkA g3 45 [.int .u64 (i : Int), .int .u64 (t : Int), .slice A68 bs.length c68]) (by repeat first | exact .here _ _ | assumption | apply Pick.there)).pick (A := blkA g2 60 [.pointer (some ⟨g, 0, none⟩)]) (by repeat first | exact .here _ _ | assumption | apply Pick.there))⟩ (fun w hI => q_load1 Try.isAgg60 rfl (hI.choose_spec.cell (by repeat first | exact .here _ _ | assumption | apply Pick.there) rfl)) ?_
              refine p_q hap hsel 2 rfl rfl ⟨_, ((hS.pick (A := blkA g3 45 [.int .u64 (i : Int), .int .u64 (t : Int), .slice A68 bs.length c68]) (by repeat first | exact .here _ _ | assumption | apply Pick.there)).pick (A := blkA g2 60 [.pointer (some ⟨g, 0, none⟩)]) (by repeat first | exact .here _ _ | assumption | apply Pick.there))⟩ (fun w hI => q_mv (.int _ _) rfl) ?_
              refine p_q hap hsel 3 rfl rfl ⟨_, ((hS.pick (A := blkA g3 45 [.int .u64 (i : Int), .int .u64 (t : Int), .slice A68 bs.length c68]) (by repeat first | exact .here _ _ | assumption | apply Pick.there)).pick (A := blkA g2 60 [.pointer (some ⟨g, 0, none⟩)]) (by repeat first | exact .here _ _ | assumption | apply Pick.there))⟩ (fun w hI => q_load_blk Try.isAgg45 Try.sizeOf45 rfl (hI.choose_spec.blk (by repeat first | exact .here _ _ | assumption | apply Pick.there)) rfl) ?_
              refine p_q hap hsel 4 rfl rfl ⟨_, ((hS.pick (A := blkA g3 45 [.int .u64 (i : Int), .int .u64 (t : Int), .slice A68 bs.length c68]) (by repeat first | exact .here _ _ | assumption | apply Pick.there)).pick (A := blkA g2 60 [.pointer (some ⟨g, 0, none⟩)]) (by repeat first | exact .here _ _ | assumption | apply Pick.there))⟩ (fun w hI => q_nilCheck rfl) ?_
              refine p_q hap hsel 5 rfl rfl ⟨_, ((hS.pick (A := blkA g3 45 [.int .u64 (i : Int), .int .u64 (t : Int), .slice A68 bs.length c68]) (by repeat first | exact .here _ _ | assumption | apply Pick.there)).pick (A := blkA g2 60 [.pointer (some ⟨g, 0, none⟩)]) (by repeat first | exact .here _ _ | assumption | apply Pick.there))⟩ (fun w hI => q_fieldAddr 3 Try.runUnderlying75 rfl Try.sizeOf3 (by decide) rfl rfl) ?_
              refine p_one 6 rfl (by kernel_rfl) ?_
              refine t_store (v := (.int _ _)) Try.sizeOf3 hS (by repeat first | exact .here _ _ | assumption | apply Pick.there) rfl rfl rfl rfl rfl rfl (fun w hS => ?_)
              refine t_nil ?_
              refine ⟨.inr ⟨_, ((hS.pick (A := blkA g3 45 [.int .u64 (i : Int), .int .u64 (t : Int), .slice A68 bs.length c68]) (by repeat first | exact .here _ _ | assumption | apply Pick.there)).pick (A := blkA g2 60 [.pointer (some ⟨g, 0, none⟩)]) (by repeat first | exact .here _ _ | assumption | apply Pick.there))⟩, ?_⟩
              refine p_q hap hsel 7 rfl rfl ⟨_, ((hS.pick (A := blkA g3 45 [.int .u64 (i : Int), .int .u64 (t : Int), .slice A68 bs.length c68]) (by repeat first | exact .here _ _ | assumption | apply Pick.there)).pick (A := blkA g2 60 [.pointer (some ⟨g, 0, none⟩)]) (by repeat first | exact .here _ _ | assumption | apply Pick.there))⟩ (fun w hI => q_nilCheck rfl) ?_
              refine p_q hap hsel 8 rfl rfl ⟨_, ((hS.pick (A := blkA g3 45 [.int .u64 (i : Int), .int .u64 (t : Int), .slice A68 bs.length c68]) (by repeat first | exact .here _ _ | assumption | apply Pick.there)).pick (A := blkA g2 60 [.pointer (some ⟨g, 0, none⟩)]) (by repeat first | exact .here _ _ | assumption | apply Pick.there))⟩ (fun w hI => q_fieldAddr 4 Try.runUnderlying75 rfl Try.sizeOf45 (by decide) rfl rfl) ?_
              refine p_one 9 rfl (by kernel_rfl) ?_
              refine t_store (v := (.agg _)) Try.sizeOf45 hS (by repeat first | exact .here _ _ | assumption | apply Pick.there) rfl rfl rfl rfl rfl rfl (fun w hS => ?_)
              replace hS := hS.recast (show blkA g 75 _ = blkA g 75 [.pointer (some ⟨gd, 0, none⟩), .int .i64 a.f0, .int .i64 (a.f0 + 1), .int .i64 (saTo a), .int .u64 (i : Int), .int .u64 (t : Int), .slice A68 bs.length c68, .bool (!(saP a d (⟨i, t, bs⟩ : Sn)).1)] from by rw [hto]; rfl)
              refine t_nil ?_
              refine ⟨.inl (by kernel_rfl), ?_⟩
              refine p_end (by kernel_rfl) ?_
              refine c_seq ?_
              refine c_region ?_
              refine t_q (q_assign) ?_
              refine t_nil ?_
              refine c_ret ?_
              refine r_one rfl rfl ?_
              first
                | (obtain ⟨e1, e2, e3⟩ := sa_1 (d := d) (s := (⟨i, t, bs⟩ : Sn)) hbr
                   rw [e1, e2, e3]
                   exact ⟨rfl, (St.unar a (((((((hS.pick (A := blkA g2 60 _) (by repeat first | exact .here _ _ | assumption | apply Pick.there)).pick (A := blkA g3 45 _) (by repeat first | exact .here _ _ | assumption | apply Pick.there)).drop.drop).pick (A := dskA gd d) (by repeat first | exact .here _ _ | assumption | apply Pick.there)).pick (A := rowA 5 1 As a.s.b.length cs (a.s.b.map bv)) (by repeat first | exact .here _ _ | assumption | apply Pick.there)).pick (A := blkA g 75 _) (by repeat first | exact .here _ _ | assumption | apply Pick.there))))⟩)
                | (obtain ⟨e1, e2, e3⟩ := sa_2 (d := d) (s := (⟨i, t, bs⟩ : Sn)) hbr (by show snE i t bs ≠ 0; omega)
                   rw [e1, e2, e3]
                   have hx := (St.unar { a with br := false } (((((((((hS.pick (A := blkA g5 25 _) (by repeat first | exact .here _ _ | assumption | apply Pick.there)).pick (A := rowA 5 1 A21 _ c21 _) (by repeat first | exact .here _ _ | assumption | apply Pick.there)).pick (A := blkA g2 60 _) (by repeat first | exact .here _ _ | assumption | apply Pick.there)).pick (A := blkA g3 45 _) (by repeat first | exact .here _ _ | assumption | apply Pick.there)).drop.drop.drop.drop).pick (A := dskA gd d) (by repeat first | exact .here _ _ | assumption | apply Pick.there)).pick (A := rowA 5 1 As a.s.b.length cs (a.s.b.map bv)) (by repeat first | exact .here _ _ | assumption | apply Pick.there)).pick (A := blkA g 75 _) (by repeat first | exact .here _ _ | assumption | apply Pick.there))))
                   rw [ar_eq hbr] at hx
                   exact ⟨rfl, hx⟩)
                | (obtain ⟨e1, e2, e3⟩ := sa_3 (d := d) (s := (⟨i, t, bs⟩ : Sn)) hbr hE0 hold
                   rw [e1, e2, e3]
                   have hx := (St.unar { a with br := false } (((((((((hS.pick (A := blkA g5 25 _) (by repeat first | exact .here _ _ | assumption | apply Pick.there)).pick (A := rowA 5 1 A21 _ c21 _) (by repeat first | exact .here _ _ | assumption | apply Pick.there)).pick (A := blkA g2 60 _) (by repeat first | exact .here _ _ | assumption | apply Pick.there)).pick (A := blkA g3 45 _) (by repeat first | exact .here _ _ | assumption | apply Pick.there)).drop.drop.drop.drop).pick (A := dskA gd d) (by repeat first | exact .here _ _ | assumption | apply Pick.there)).pick (A := rowA 5 1 As a.s.b.length cs (a.s.b.map bv)) (by repeat first | exact .here _ _ | assumption | apply Pick.there)).pick (A := blkA g 75 _) (by repeat first | exact .here _ _ | assumption | apply Pick.there))))
                   rw [ar_eq hbr] at hx
                   exact ⟨rfl, hx⟩)
                | (obtain ⟨e1, e2, e3⟩ := sa_4 (d := d) (s := (⟨i, t, bs⟩ : Sn)) hbr hE0 hold hP
                   rw [e1, e2, e3]
                   rw [hP] at hS
                   exact ⟨rfl, (St.unar { a with br := true } (((((((((((hS.pick (A := blkA g9 3 _) (by repeat first | exact .here _ _ | assumption | apply Pick.there)).pick (A := blkA g8 3 _) (by repeat first | exact .here _ _ | assumption | apply Pick.there)).pick (A := blkA g5 25 _) (by repeat first | exact .here _ _ | assumption | apply Pick.there)).pick (A := rowA 5 1 A21 _ c21 _) (by repeat first | exact .here _ _ | assumption | apply Pick.there)).pick (A := blkA g2 60 _) (by repeat first | exact .here _ _ | assumption | apply Pick.there)).pick (A := blkA g3 45 _) (by repeat first | exact .here _ _ | assumption | apply Pick.there)).drop.drop.drop.drop.drop.drop).pick (A := dskA gd (saP a d (⟨i, t, bs⟩ : Sn)).2) (by repeat first | exact .here _ _ | assumption | apply Pick.there)).pick (A := rowA 5 1 As a.s.b.length cs (a.s.b.map bv)) (by repeat first | exact .here _ _ | assumption | apply Pick.there)).pick (A := blkA g 75 _) (by repeat first | exact .here _ _ | assumption | apply Pick.there))))⟩)
                | (obtain ⟨e1, e2, e3⟩ := sa_5 (d := d) (s := (⟨i, t, bs⟩ : Sn)) hbr hE0 hold hP
                   rw [e1, e2, e3]
                   rw [hP] at hS
                   exact ⟨rfl, (St.unar ⟨a.f0, saTo a, (⟨i, t, bs⟩ : Sn), false⟩ ((((((((((((hS.pick (A := rowA 5 1 As a.s.b.length cs (a.s.b.map bv)) (by repeat first | exact .here _ _ | assumption | apply Pick.there)).pick (A := blkA g9 3 _) (by repeat first | exact .here _ _ | assumption | apply Pick.there)).pick (A := blkA g8 3 _) (by repeat first | exact .here _ _ | assumption | apply Pick.there)).pick (A := blkA g5 25 _) (by repeat first | exact .here _ _ | assumption | apply Pick.there)).pick (A := rowA 5 1 A21 _ c21 _) (by repeat first | exact .here _ _ | assumption | apply Pick.there)).pick (A := blkA g2 60 _) (by repeat first | exact .here _ _ | assumption | apply Pick.there)).pick (A := blkA g3 45 _) (by repeat first | exact .here _ _ | assumption | apply Pick.there)).drop.drop.drop.drop.drop.drop.drop).pick (A := dskA gd (saP a d (⟨i, t, bs⟩ : Sn)).2) (by repeat first | exact .here _ _ | assumption | apply Pick.there)).pick (A := rowA 5 1 A68 _ c68 _) (by repeat first | exact .here _ _ | assumption | apply Pick.there)).pick (A := blkA g 75 _) (by repeat first | exact .here _ _ | assumption | apply Pick.there))))⟩)
        · intro hc32
          have hc32d := of_decide_eq_false hc32
          have hto : saTo a = 0 := by unfold saTo; rw [if_neg (by omega)]
          refine c_skip ?_
          refine c_seq ?_
          refine c_draw ?_
          refine d_keep2 (blkA g2 60 [.pointer (some ⟨g, 0, none⟩)]) (blkA g 75 [.pointer (some ⟨gd, 0, none⟩), .int .i64 a.f0, .int .i64 (a.f0 + 1), .int .i64 a.cn, .int .u64 (a.s.i : Int), .int .u64 (a.s.t : Int), .slice As a.s.b.length cs, .bool false]) 17 [0, 1, 2, 3, 4, 5, 6, 7, 8, 9, 10, 11, 12, 13, 14, 15, 16] [0, 1, 2, 3, 4, 5, 13, 14, 15, 6, 7, 8, 9, 10, 11, 12, 16] hS rfl (by kernel_rfl) (by kernel_rfl) (by kernel_rfl) (by kernel_rfl) (fun hap hsel w hS => ?_)
          refine p_q hap hsel 0 rfl rfl ⟨_, ((hS.pick (A := blkA g 75 [.pointer (some ⟨gd, 0, none⟩), .int .i64 a.f0, .int .i64 (a.f0 + 1), .int .i64 a.cn, .int .u64 (a.s.i : Int), .int .u64 (a.s.t : Int), .slice As a.s.b.length cs, .bool false]) (by repeat first | exact .here _ _ | assumption | apply Pick.there)).pick (A := blkA g2 60 [.pointer (some ⟨g, 0, none⟩)]) (by repeat first | exact .here _ _ | assumption | apply Pick.there))⟩ (fun w hI => q_load1 Try.isAgg60 rfl (hI.choose_spec.cell (by repeat first | exact .here _ _ | assumption | apply Pick.there) rfl)) ?_
          refine p_q hap hsel 1 rfl rfl ⟨_, ((hS.pick (A := blkA g 75 [.pointer (some ⟨gd, 0, none⟩), .int .i64 a.f0, .int .i64 (a.f0 + 1), .int .i64 a.cn, .int .u64 (a.s.i : Int), .int .u64 (a.s.t : Int), .slice As a.s.b.length cs, .bool false]) (by repeat first | exact .here _ _ | assumption | apply Pick.there)).pick (A := blkA g2 60 [.pointer (some ⟨g, 0, none⟩)]) (by repeat first | exact .here _ _ | assumption | apply Pick.there))⟩ (fun w hI => q_mv (.int _ _) rfl) ?_
          refine p_q hap hsel 2 rfl rfl ⟨_, ((hS.pick (A := blkA g 75 [.pointer (some ⟨gd, 0, none⟩), .int .i64 a.f0, .int .i64 (a.f0 + 1), .int .i64 a.cn, .int .u64 (a.s.i : Int), .int .u64 (a.s.t : Int), .slice As a.s.b.length cs, .bool false]) (by repeat first | exact .here _ _ | assumption | apply Pick.there)).pick (A := blkA g2 60 [.pointer (some ⟨g, 0, none⟩)]) (by repeat first | exact .here _ _ | assumption | apply Pick.there))⟩ (fun w hI => q_nilCheck rfl) ?_
          refine p_q hap hsel 3 rfl rfl ⟨_, ((hS.pick (A := blkA g 75 [.pointer (some ⟨gd, 0, none⟩), .int .i64 a.f0, .int .i64 (a.f0 + 1), .int .i64 a.cn, .int .u64 (a.s.i : Int), .int .u64 (a.s.t : Int), .slice As a.s.b.length cs, .bool false]) (by repeat first | exact .here _ _ | assumption | apply Pick.there)).pick (A := blkA g2 60 [.pointer (some ⟨g, 0, none⟩)]) (by repeat first | exact .here _ _ | assumption | apply Pick.there))⟩ (fun w hI => q_fieldAddr 1 Try.runUnderlying75 rfl Try.sizeOf73 (by decide) rfl rfl) ?_
          first | refine p_q hap hsel 4 rfl rfl ⟨_, ((hS.pick (A := blkA g 75 [.pointer (some ⟨gd, 0, none⟩), .int .i64 a.f0, .int .i64 (a.f0 + 1), .int .i64 a.cn, .int .u64 (a.s.i : Int), .int .u64 (a.s.t : Int), .slice As a.s.b.length cs, .bool false]) (by repeat first | exact .here _ _ | assumption | apply Pick.there)).pick (A := blkA g2 60 [.pointer (some ⟨g, 0, none⟩)]) (by repeat first | exact .here _ _ | assumption | apply Pick.there))⟩ (fun w hI => q_arr_nat Try.runUnderlying73 Try.sizeOf3 rfl rfl (by omega)) ?_ | refine p_q hap hsel 4 rfl rfl ⟨_, ((hS.pick (A := blkA g 75 [.pointer (some ⟨gd, 0, none⟩), .int .i64 a.f0, .int .i64 (a.f0 + 1), .int .i64 a.cn, .int .u64 (a.s.i : Int), .int .u64 (a.s.t : Int), .slice As a.s.b.length cs, .bool false]) (by repeat first | exact .here _ _ | assumption | apply Pick.there)).pick (A := blkA g2 60 [.pointer (some ⟨g, 0, none⟩)]) (by repeat first | exact .here _ _ | assumption | apply Pick.there))⟩ (fun w hI => q_arr Try.runUnderlying73 Try.sizeOf3 rfl rfl (by omega)) ?_
          refine p_q hap hsel 5 rfl rfl ⟨_, ((hS.pick (A := blkA g 75 [.pointer (some ⟨gd, 0, none⟩), .int .i64 a.f0, .int .i64 (a.f0 + 1), .int .i64 a.cn, .int .u64 (a.s.i : Int), .int .u64 (a.s.t : Int), .slice As a.s.b.length cs, .bool false]) (by repeat first | exact .here _ _ | assumption | apply Pick.there)).pick (A := blkA g2 60 [.pointer (some ⟨g, 0, none⟩)]) (by repeat first | exact .here _ _ | assumption | apply Pick.there))⟩ (fun w hI => q_load1 Try.isAgg3 rfl (hI.choose_spec.cell (by repeat first | exact .here _ _ | assumption | apply Pick.there) rfl)) ?_
          refine p_q hap hsel 6 rfl rfl ⟨_, ((hS.pick (A := blkA g 75 [.pointer (some ⟨gd, 0, none⟩), .int .i64 a.f0, .int .i64 (a.f0 + 1), .int .i64 a.cn, .int .u64 (a.s.i : Int), .int .u64 (a.s.t : Int), .slice As a.s.b.length cs, .bool false]) (by repeat first | exact .here _ _ | assumption | apply Pick.there)).pick (A := blkA g2 60 [.pointer (some ⟨g, 0, none⟩)]) (by repeat first | exact .here _ _ | assumption | apply Pick.there))⟩ (fun w hI => q_load1 Try.isAgg60 rfl (hI.choose_spec.cell (by repeat first | exact .here _ _ | assumption | apply Pick.there) rfl)) ?_
          refine p_q hap hsel 7 rfl rfl ⟨_, ((hS.pick (A := blkA g 75 [.pointer (some ⟨gd, 0, none⟩), .int .i64 a.f0, .int .i64 (a.f0 + 1), .int .i64 a.cn, .int .u64 (a.s.i : Int), .int .u64 (a.s.t : Int), .slice As a.s.b.length cs, .bool false]) (by repeat first | exact .here _ _ | assumption | apply Pick.there)).pick (A := blkA g2 60 [.pointer (some ⟨g, 0, none⟩)]) (by repeat first | exact .here _ _ | assumption | apply Pick.there))⟩ (fun w hI => q_mv (.int _ _) rfl) ?_
          refine p_q hap hsel 8 rfl rfl ⟨_, ((hS.pick (A := blkA g 75 [.pointer (some ⟨gd, 0, none⟩), .int .i64 a.f0, .int .i64 (a.f0 + 1), .int .i64 a.cn, .int .u64 (a.s.i : Int), .int .u64 (a.s.t : Int), .slice As a.s.b.length cs, .bool false]) (by repeat first | exact .here _ _ | assumption | apply Pick.there)).pick (A := blkA g2 60 [.pointer (some ⟨g, 0, none⟩)]) (by repeat first | exact .here _ _ | assumption | apply Pick.there))⟩ (fun w hI => q_sub_i64 rfl rfl (by omega)) ?_
          refine p_q hap hsel 9 rfl rfl ⟨_, ((hS.pick (A := blkA g 75 [.pointer (some ⟨gd, 0, none⟩), .int .i64 a.f0, .int .i64 (a.f0 + 1), .int .i64 a.cn, .int .u64 (a.s.i : Int), .int .u64 (a.s.t : Int), .slice As a.s.b.length cs, .bool false]) (by repeat first | exact .here _ _ | assumption | apply Pick.there)).pick (A := blkA g2 60 [.pointer (some ⟨g, 0, none⟩)]) (by repeat first | exact .here _ _ | assumption | apply Pick.there))⟩ (fun w hI => q_nilCheck rfl) ?_
          refine p_q hap hsel 10 rfl rfl ⟨_, ((hS.pick (A := blkA g 75 [.pointer (some ⟨gd, 0, none⟩), .int .i64 a.f0, .int .i64 (a.f0 + 1), .int .i64 a.cn, .int .u64 (a.s.i : Int), .int .u64 (a.s.t : Int), .slice As a.s.b.length cs, .bool false]) (by repeat first | exact .here _ _ | assumption | apply Pick.there)).pick (A := blkA g2 60 [.pointer (some ⟨g, 0, none⟩)]) (by repeat first | exact .here _ _ | assumption | apply Pick.there))⟩ (fun w hI => q_fieldAddr 1 Try.runUnderlying75 rfl Try.sizeOf73 (by decide) rfl rfl) ?_
          first | refine p_q hap hsel 11 rfl rfl ⟨_, ((hS.pick (A := blkA g 75 [.pointer (some ⟨gd, 0, none⟩), .int .i64 a.f0, .int .i64 (a.f0 + 1), .int .i64 a.cn, .int .u64 (a.s.i : Int), .int .u64 (a.s.t : Int), .slice As a.s.b.length cs, .bool false]) (by repeat first | exact .here _ _ | assumption | apply Pick.there)).pick (A := blkA g2 60 [.pointer (some ⟨g, 0, none⟩)]) (by repeat first | exact .here _ _ | assumption | apply Pick.there))⟩ (fun w hI => q_arr_nat Try.runUnderlying73 Try.sizeOf3 rfl rfl (by omega)) ?_ | refine p_q hap hsel 11 rfl rfl ⟨_, ((hS.pick (A := blkA g 75 [.pointer (some ⟨gd, 0, none⟩), .int .i64 a.f0, .int .i64 (a.f0 + 1), .int .i64 a.cn, .int .u64 (a.s.i : Int), .int .u64 (a.s.t : Int), .slice As a.s.b.length cs, .bool false]) (by repeat first | exact .here _ _ | assumption | apply Pick.there)).pick (A := blkA g2 60 [.pointer (some ⟨g, 0, none⟩)]) (by repeat first | exact .here _ _ | assumption | apply Pick.there))⟩ (fun w hI => q_arr Try.runUnderlying73 Try.sizeOf3 rfl rfl (by omega)) ?_
          refine p_q hap hsel 12 rfl rfl ⟨_, ((hS.pick (A := blkA g 75 [.pointer (some ⟨gd, 0, none⟩), .int .i64 a.f0, .int .i64 (a.f0 + 1), .int .i64 a.cn, .int .u64 (a.s.i : Int), .int .u64 (a.s.t : Int), .slice As a.s.b.length cs, .bool false]) (by repeat first | exact .here _ _ | assumption | apply Pick.there)).pick (A := blkA g2 60 [.pointer (some ⟨g, 0, none⟩)]) (by repeat first | exact .here _ _ | assumption | apply Pick.there))⟩ (fun w hI => q_load1 Try.isAgg3 rfl (hI.choose_spec.cell (by repeat first | exact .here _ _ | assumption | apply Pick.there) rfl)) ?_
          refine p_two 13 14 rfl rfl (by kernel_rfl) ?_ ?_
          ·
            refine t_alloc Try.zeroValue3 rfl hS (fun g8 w hS => ?_)
            refine t_nil ?_
            refine ⟨.inr ⟨_, ((hS.pick (A := blkA g 75 [.pointer (some ⟨gd, 0, none⟩), .int .i64 a.f0, .int .i64 (a.f0 + 1), .int .i64 a.cn, .int .u64 (a.s.i : Int), .int .u64 (a.s.t : Int), .slice As a.s.b.length cs, .bool false]) (by repeat first | exact .here _ _ | assumption | apply Pick.there)).pick (A := blkA g2 60 [.pointer (some ⟨g, 0, none⟩)]) (by repeat first | exact .here _ _ | assumption | apply Pick.there))⟩, ?_⟩
            refine p_one 14 rfl (by kernel_rfl) ?_
            refine t_alloc Try.zeroValue3 rfl hS (fun g9 w hS => ?_)
            refine t_nil ?_
            refine ⟨.inr ⟨_, ((hS.pick (A := blkA g 75 [.pointer (some ⟨gd, 0, none⟩), .int .i64 a.f0, .int .i64 (a.f0 + 1), .int .i64 a.cn, .int .u64 (a.s.i : Int), .int .u64 (a.s.t : Int), .slice As a.s.b.length cs, .bool false]) (by repeat first | exact .here _ _ | assumption | apply Pick.there)).pick (A := blkA g2 60 [.pointer (some ⟨g, 0, none⟩)]) (by repeat first | exact .here _ _ | assumption | apply Pick.there))⟩, ?_⟩
            refine p_one 15 rfl (by kernel_rfl) ?_
            refine t_store (v := (.int _ _)) Try.sizeOf3 hS (by repeat first | exact .here _ _ | assumption | apply Pick.there) rfl rfl rfl rfl rfl rfl (fun w hS => ?_)
            replace hS := hS.recast (show blkA g8 3 _ = blkA g8 3 [.int .i64 (a.f0 + saTo a)] from congrArg (fun n => blkA g8 3 [Value.int .i64 n]) (by omega))
            refine t_nil ?_
            refine ⟨.inr ⟨_, ((hS.pick (A := blkA g 75 [.pointer (some ⟨gd, 0, none⟩), .int .i64 a.f0, .int .i64 (a.f0 + 1), .int .i64 a.cn, .int .u64 (a.s.i : Int), .int .u64 (a.s.t : Int), .slice As a.s.b.length cs, .bool false]) (by repeat first | exact .here _ _ | assumption | apply Pick.there)).pick (A := blkA g2 60 [.pointer (some ⟨g, 0, none⟩)]) (by repeat first | exact .here _ _ | assumption | apply Pick.there))⟩, ?_⟩
            refine p_one 16 rfl (by kernel_rfl) ?_
            refine t_store (v := (.int _ _)) Try.sizeOf3 hS (by repeat first | exact .here _ _ | assumption | apply Pick.there) rfl rfl rfl rfl rfl rfl (fun w hS => ?_)
            replace hS := hS.recast (show blkA g9 3 _ = blkA g9 3 [.int .i64 (a.f0 + (1 - saTo a))] from congrArg (fun n => blkA g9 3 [Value.int .i64 n]) (by omega))
            refine t_nil ?_
            refine ⟨.inl (by kernel_rfl), ?_⟩
            refine p_end (by kernel_rfl) ?_
            refine c_seq ?_
            refine c_region ?_
            refine t_q (q_makeFunc rfl) ?_
            refine t_q (q_as (.func _ _ _) rfl) ?_
            refine t_nil ?_
            refine c_seq ?_
            refine c_seq ?_
            refine c_region ?_
            refine t_q (q_mv (.func _ _ _) rfl) ?_
            refine t_callv_b Try.call87 rfl (write_calls (n := a.f0 + saTo a) (old := a.f0 + (1 - saTo a)) (ys := snB i t bs) ((((((((hS.pick (A := rowA 5 1 A21 _ c21 _) (by repeat first | exact .here _ _ | assumption | apply Pick.there)).pick (A := blkA g9 3 _) (by repeat first | exact .here _ _ | assumption | apply Pick.there)).pick (A := blkA g5 25 _) (by repeat first | exact .here _ _ | assumption | apply Pick.there)).pick (A := blkA g8 3 _) (by repeat first | exact .here _ _ | assumption | apply Pick.there)).pick (A := blkA g2 60 _) (by repeat first | exact .here _ _ | assumption | apply Pick.there)).pick (A := blkA g 75 _) (by repeat first | exact .here _ _ | assumption | apply Pick.there)).pick (A := dskA gd d) (by repeat first | exact .here _ _ | assumption | apply Pick.there))) (fun w h => h.rowRd (A := A21) (bs := snB i t bs) (.here _ _) hm21) hm21 (by omega) hG hc) rfl ?_
            rintro e w ⟨rfl, hS⟩
            refine ⟨_, rfl, ?_⟩
            replace hS := hS.recast (show _ = dskA gd (saP a d (⟨i, t, bs⟩ : Sn)).2 from rfl)
            replace hS := (hS.pick (A := blkA g 75 _) (by repeat first | exact .here _ _ | assumption | apply Pick.there)).recast (show _ = blkA g 75 [.pointer (some ⟨gd, 0, none⟩), .int .i64 a.f0, .int .i64 (a.f0 + 1), .int .i64 a.cn, .int .u64 (a.s.i : Int), .int .u64 (a.s.t : Int), .slice As a.s.b.length cs, .bool (!(saP a d (⟨i, t, bs⟩ : Sn)).1)] from rfl)
            refine t_q (q_not rfl) ?_
            refine t_nil ?_
            refine c_cond rfl ?_ ?_
            · intro hc44
              have hP : (saP a d (⟨i, t, bs⟩ : Sn)).1 = false := not_back hc44
              refine c_seq ?_
              refine c_region ?_
              refine t_q (q_assign) ?_
              refine t_nil ?_
              refine c_ret ?_
              refine r_one rfl rfl ?_
              first
                | (obtain ⟨e1, e2, e3⟩ := sa_1 (d := d) (s := (⟨i, t, bs⟩ : Sn)) hbr
                   rw [e1, e2, e3]
                   exact ⟨rfl, (St.unar a (((((((hS.pick (A := blkA g2 60 _) (by repeat first | exact .here _ _ | assumption | apply Pick.there)).pick (A := blkA g3 45 _) (by repeat first | exact .here _ _ | assumption | apply Pick.there)).drop.drop).pick (A := dskA gd d) (by repeat first | exact .here _ _ | assumption | apply Pick.there)).pick (A := rowA 5 1 As a.s.b.length cs (a.s.b.map bv)) (by repeat first | exact .here _ _ | assumption | apply Pick.there)).pick (A := blkA g 75 _) (by repeat first | exact .here _ _ | assumption | apply Pick.there))))⟩)
                | (obtain ⟨e1, e2, e3⟩ := sa_2 (d := d) (s := (⟨i, t, bs⟩ : Sn)) hbr (by show snE i t bs ≠ 0; omega)
                   rw [e1, e2, e3]
                   have hx := (St.unar { a with br := false } (((((((((hS.pick (A := blkA g5 25 _) (by repeat first | exact .here _ _ | assumption | apply Pick.there)).pick (A := rowA 5 1 A21 _ c21 _) (by repeat first | exact .here _ _ | assumption | apply Pick.there)).pick (A := blkA g2 60 _) (by repeat first | exact .here _ _ | assumption | apply Pick.there)).pick (A := blkA g3 45 _) (by repeat first | exact .here _ _ | assumption | apply Pick.there)).drop.drop.drop.drop).pick (A := dskA gd d) (by repeat first | exact .here _ _ | assumption | apply Pick.there)).pick (A := rowA 5 1 As a.s.b.length cs (a.s.b.map bv)) (by repeat first | exact .here _ _ | assumption | apply Pick.there)).pick (A := blkA g 75 _) (by repeat first | exact .here _ _ | assumption | apply Pick.there))))
                   rw [ar_eq hbr] at hx
                   exact ⟨rfl, hx⟩)
                | (obtain ⟨e1, e2, e3⟩ := sa_3 (d := d) (s := (⟨i, t, bs⟩ : Sn)) hbr hE0 hold
                   rw [e1, e2, e3]
                   have hx := (St.unar { a with br := false } (((((((((hS.pick (A := blkA g5 25 _) (by repeat first | exact .here _ _ | assumption | apply Pick.there)).pick (A := rowA 5 1 A21 _ c21 _) (by repeat first | exact .here _ _ | assumption | apply Pick.there)).pick (A := blkA g2 60 _) (by repeat first | exact .here _ _ | assumption | apply Pick.there)).pick (A := blkA g3 45 _) (by repeat first | exact .here _ _ | assumption | apply Pick.there)).drop.drop.drop.drop).pick (A := dskA gd d) (by repeat first | exact .here _ _ | assumption | apply Pick.there)).pick (A := rowA 5 1 As a.s.b.length cs (a.s.b.map bv)) (by repeat first | exact .here _ _ | assumption | apply Pick.there)).pick (A := blkA g 75 _) (by repeat first | exact .here _ _ | assumption | apply Pick.there))))
                   rw [ar_eq hbr] at hx
                   exact ⟨rfl, hx⟩)
                | (obtain ⟨e1, e2, e3⟩ := sa_4 (d := d) (s := (⟨i, t, bs⟩ : Sn)) hbr hE0 hold hP
                   rw [e1, e2, e3]
                   rw [hP] at hS
                   exact ⟨rfl, (St.unar { a with br := true } (((((((((((hS.pick (A := blkA g9 3 _) (by repeat first | exact .here _ _ | assumption | apply Pick.there)).pick (A := blkA g8 3 _) (by repeat first | exact .here _ _ | assumption | apply Pick.there)).pick (A := blkA g5 25 _) (by repeat first | exact .here _ _ | assumption | apply Pick.there)).pick (A := rowA 5 1 A21 _ c21 _) (by repeat first | exact .here _ _ | assumption | apply Pick.there)).pick (A := blkA g2 60 _) (by repeat first | exact .here _ _ | assumption | apply Pick.there)).pick (A := blkA g3 45 _) (by repeat first | exact .here _ _ | assumption | apply Pick.there)).drop.drop.drop.drop.drop.drop).pick (A := dskA gd (saP a d (⟨i, t, bs⟩ : Sn)).2) (by repeat first | exact .here _ _ | assumption | apply Pick.there)).pick (A := rowA 5 1 As a.s.b.length cs (a.s.b.map bv)) (by repeat first | exact .here _ _ | assumption | apply Pick.there)).pick (A := blkA g 75 _) (by repeat first | exact .here _ _ | assumption | apply Pick.there))))⟩)
                | (obtain ⟨e1, e2, e3⟩ := sa_5 (d := d) (s := (⟨i, t, bs⟩ : Sn)) hbr hE0 hold hP
                   rw [e1, e2, e3]
                   rw [hP] at hS
                   exact ⟨rfl, (St.unar ⟨a.f0, saTo a, (⟨i, t, bs⟩ : Sn), false⟩ ((((((((((((hS.pick (A := rowA 5 1 As a.s.b.length cs (a.s.b.map bv)) (by repeat first | exact .here _ _ | assumption | apply Pick.there)).pick (A := blkA g9 3 _) (by repeat first | exact .here _ _ | assumption | apply Pick.there)).pick (A := blkA g8 3 _) (by repeat first | exact .here _ _ | assumption | apply Pick.there)).pick (A := blkA g5 25 _) (by repeat first | exact .here _ _ | assumption | apply Pick.there)).pick (A := rowA 5 1 A21 _ c21 _) (by repeat first | exact .here _ _ | assumption | apply Pick.there)).pick (A := blkA g2 60 _) (by repeat first | exact .here _ _ | assumption | apply Pick.there)).pick (A := blkA g3 45 _) (by repeat first | exact .here _ _ | assumption | apply Pick.there)).drop.drop.drop.drop.drop.drop.drop).pick (A := dskA gd (saP a d (⟨i, t, bs⟩ : Sn)).2) (by repeat first | exact .here _ _ | assumption | apply Pick.there)).pick (A := rowA 5 1 A68 _ c68 _) (by repeat first | exact .here _ _ | assumption | apply Pick.there)).pick (A := blkA g 75 _) (by repeat first | exact .here _ _ | assumption | apply Pick.there))))⟩)
            · intro hc44
              have hP : (saP a d (⟨i, t, bs⟩ : Sn)).1 = true := not_back hc44
              refine c_skip ?_
              refine c_seq ?_
              refine c_region ?_
              refine t_q (q_fieldAddr 2 Try.runUnderlying45 rfl Try.sizeOf25 (by decide) rfl rfl) ?_
              refine t_q (q_load1 Try.isAgg25 rfl (hS.cell (by repeat first | exact .here _ _ | assumption | apply Pick.there) rfl)) ?_
              refine t_call Try.call88 (clone_calls (show RdB w B bs from hrd _ ((((((((((hS.pick (A := dskA gd (saP a d (⟨i, t, bs⟩ : Sn)).2) (by repeat first | exact .here _ _ | assumption | apply Pick.there)).pick (A := blkA g9 3 _) (by repeat first | exact .here _ _ | assumption | apply Pick.there)).pick (A := blkA g8 3 _) (by repeat first | exact .here _ _ | assumption | apply Pick.there)).pick (A := blkA g5 25 _) (by repeat first | exact .here _ _ | assumption | apply Pick.there)).pick (A := rowA 5 1 A21 _ c21 _) (by repeat first | exact .here _ _ | assumption | apply Pick.there)).pick (A := rowA 5 1 As a.s.b.length cs (a.s.b.map bv)) (by repeat first | exact .here _ _ | assumption | apply Pick.there)).pick (A := blkA g 75 _) (by repeat first | exact .here _ _ | assumption | apply Pick.there)).pick (A := blkA g2 60 _) (by repeat first | exact .here _ _ | assumption | apply Pick.there)).pick (A := blkA g3 45 _) (by repeat first | exact .here _ _ | assumption | apply Pick.there)).drop.drop.drop.drop.drop.drop.drop.drop.drop)) (by omega)) rfl ?_
              rintro e w ⟨A68, c68, rfl, hT⟩
              refine ⟨_, rfl, ?_⟩
              have hS : St W w (_ :: _) := hS.lift hT
              refine t_q (q_fieldAddr 2 Try.runUnderlying45 rfl Try.sizeOf25 (by decide) rfl rfl) ?_
              refine t_store (v := (.slice _ _ _)) Try.sizeOf25 hS (by repeat first | exact .here _ _ | assumption | apply Pick.there) rfl rfl rfl rfl rfl rfl (fun w hS => ?_)
              replace hS := hS.recast (show blkA g3 45 _ = blkA g3 45 [.int .u64 (i : Int), .int .u64 (t : Int), .slice A68 bs.length c68] from rfl)
              refine t_nil ?_
              refine c_seq ?_
              refine c_draw ?_
              refine d_keep2 (blkA g2 60 [.pointer (some ⟨g, 0, none⟩)]) (blkA g3 45 [.int .u64 (i : Int), .int .u64 (t : Int), .slice A68 bs.length c68]) 10 [0, 1, 2, 3, 4, 5, 6, 7, 8, 9] [0, 2, 4, 5, 6, 1, 3, 7, 8, 9] hS rfl (by kernel_rfl) (by kernel_rfl) (by kernel_rfl) (by kernel_rfl) (fun hap hsel w hS => ?_)
              refine p_q hap hsel 0 rfl rfl ⟨_, ((hS.pick (A := blkA g3 45 [.int .u64 (i : Int), .int .u64 (t : Int), .slice A68 bs.length c68]) (by repeat first | exact .here _ _ | assumption | apply Pick.there)).pick (A := blkA g2 60 [.pointer (some ⟨g, 0, none⟩)]) (by repeat first | exact .here _ _ | assumption | apply Pick.there))⟩ (fun w hI => q_load1 Try.isAgg60 rfl (hI.choose_spec.cell (by repeat first | exact .here _ _ | assumption | apply Pick.there) rfl)) ?_
              refine p_q hap hsel 1 rfl rfl ⟨_, ((hS.pick (A := blkA g3 45 [.int .u64 (i : Int), .int .u64 (t : Int), .slice A68 bs.length c68]) (by repeat first | exact .here _ _ | assumption | apply Pick.there)).pick (A := blkA g2 60 [.pointer (some ⟨g, 0, none⟩)]) (by repeat first | exact .here _ _ | assumption | apply Pick.there))⟩ (fun w hI => q_load1 Try.isAgg60 rfl (hI.choose_spec.cell (by repeat first | exact .here _ _ | assumption | apply Pick.there) rfl)) ?_
              refine p_q hap hsel 2 rfl rfl ⟨_, ((hS.pick (A := blkA g3 45 [.int .u64 (i : Int), .int .u64 (t : Int), .slice A68 bs.length c68]) (by repeat first | exact .here _ _ | assumption | apply Pick.there)).pick (A := blkA g2 60 [.pointer (some ⟨g, 0, none⟩)]) (by repeat first | exact .here _ _ | assumption | apply Pick.there))⟩ (fun w hI => q_mv (.int _ _) rfl) ?_
              refine p_q hap hsel 3 rfl rfl ⟨_, ((hS.pick (A := blkA g3 45 [.int .u64 (i : Int), .int .u64 (t : Int), .slice A68 bs.length c68]) (by repeat first | exact .here _ _ | assumption | apply Pick.there)).pick (A := blkA g2 60 [.pointer (some ⟨g, 0, none⟩)]) (by repeat first | exact .here _ _ | assumption | apply Pick.there))⟩ (fun w hI => q_load_blk Try.isAgg45 Try.sizeOf45 rfl (hI.choose_spec.blk (by repeat first | exact .here _ _ | assumption | apply Pick.there)) rfl) ?_
              refine p_q hap hsel 4 rfl rfl ⟨_, ((hS.pick (A := blkA g3 45 [.int .u64 (i : Int), .int .u64 (t : Int), .slice A68 bs.length c68]) (by repeat first | exact .here _ _ | assumption | apply Pick.there)).pick (A := blkA g2 60 [.pointer (some ⟨g, 0, none⟩)]) (by repeat first | exact .here _ _ | assumption | apply Pick.there))⟩ (fun w hI => q_nilCheck rfl) ?_
              refine p_q hap hsel 5 rfl rfl ⟨_, ((hS.pick (A := blkA g3 45 [.int .u64 (i : Int), .int .u64 (t : Int), .slice A68 bs.length c68]) (by repeat first | exact .here _ _ | assumption | apply Pick.there)).pick (A := blkA g2 60 [.pointer (some ⟨g, 0, none⟩)]) (by repeat first | exact .here _ _ | assumption | apply Pick.there))⟩ (fun w hI => q_fieldAddr 3 Try.runUnderlying75 rfl Try.sizeOf3 (by decide) rfl rfl) ?_
              refine p_one 6 rfl (by kernel_rfl) ?_
              refine t_store (v := (.int _ _)) Try.sizeOf3 hS (by repeat first | exact .here _ _ | assumption | apply Pick.there) rfl rfl rfl rfl rfl rfl (fun w hS => ?_)
              refine t_nil ?_
              refine ⟨.inr ⟨_, ((hS.pick (A := blkA g3 45 [.int .u64 (i : Int), .int .u64 (t : Int), .slice A68 bs.length c68]) (by repeat first | exact .here _ _ | assumption | apply Pick.there)).pick (A := blkA g2 60 [.pointer (some ⟨g, 0, none⟩)]) (by repeat first | exact .here _ _ | assumption | apply Pick.there))⟩, ?_⟩
              refine p_q hap hsel 7 rfl rfl ⟨_, ((hS.pick (A := blkA g3 45 [.int .u64 (i : Int), .int .u64 (t : Int), .slice A68 bs.length c68]) (by repeat first | exact .here _ _ | assumption | apply Pick.there)).pick (A := blkA g2 60 [.pointer (some ⟨g, 0, none⟩)]) (by repeat first | exact .here _ _ | assumption | apply Pick.there))⟩ (fun w hI => q_nilCheck rfl) ?_
              refine p_q hap hsel 8 rfl rfl ⟨_, ((hS.pick (A := blkA g3 45 [.int .u64 (i : Int), .int .u64 (t : Int), .slice A68 bs.length c68]) (by repeat first | exact .here _ _ | assumption | apply Pick.there)).pick (A := blkA g2 60 [.pointer (some ⟨g, 0, none⟩)]) (by repeat first | exact .here _ _ | assumption | apply Pick.there))⟩ (fun w hI => q_fieldAddr 4 Try.runUnderlying75 rfl Try.sizeOf45 (by decide) rfl rfl) ?_
              refine p_one 9 rfl (by kernel_rfl) ?_
              refine t_store (v := (.agg _)) Try.sizeOf45 hS (by repeat first | exact .here _ _ | assumption | apply Pick.there) rfl rfl rfl rfl rfl rfl (fun w hS => ?_)
              replace hS := hS.recast (show blkA g 75 _ = blkA g 75 [.pointer (some ⟨gd, 0, none⟩), .int .i64 a.f0, .int .i64 (a.f0 + 1), .int .i64 (saTo a), .int .u64 (i : Int), .int .u64 (t : Int), .slice A68 bs.length c68, .bool (!(saP a d (⟨i, t, bs⟩ : Sn)).1)] from by rw [hto]; rfl)
              refine t_nil ?_
              refine ⟨.inl (by kernel_rfl), ?_⟩
              refine p_end (by kernel_rfl) ?_
              refine c_seq ?_
              refine c_region ?_
              refine t_q (q_assign) ?_
              refine t_nil ?_
              refine c_ret ?_
              refine r_one rfl rfl ?_
              first
                | (obtain ⟨e1, e2, e3⟩ := sa_1 (d := d) (s := (⟨i, t, bs⟩ : Sn)) hbr
                   rw [e1, e2, e3]
                   exact ⟨rfl, (St.unar a (((((((hS.pick (A := blkA g2 60 _) (by repeat first | exact .here _ _ | assumption | apply Pick.there)).pick (A := blkA g3 45 _) (by repeat first | exact .here _ _ | assumption | apply Pick.there)).drop.drop).pick (A := dskA gd d) (by repeat first | exact .here _ _ | assumption | apply Pick.there)).pick (A := rowA 5 1 As a.s.b.length cs (a.s.b.map bv)) (by repeat first | exact .here _ _ | assumption | apply Pick.there)).pick (A := blkA g 75 _) (by repeat first | exact .here _ _ | assumption | apply Pick.there))))⟩)
                | (obtain ⟨e1, e2, e3⟩ := sa_2 (d := d) (s := (⟨i, t, bs⟩ : Sn)) hbr (by show snE i t bs ≠ 0; omega)
                   rw [e1, e2, e3]
                   have hx := (St.unar { a with br := false } (((((((((hS.pick (A := blkA g5 25 _) (by repeat first | exact .here _ _ | assumption | apply Pick.there)).pick (A := rowA 5 1 A21 _ c21 _) (by repeat first | exact .here _ _ | assumption | apply Pick.there)).pick (A := blkA g2 60 _) (by repeat first | exact .here _ _ | assumption | apply Pick.there)).pick (A := blkA g3 45 _) (by repeat first | exact .here _ _ | assumption | apply Pick.there)).drop.drop.drop.drop).pick (A := dskA gd d) (by repeat first | exact .here _ _ | assumption | apply Pick.there)).pick (A := rowA 5 1 As a.s.b.length cs (a.s.b.map bv)) (by repeat first | exact .here _ _ | assumption | apply Pick.there)).pick (A := blkA g 75 _) (by repeat first | exact .here _ _ | assumption | apply Pick.there))))
                   rw [ar_eq hbr] at hx
                   exact ⟨rfl, hx⟩)
                | (obtain ⟨e1, e2, e3⟩ := sa_3 (d := d) (s := (⟨i, t, bs⟩ : Sn)) hbr hE0 hold
                   rw [e1, e2, e3]
                   have hx := (St.unar { a with br := false } (((((((((hS.pick (A := blkA g5 25 _) (by repeat first | exact .here _ _ | assumption | apply Pick.there)).pick (A := rowA 5 1 A21 _ c21 _) (by repeat first | exact .here _ _ | assumption | apply Pick.there)).pick (A := blkA g2 60 _) (by repeat first | exact .here _ _ | assumption | apply Pick.there)).pick (A := blkA g3 45 _) (by repeat first | exact .here _ _ | assumption | apply Pick.there)).drop.drop.drop.drop).pick (A := dskA gd d) (by repeat first | exact .here _ _ | assumption | apply Pick.there)).pick (A := rowA 5 1 As a.s.b.length cs (a.s.b.map bv)) (by repeat first | exact .here _ _ | assumption | apply Pick.there)).pick (A := blkA g 75 _) (by repeat first | exact .here _ _ | assumption | apply Pick.there))))
                   rw [ar_eq hbr] at hx
                   exact ⟨rfl, hx⟩)
                | (obtain ⟨e1, e2, e3⟩ := sa_4 (d := d) (s := (⟨i, t, bs⟩ : Sn)) hbr hE0 hold hP
                   rw [e1, e2, e3]
                   rw [hP] at hS
                   exact ⟨rfl, (St.unar { a with br := true } (((((((((((hS.pick (A := blkA g9 3 _) (by repeat first | exact .here _ _ | assumption | apply Pick.there)).pick (A := blkA g8 3 _) (by repeat first | exact .here _ _ | assumption | apply Pick.there)).pick (A := blkA g5 25 _) (by repeat first | exact .here _ _ | assumption | apply Pick.there)).pick (A := rowA 5 1 A21 _ c21 _) (by repeat first | exact .here _ _ | assumption | apply Pick.there)).pick (A := blkA g2 60 _) (by repeat first | exact .here _ _ | assumption | apply Pick.there)).pick (A := blkA g3 45 _) (by repeat first | exact .here _ _ | assumption | apply Pick.there)).drop.drop.drop.drop.drop.drop).pick (A := dskA gd (saP a d (⟨i, t, bs⟩ : Sn)).2) (by repeat first | exact .here _ _ | assumption | apply Pick.there)).pick (A := rowA 5 1 As a.s.b.length cs (a.s.b.map bv)) (by repeat first | exact .here _ _ | assumption | apply Pick.there)).pick (A := blkA g 75 _) (by repeat first | exact .here _ _ | assumption | apply Pick.there))))⟩)
                | (obtain ⟨e1, e2, e3⟩ := sa_5 (d := d) (s := (⟨i, t, bs⟩ : Sn)) hbr hE0 hold hP
                   rw [e1, e2, e3]
                   rw [hP] at hS
                   exact ⟨rfl, (St.unar ⟨a.f0, saTo a, (⟨i, t, bs⟩ : Sn), false⟩ ((((((((((((hS.pick (A := rowA 5 1 As a.s.b.length cs (a.s.b.map bv)) (by repeat first | exact .here _ _ | assumption | apply Pick.there)).pick (A := blkA g9 3 _) (by repeat first | exact .here _ _ | assumption | apply Pick.there)).pick (A := blkA g8 3 _) (by repeat first | exact .here _ _ | assumption | apply Pick.there)).pick (A := blkA g5 25 _) (by repeat first | exact .here _ _ | assumption | apply Pick.there)).pick (A := rowA 5 1 A21 _ c21 _) (by repeat first | exact .here _ _ | assumption | apply Pick.there)).pick (A := blkA g2 60 _) (by repeat first | exact .here _ _ | assumption | apply Pick.there)).pick (A := blkA g3 45 _) (by repeat first | exact .here _ _ | assumption | apply Pick.there)).drop.drop.drop.drop.drop.drop.drop).pick (A := dskA gd (saP a d (⟨i, t, bs⟩ : Sn)).2) (by repeat first | exact .here _ _ | assumption | apply Pick.there)).pick (A := rowA 5 1 A68 _ c68 _) (by repeat first | exact .here _ _ | assumption | apply Pick.there)).pick (A := blkA g 75 _) (by repeat first | exact .here _ _ | assumption | apply Pick.there))))⟩)
          ·
            refine t_alloc Try.zeroValue3 rfl hS (fun g9 w hS => ?_)
            refine t_nil ?_
            refine ⟨.inr ⟨_, ((hS.pick (A := blkA g 75 [.pointer (some ⟨gd, 0, none⟩), .int .i64 a.f0, .int .i64 (a.f0 + 1), .int .i64 a.cn, .int .u64 (a.s.i : Int), .int .u64 (a.s.t : Int), .slice As a.s.b.length cs, .bool false]) (by repeat first | exact .here _ _ | assumption | apply Pick.there)).pick (A := blkA g2 60 [.pointer (some ⟨g, 0, none⟩)]) (by repeat first | exact .here _ _ | assumption | apply Pick.there))⟩, ?_⟩
            refine p_one 13 rfl (by kernel_rfl) ?_
            refine t_alloc Try.zeroValue3 rfl hS (fun g8 w hS => ?_)
            refine t_nil ?_
            refine ⟨.inr ⟨_, ((hS.pick (A := blkA g 75 [.pointer (some ⟨gd, 0, none⟩), .int .i64 a.f0, .int .i64 (a.f0 + 1), .int .i64 a.cn, .int .u64 (a.s.i : Int), .int .u64 (a.s.t : Int), .slice As a.s.b.length cs, .bool false]) (by repeat first | exact .here _ _ | assumption | apply Pick.there)).pick (A := blkA g2 60 [.pointer (some ⟨g, 0, none⟩)]) (by repeat first | exact .here _ _ | assumption | apply Pick.there))⟩, ?_⟩
            refine p_one 15 rfl (by kernel_rfl) ?_
            refine t_store (v := (.int _ _)) Try.sizeOf3 hS (by repeat first | exact .here _ _ | assumption | apply Pick.there) rfl rfl rfl rfl rfl rfl (fun w hS => ?_)
            replace hS := hS.recast (show blkA g8 3 _ = blkA g8 3 [.int .i64 (a.f0 + saTo a)] from congrArg (fun n => blkA g8 3 [Value.int .i64 n]) (by omega))
            refine t_nil ?_
            refine ⟨.inr ⟨_, ((hS.pick (A := blkA g 75 [.pointer (some ⟨gd, 0, none⟩), .int .i64 a.f0, .int .i64 (a.f0 + 1), .int .i64 a.cn, .int .u64 (a.s.i : Int), .int .u64 (a.s.t : Int), .slice As a.s.b.length cs, .bool false]) (by repeat first | exact .here _ _ | assumption | apply Pick.there)).pick (A := blkA g2 60 [.pointer (some ⟨g, 0, none⟩)]) (by repeat first | exact .here _ _ | assumption | apply Pick.there))⟩, ?_⟩
            refine p_one 16 rfl (by kernel_rfl) ?_
            refine t_store (v := (.int _ _)) Try.sizeOf3 hS (by repeat first | exact .here _ _ | assumption | apply Pick.there) rfl rfl rfl rfl rfl rfl (fun w hS => ?_)
            replace hS := hS.recast (show blkA g9 3 _ = blkA g9 3 [.int .i64 (a.f0 + (1 - saTo a))] from congrArg (fun n => blkA g9 3 [Value.int .i64 n]) (by omega))
            refine t_nil ?_
            refine ⟨.inl (by kernel_rfl), ?_⟩
            refine p_end (by kernel_rfl) ?_
            refine c_seq ?_
            refine c_region ?_
            refine t_q (q_makeFunc rfl) ?_
            refine t_q (q_as (.func _ _ _) rfl) ?_
            refine t_nil ?_
            refine c_seq ?_
            refine c_seq ?_
            refine c_region ?_
            refine t_q (q_mv (.func _ _ _) rfl) ?_
            refine t_callv_b Try.call87 rfl (write_calls (n := a.f0 + saTo a) (old := a.f0 + (1 - saTo a)) (ys := snB i t bs) ((((((((hS.pick (A := rowA 5 1 A21 _ c21 _) (by repeat first | exact .here _ _ | assumption | apply Pick.there)).pick (A := blkA g9 3 _) (by repeat first | exact .here _ _ | assumption | apply Pick.there)).pick (A := blkA g5 25 _) (by repeat first | exact .here _ _ | assumption | apply Pick.there)).pick (A := blkA g8 3 _) (by repeat first | exact .here _ _ | assumption | apply Pick.there)).pick (A := blkA g2 60 _) (by repeat first | exact .here _ _ | assumption | apply Pick.there)).pick (A := blkA g 75 _) (by repeat first | exact .here _ _ | assumption | apply Pick.there)).pick (A := dskA gd d) (by repeat first | exact .here _ _ | assumption | apply Pick.there))) (fun w h => h.rowRd (A := A21) (bs := snB i t bs) (.here _ _) hm21) hm21 (by omega) hG hc) rfl ?_
            rintro e w ⟨rfl, hS⟩
            refine ⟨_, rfl, ?_⟩
            replace hS := hS.recast (show _ = dskA gd (saP a d (⟨i, t, bs⟩ : Sn)).2 from rfl)
            replace hS := (hS.pick (A := blkA g 75 _) (by repeat first | exact .here _ _ | assumption | apply Pick.there)).recast (show _ = blkA g 75 [.pointer (some ⟨gd, 0, none⟩), .int .i64 a.f0, .int .i64 (a.f0 + 1), .int .i64 a.cn, .int .u64 (a.s.i : Int), .int .u64 (a.s.t : Int), .slice As a.s.b.length cs, .bool (!(saP a d (⟨i, t, bs⟩ : Sn)).1)] from rfl)
            refine t_q (q_not rfl) ?_
            refine t_nil ?_
            refine c_cond rfl ?_ ?_
            · intro hc47
              have hP : (saP a d (⟨i, t, bs⟩ : Sn)).1 = false := not_back hc47
              refine c_seq ?_
              refine c_region ?_
              refine t_q (q_assign) ?_
              refine t_nil ?_
              refine c_ret ?_
              refine r_one rfl rfl ?_
              first
                | (obtain ⟨e1, e2, e3⟩ := sa_1 (d := d) (s := (⟨i, t, bs⟩ : Sn)) hbr
                   rw [e1, e2, e3]
                   exact ⟨rfl, (St.unar a (((((((hS.pick (A := blkA g2 60 _) (by repeat first | exact .here _ _ | assumption | apply Pick.there)).pick (A := blkA g3 45 _) (by repeat first | exact .here _ _ | assumption | apply Pick.there)).drop.drop).pick (A := dskA gd d) (by repeat first | exact .here _ _ | assumption | apply Pick.there)).pick (A := rowA 5 1 As a.s.b.length cs (a.s.b.map bv)) (by repeat first | exact .here _ _ | assumption | apply Pick.there)).pick (A := blkA g 75 _) (by repeat first | exact .here _ _ | assumption | apply Pick.there))))⟩)
                | (obtain ⟨e1, e2, e3⟩ := sa_2 (d := d) (s := (⟨i, t, bs⟩ : Sn)) hbr (by show snE i t bs ≠ 0; omega)
                   rw [e1, e2, e3]
                   have hx := (St.unar { a with br := false } (((((((((hS.pick (A := blkA g5 25 _) (by repeat first | exact .here _ _ | assumption | apply Pick.there)).pick (A := rowA 5 1 A21 _ c21 _) (by repeat first | exact .here _ _ | assumption | apply Pick.there)).pick (A := blkA g2 60 _) (by repeat first | exact .here _ _ | assumption | apply Pick.there)).pick (A := blkA g3 45 _) (by repeat first | exact .here _ _ | assumption | apply Pick.there)).drop.drop.drop.drop).pick (A := dskA gd d) (by repeat first | exact .here _ _ | assumption | apply Pick.there)).pick (A := rowA 5 1 As a.s.b.length cs (a.s.b.map bv)) (by repeat first | exact .here _ _ | assumption | apply Pick.there)).pick (A := blkA g 75 _) (by repeat first | exact .here _ _ | assumption | apply Pick.there))))
                   rw [ar_eq hbr] at hx
                   exact ⟨rfl, hx⟩)
                | (obtain ⟨e1, e2, e3⟩ := sa_3 (d := d) (s := (⟨i, t, bs⟩ : Sn)) hbr hE0 hold
                   rw [e1, e2, e3]
                   have hx := (St.unar { a with br := false } (((((((((hS.pick (A := blkA g5 25 _) (by repeat first | exact .here _ _ | assumption | apply Pick.there)).pick (A := rowA 5 1 A21 _ c21 _) (by repeat first | exact .here _ _ | assumption | apply Pick.there)).pick (A := blkA g2 60 _) (by repeat first | exact .here _ _ | assumption | apply Pick.there)).pick (A := blkA g3 45 _) (by repeat first | exact .here _ _ | assumption | apply Pick.there)).drop.drop.drop.drop).pick (A := dskA gd d) (by repeat first | exact .here _ _ | assumption | apply Pick.there)).pick (A := rowA 5 1 As a.s.b.length cs (a.s.b.map bv)) (by repeat first | exact .here _ _ | assumption | apply Pick.there)).pick (A := blkA g 75 _) (by repeat first | exact .here _ _ | assumption | apply Pick.there))))
                   rw [ar_eq hbr] at hx
                   exact ⟨rfl, hx⟩)
                | (obtain ⟨e1, e2, e3⟩ := sa_4 (d := d) (s := (⟨i, t, bs⟩ : Sn)) hbr hE0 hold hP
                   rw [e1, e2, e3]
                   rw [hP] at hS
                   exact ⟨rfl, (St.unar { a with br := true } (((((((((((hS.pick (A := blkA g9 3 _) (by repeat first | exact .here _ _ | assumption | apply Pick.there)).pick (A := blkA g8 3 _) (by repeat first | exact .here _ _ | assumption | apply Pick.there)).pick (A := blkA g5 25 _) (by repeat first | exact .here _ _ | assumption | apply Pick.there)).pick (A := rowA 5 1 A21 _ c21 _) (by repeat first | exact .here _ _ | assumption | apply Pick.there)).pick (A := blkA g2 60 _) (by repeat first | exact .here _ _ | assumption | apply Pick.there)).pick (A := blkA g3 45 _) (by repeat first | exact .here _ _ | assumption | apply Pick.there)).drop.drop.drop.drop.drop.drop).pick (A := dskA gd (saP a d (⟨i, t, bs⟩ : Sn)).2) (by repeat first | exact .here _ _ | assumption | apply Pick.there)).pick (A := rowA 5 1 As a.s.b.length cs (a.s.b.map bv)) (by repeat first | exact .here _ _ | assumption | apply Pick.there)).pick (A := blkA g 75 _) (by repeat first | exact .here _ _ | assumption | apply Pick.there))))⟩)
                | (obtain ⟨e1, e2, e3⟩ := sa_5 (d := d) (s := (⟨i, t, bs⟩ : Sn)) hbr hE0 hold hP
                   rw [e1, e2, e3]
                   rw [hP] at hS
                   exact ⟨rfl, (St.unar ⟨a.f0, saTo a, (⟨i, t, bs⟩ : Sn), false⟩ ((((((((((((hS.pick (A := rowA 5 1 As a.s.b.length cs (a.s.b.map bv)) (by repeat first | exact .here _ _ | assumption | apply Pick.there)).pick (A := blkA g9 3 _) (by repeat first | exact .here _ _ | assumption | apply Pick.there)).pick (A := blkA g8 3 _) (by repeat first | exact .here _ _ | assumption | apply Pick.there)).pick (A := blkA g5 25 _) (by repeat first | exact .here _ _ | assumption | apply Pick.there)).pick (A := rowA 5 1 A21 _ c21 _) (by repeat first | exact .here _ _ | assumption | apply Pick.there)).pick (A := blkA g2 60 _) (by repeat first | exact .here _ _ | assumption | apply Pick.there)).pick (A := blkA g3 45 _) (by repeat first | exact .here _ _ | assumption | apply Pick.there)).drop.drop.drop.drop.drop.drop.drop).pick (A := dskA gd (saP a d (⟨i, t, bs⟩ : Sn)).2) (by repeat first | exact .here _ _ | assumption | apply Pick.there)).pick (A := rowA 5 1 A68 _ c68 _) (by repeat first | exact .here _ _ | assumption | apply Pick.there)).pick (A := blkA g 75 _) (by repeat first | exact .here _ _ | assumption | apply Pick.there))))⟩)
            · intro hc47
              have hP : (saP a d (⟨i, t, bs⟩ : Sn)).1 = true := not_back hc47
              refine c_skip ?_
              refine c_seq ?_
              refine c_region ?_
              refine t_q (q_fieldAddr 2 Try.runUnderlying45 rfl Try.sizeOf25 (by decide) rfl rfl) ?_
              refine t_q (q_load1 Try.isAgg25 rfl (hS.cell (by repeat first | exact .here _ _ | assumption | apply Pick.there) rfl)) ?_
              refine t_call Try.call88 (clone_calls (show RdB w B bs from hrd _ ((((((((((hS.pick (A := dskA gd (saP a d (⟨i, t, bs⟩ : Sn)).2) (by repeat first | exact .here _ _ | assumption | apply Pick.there)).pick (A := blkA g9 3 _) (by repeat first | exact .here _ _ | assumption | apply Pick.there)).pick (A := blkA g8 3 _) (by repeat first | exact .here _ _ | assumption | apply Pick.there)).pick (A := blkA g5 25 _) (by repeat first | exact .here _ _ | assumption | apply Pick.there)).pick (A := rowA 5 1 A21 _ c21 _) (by repeat first | exact .here _ _ | assumption | apply Pick.there)).pick (A := rowA 5 1 As a.s.b.length cs (a.s.b.map bv)) (by repeat first | exact .here _ _ | assumption | apply Pick.there)).pick (A := blkA g 75 _) (by repeat first | exact .here _ _ | assumption | apply Pick.there)).pick (A := blkA g2 60 _) (by repeat first | exact .here _ _ | assumption | apply Pick.there)).pick (A := blkA g3 45 _) (by repeat first | exact .here _ _ | assumption | apply Pick.there)).drop.drop.drop.drop.drop.drop.drop.drop.drop)) (by omega)) rfl ?_
              rintro e w ⟨A68, c68, rfl, hT⟩
              refine ⟨_, rfl, ?_⟩
              have hS : St W w (_ :: _) := hS.lift hT
              refine t_q (q_fieldAddr 2 Try.runUnderlying45 rfl Try.sizeOf25 (by decide) rfl rfl) ?_
              refine t_store (v := (.slice _ _ _)) Try.sizeOf25 hS (by repeat first | exact .here _ _ | assumption | apply Pick.there) rfl rfl rfl rfl rfl rfl (fun w hS => ?_)
              replace hS := hS.recast (show blkA g3 45 _ = blkA g3 45 [.int .u64 (i : Int), .int .u64 (t : Int), .slice A68 bs.length c68] from rfl)
              refine t_nil ?_
              refine c_seq ?_
              refine c_draw ?_
              refine d_keep2 (blkA g2 60 [.pointer (some ⟨g, 0, none⟩)]) (blkA g3 45 [.int .u64 (i : Int), .int .u64 (t : Int), .slice A68 bs.length c68]) 10 [0, 1, 2, 3, 4, 5, 6, 7, 8, 9] [0, 2, 4, 5, 6, 1, 3, 7, 8, 9] hS rfl (by kernel_rfl) (by kernel_rfl) (by kernel_rfl) (by kernel_rfl) (fun hap hsel w hS => ?_)
              refine p_q hap hsel 0 rfl rfl ⟨_, ((hS.pick (A := blkA g3 45 [.int .u64 (i : Int), .int .u64 (t : Int), .slice A68 bs.length c68]) (by repeat first | exact .here _ _ | assumption | apply Pick.there)).pick (A := blkA g2 60 [.pointer (some ⟨g, 0, none⟩)]) (by repeat first | exact .here _ _ | assumption | apply Pick.there))⟩ (fun w hI => q_load1 Try.isAgg60 rfl (hI.choose_spec.cell (by repeat first | exact .here _ _ | assumption | apply Pick.there) rfl)) ?_
              refine p_q hap hsel 1 rfl rfl ⟨_, ((hS.pick (A := blkA g3 45 [.int .u64 (i : Int), .int .u64 (t : Int), .slice A68 bs.length c68]) (by repeat first | exact .here _ _ | assumption | apply Pick.there)).pick (A := blkA g2 60 [.pointer (some ⟨g, 0, none⟩)]) (by repeat first | exact .here _ _ | assumption | apply Pick.there))⟩ (fun w hI => q_load1 Try.isAgg60 rfl (hI.choose_spec.cell (by repeat first | exact .here _ _ | assumption | apply Pick.there) rfl)) ?_
              refine p_q hap hsel 2 rfl rfl ⟨_, ((hS.pick (A := blkA g3 45 [.int .u64 (i : Int), .int .u64 (t : Int), .slice A68 bs.length c68]) (by repeat first | exact .here _ _ | assumption | apply Pick.there)).pick (A := blkA g2 60 [.pointer (some ⟨g, 0, none⟩)]) (by repeat first | exact .here _ _ | assumption | apply Pick.there))⟩ (fun w hI => q_mv (.int _ _) rfl) ?_
              refine p_q hap hsel 3 rfl rfl ⟨_, ((hS.pick (A := blkA g3 45 [.int .u64 (i : Int), .int .u64 (t : Int), .slice A68 bs.length c68]) (by repeat first | exact .here _ _ | assumption | apply Pick.there)).pick (A := blkA g2 60 [.pointer (some ⟨g, 0, none⟩)]) (by repeat first | exact .here _ _ | assumption | apply Pick.there))⟩ (fun w hI => q_load_blk Try.isAgg45 Try.sizeOf45 rfl (hI.choose_spec.blk (by repeat first | exact .here _ _ | assumption | apply Pick.there)) rfl) ?_
              refine p_q hap hsel 4 rfl rfl ⟨_, ((hS.pick (A := blkA g3 45 [.int .u64 (i : Int), .int .u64 (t : Int), .slice A68 bs.length c68]) (by repeat first | exact .here _ _ | assumption | apply Pick.there)).pick (A := blkA g2 60 [.pointer (some ⟨g, 0, none⟩)]) (by repeat first | exact .here _ _ | assumption | apply Pick.there))⟩ (fun w hI => q_nilCheck rfl) ?_
              refine p_q hap hsel 5 rfl rfl ⟨_, ((hS.pick (A := blkA g3 45 [.int .u64 (i : Int), .int .u64 (t : Int), .slice A68 bs.length c68]) (by repeat first | exact .here _ _ | assumption | apply Pick.there)).pick (A := blkA g2 60 [.pointer (some ⟨g, 0, none⟩)]) (by repeat first | exact .here _ _ | assumption | apply Pick.there))⟩ (fun w hI => q_fieldAddr 3 Try.runUnderlying75 rfl Try.sizeOf3 (by decide) rfl rfl) ?_
              refine p_one 6 rfl (by kernel_rfl) ?_
              refine t_store (v := (.int _ _)) Try.sizeOf3 hS (by repeat first | exact .here _ _ | assumption | apply Pick.there) rfl rfl rfl rfl rfl rfl (fun w hS => ?_)
              refine t_nil ?_
              refine ⟨.inr ⟨_, ((hS.pick (A := blkA g3 45 [.int .u64 (i : Int), .int .u64 (t : Int), .slice A68 bs.length c68]) (by repeat first | exact .here _ _ | assumption | apply Pick.there)).pick (A := blkA g2 60 [.pointer (some ⟨g, 0, none⟩)]) (by repeat first | exact .here _ _ | assumption | apply Pick.there))⟩, ?_⟩
              refine p_q hap hsel 7 rfl rfl ⟨_, ((hS.pick (A := blkA g3 45 [.int .u64 (i : Int), .int .u64 (t : Int), .slice A68 bs.length c68]) (by repeat first | exact .here _ _ | assumption | apply Pick.there)).pick (A := blkA g2 60 [.pointer (some ⟨g, 0, none⟩)]) (by repeat first | exact .here _ _ | assumption | apply Pick.there))⟩ (fun w hI => q_nilCheck rfl) ?_
              refine p_q hap hsel 8 rfl rfl ⟨_, ((hS.pick (A := blkA g3 45 [.int .u64 (i : Int), .int .u64 (t : Int), .slice A68 bs.length c68]) (by repeat first | exact .here _ _ | assumption | apply Pick.there)).pick (A := blkA g2 60 [.pointer (some ⟨g, 0, none⟩)]) (by repeat first | exact .here _ _ | assumption | apply Pick.there))⟩ (fun w hI => q_fieldAddr 4 Try.runUnderlying75 rfl Try.sizeOf45 (by decide) rfl rfl) ?_
              refine p_one 9 rfl (by kernel_rfl) ?_
              refine t_store (v := (.agg _)) Try.sizeOf45 hS (by repeat first | exact .here _ _ | assumption | apply Pick.there) rfl rfl rfl rfl rfl rfl (fun w hS => ?_)
              replace hS := hS.recast (show blkA g 75 _ = blkA g 75 [.pointer (some ⟨gd, 0, none⟩), .int .i64 a.f0, .int .i64 (a.f0 + 1), .int .i64 (saTo a), .int .u64 (i : Int), .int .u64 (t : Int), .slice A68 bs.length c68, .bool (!(saP a d (⟨i, t, bs⟩ : Sn)).1)] from by rw [hto]; rfl)
              refine t_nil ?_
              refine ⟨.inl (by kernel_rfl), ?_⟩
              refine p_end (by kernel_rfl) ?_
              refine c_seq ?_
              refine c_region ?_
              refine t_q (q_assign) ?_
              refine t_nil ?_
              refine c_ret ?_
              refine r_one rfl rfl ?_
              first
                | (obtain ⟨e1, e2, e3⟩ := sa_1 (d := d) (s := (⟨i, t, bs⟩ : Sn)) hbr
                   rw [e1, e2, e3]
                   exact ⟨rfl, (St.unar a (((((((hS.pick (A := blkA g2 60 _) (by repeat first | exact .here _ _ | assumption | apply Pick.there)).pick (A := blkA g3 45 _) (by repeat first | exact .here _ _ | assumption | apply Pick.there)).drop.drop).pick (A := dskA gd d) (by repeat first | exact .here _ _ | assumption | apply Pick.there)).pick (A := rowA 5 1 As a.s.b.length cs (a.s.b.map bv)) (by repeat first | exact .here _ _ | assumption | apply Pick.there)).pick (A := blkA g 75 _) (by repeat first | exact .here _ _ | assumption | apply Pick.there))))⟩)
                | (obtain ⟨e1, e2, e3⟩ := sa_2 (d := d) (s := (⟨i, t, bs⟩ : Sn)) hbr (by show snE i t bs ≠ 0; omega)
                   rw [e1, e2, e3]
                   have hx := (St.unar { a with br := false } (((((((((hS.pick (A := blkA g5 25 _) (by repeat first | exact .here _ _ | assumption | apply Pick.there)).pick (A := rowA 5 1 A21 _ c21 _) (by repeat first | exact .here _ _ | assumption | apply Pick.there)).pick (A := blkA g2 60 _) (by repeat first | exact .here _ _ | assumption | apply Pick.there)).pick (A := blkA g3 45 _) (by repeat first | exact .here _ _ | assumption | apply Pick.there)).drop.drop.drop.drop).pick (A := dskA gd d) (by repeat first | exact .here _ _ | assumption | apply Pick.there)).pick (A := rowA 5 1 As a.s.b.length cs (a.s.b.map bv)) (by repeat first | exact .here _ _ | assumption | apply Pick.there)).pick (A := blkA g 75 _) (by repeat first | exact .here _ _ | assumption | apply Pick.there))))
                   rw [ar_eq hbr] at hx
                   exact ⟨rfl, hx⟩)
                | (obtain ⟨e1, e2, e3⟩ := sa_3 (d := d) (s := (⟨i, t, bs⟩ : Sn)) hbr hE0 hold
                   rw [e1, e2, e3]
                   have hx := (St.unar { a with br := false } (((((((((hS.pick (A := blkA g5 25 _) (by repeat first | exact .here _ _ | assumption | apply Pick.there)).pick (A := rowA 5 1 A21 _ c21 _) (by repeat first | exact .here _ _ | assumption | apply Pick.there)).pick (A := blkA g2 60 _) (by repeat first | exact .here _ _ | assumption | apply Pick.there)).pick (A := blkA g3 45 _) (by repeat first | exact .here _ _ | assumption | apply Pick.there)).drop.drop.drop.drop).pick (A := dskA gd d) (by repeat first | exact .here _ _ | assumption | apply Pick.there)).pick (A := rowA 5 1 As a.s.b.length cs (a.s.b.map bv)) (by repeat first | exact .here _ _ | assumption | apply Pick.there)).pick (A := blkA g 75 _) (by repeat first | exact .here _ _ | assumption | apply Pick.there))))
                   rw [ar_eq hbr] at hx
                   exact ⟨rfl, hx⟩)
                | (obtain ⟨e1, e2, e3⟩ := sa_4 (d := d) (s := (⟨i, t, bs⟩ : Sn)) hbr hE0 hold hP
                   rw [e1, e2, e3]
                   rw [hP] at hS
                   exact ⟨rfl, (St.unar { a with br := true } (((((((((((hS.pick (A := blkA g9 3 _) (by repeat first | exact .here _ _ | assumption | apply Pick.there)).pick (A := blkA g8 3 _) (by repeat first | exact .here _ _ | assumption | apply Pick.there)).pick (A := blkA g5 25 _) (by repeat first | exact .here _ _ | assumption | apply Pick.there)).pick (A := rowA 5 1 A21 _ c21 _) (by repeat first | exact .here _ _ | assumption | apply Pick.there)).pick (A := blkA g2 60 _) (by repeat first | exact .here _ _ | assumption | apply Pick.there)).pick (A := blkA g3 45 _) (by repeat first | exact .here _ _ | assumption | apply Pick.there)).drop.drop.drop.drop.drop.drop).pick (A := dskA gd (saP a d (⟨i, t, bs⟩ : Sn)).2) (by repeat first | exact .here _ _ | assumption | apply Pick.there)).pick (A := rowA 5 1 As a.s.b.length cs (a.s.b.map bv)) (by repeat first | exact .here _ _ | assumption | apply Pick.there)).pick (A := blkA g 75 _) (by repeat first | exact .here _ _ | assumption | apply Pick.there))))⟩)
                | (obtain ⟨e1, e2, e3⟩ := sa_5 (d := d) (s := (⟨i, t, bs⟩ : Sn)) hbr hE0 hold hP
                   rw [e1, e2, e3]
                   rw [hP] at hS
                   exact ⟨rfl, (St.unar ⟨a.f0, saTo a, (⟨i, t, bs⟩ : Sn), false⟩ ((((((((((((hS.pick (A := rowA 5 1 As a.s.b.length cs (a.s.b.map bv)) (by repeat first | exact .here _ _ | assumption | apply Pick.there)).pick (A := blkA g9 3 _) (by repeat first | exact .here _ _ | assumption | apply Pick.there)).pick (A := blkA g8 3 _) (by repeat first | exact .here _ _ | assumption | apply Pick.there)).pick (A := blkA g5 25 _) (by repeat first | exact .here _ _ | assumption | apply Pick.there)).pick (A := rowA 5 1 A21 _ c21 _) (by repeat first | exact .here _ _ | assumption | apply Pick.there)).pick (A := blkA g2 60 _) (by repeat first | exact .here _ _ | assumption | apply Pick.there)).pick (A := blkA g3 45 _) (by repeat first | exact .here _ _ | assumption | apply Pick.there)).drop.drop.drop.drop.drop.drop.drop).pick (A := dskA gd (saP a d (⟨i, t, bs⟩ : Sn)).2) (by repeat first | exact .here _ _ | assumption | apply Pick.there)).pick (A := rowA 5 1 A68 _ c68 _) (by repeat first | exact .here _ _ | assumption | apply Pick.there)).pick (A := blkA g 75 _) (by repeat first | exact .here _ _ | assumption | apply Pick.there))))⟩)
set_option maxRecDepth 100000 in
theorem save_nil {v : Value} {cs : List Value} (hv : v = .agg cs.toArray) : Calls Try.prog 35 #[.pointer none, v] W fun e w' => e = .returned (.int .i64 1) ∧ St W w' [] := by
  subst hv
  have hS := St.init W
  refine calls_of_wpE (args := [_, _]) Try.func35 rfl rfl rfl ?_
  refine c_seq ?_
  refine c_region ?_
  refine t_box (v := (.pointer _)) rfl rfl hS (fun g2 w hS => ?_)
  refine t_box (v := (.agg _)) rfl rfl hS (fun g3 w hS => ?_)
  refine t_q (q_assign) ?_
  refine t_nil ?_
  refine c_seq ?_
  refine c_block ?_
  refine c_seq ?_
  refine c_region ?_
  refine t_q (q_load1 Try.isAgg60 rfl (hS.cell (by repeat first | exact .here _ _ | assumption | apply Pick.there) rfl)) ?_
  refine t_call Try.call86 (none_nil) rfl ?_
  rintro e w ⟨rfl, hT⟩
  refine ⟨_, rfl, ?_⟩
  replace hS := hS.after hT
  refine t_q (q_as (.bool _) rfl) ?_
  refine t_nil ?_
  refine c_cond_t rfl rfl ?_
  refine c_seq ?_
  refine c_region ?_
  refine t_q (q_assign) ?_
  refine t_nil ?_
  refine c_ret ?_
  refine r_one rfl rfl ?_
  exact ⟨rfl, hS.nil⟩
end Go.Proofs.Ytlppgpidakfnlaa
