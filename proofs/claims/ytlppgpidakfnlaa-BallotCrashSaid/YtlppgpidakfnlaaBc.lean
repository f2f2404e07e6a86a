/- What a file tells: the program's walk. -/
import Derived.Test.YtlppgpidakfnlaaBb
import Derived.Test.YtlppgpidakfnlaaPd
namespace Go.Proofs.Ytlppgpidakfnlaa
open Go Go.RowKit Go.Lib
variable {W : World}
def flA (bs : List UInt8) (g2 k : Nat) : Asn := exA fun r : Rc => pureA (FlI bs k r) (blkA g2 105 [.int .u64 ((r).1 : Int), .int .u64 ((r).2 : Int)])
theorem St.fl {w : World} {R : List Asn} {bs : List UInt8} {g2 k : Nat} (h : St W w (flA bs g2 k :: R)) : ∃ r, FlI bs k r ∧ St W w (blkA g2 105 [.int .u64 ((r).1 : Int), .int .u64 ((r).2 : Int)] :: R) := by
  obtain ⟨r, h⟩ := h.ex
  obtain ⟨hI, h⟩ := h.pure
  exact ⟨r, hI, h⟩
theorem St.unfl {w : World} {R : List Asn} {bs : List UInt8} {g2 k : Nat} {r : Rc} (h : St W w (blkA g2 105 [.int .u64 ((r).1 : Int), .int .u64 ((r).2 : Int)] :: R)) (hI : FlI bs k r) : St W w (flA bs g2 k :: R) := St.unex r (St.unpure hI h)
def frA (bs : List UInt8) (g2 : Nat) : Asn := exA fun r : Rc => pureA (bfl bs (0, 0) = (r, false)) (blkA g2 105 [.int .u64 ((r).1 : Int), .int .u64 ((r).2 : Int)])
theorem St.brt {w : World} {R : List Asn} {bs : List UInt8} {g2 : Nat} (h : St W w (frA bs g2 :: R)) : ∃ r, bfl bs (0, 0) = (r, false) ∧ St W w (blkA g2 105 [.int .u64 ((r).1 : Int), .int .u64 ((r).2 : Int)] :: R) := by
  obtain ⟨r, h⟩ := h.ex
  obtain ⟨hI, h⟩ := h.pure
  exact ⟨r, hI, h⟩
theorem St.unbrt {w : World} {R : List Asn} {bs : List UInt8} {g2 : Nat} {r : Rc} (h : St W w (blkA g2 105 [.int .u64 ((r).1 : Int), .int .u64 ((r).2 : Int)] :: R)) (hI : bfl bs (0, 0) = (r, false)) : St W w (frA bs g2 :: R) := St.unex r (St.unpure hI h)
attribute [local irreducible] blkA rowA rdrA
set_option maxHeartbeats 1000000 in
set_option maxRecDepth 100000 in
theorem bfile_calls {A : Option Addr} {c : Nat} {bs : List UInt8} (hR : RdB W A bs) (hc : bs.length ≤ c ∧ bs.length ≤ 100000000) : Calls Try.prog 135 #[.slice A bs.length c] W fun e w' => e = .returned (.tuple #[.agg #[.int .u64 (((bfl bs (0, 0)).1).1 : Int), .int .u64 (((bfl bs (0, 0)).1).2 : Int)], .bool (bfl bs (0, 0)).2]) ∧ St W w' [] := by
  have hS := St.init W
  refine calls_of_wpM (args := [_]) Try.func135 rfl rfl rfl ?_
  refine m_seq ?_
  refine m_of ?_
  refine c_region ?_
  refine t_alloc Try.zeroValue105 rfl hS (fun g2 w hS => ?_)
  refine t_alloc Try.zeroValue4 rfl hS (fun g3 w hS => ?_)
  refine t_nil ?_
  refine m_seq ?_
  refine m_seq ?_
  refine m_of ?_
  refine c_region ?_
  refine t_q (q_mv (.slice _ _ _) rfl) ?_
  refine t_call Try.call23 (each_calls hS) rfl ?_
  rintro e w ⟨gE, rfl, hS⟩
  refine ⟨_, rfl, ?_⟩
  refine t_nil ?_
  refine m_block ?_
  replace hS : St W w [blkA gE 25 [.slice A bs.length c], flA bs g2 ([] : List It).length, blkA g3 4 [.bool false]] := (St.unfl (r := (0, 0)) ((((hS.pick (A := blkA g3 4 _) (by repeat first | exact .here _ _ | assumption | apply Pick.there)).pick (A := blkA gE 25 [.slice A bs.length c]) (by repeat first | exact .here _ _ | assumption | apply Pick.there)).pick (A := blkA g2 105 _) (by repeat first | exact .here _ _ | assumption | apply Pick.there))) (fl_0 bs)).pick (A := blkA gE 25 [.slice A bs.length c]) (by repeat first | exact .here _ _ | assumption | apply Pick.there)
  refine m_range (encs := It.vals) (gf := 74) (fun pre => [blkA gE 25 [.slice A bs.length c], flA bs g2 pre.length, blkA g3 4 [.bool false]]) (fun i _ => match i with | some _ => [pureA False (blkA 0 0 [])] | none => [frA bs g2, blkA g3 4 [.bool false]]) (It.give) (It.nxt bs) (fun xs => whole bs xs.length = true ∧ tkE (bs.drop (pos bs xs.length)) ≠ 0) ?env hS rfl Try.call74 (fun _ => rfl) ?ass ?body ?hit ?done ?exit ?ret
  case ass =>
    intro x w K hK
    refine c_seq ?_
    refine c_region ?_
    refine t_q (q_as (.int _ _) rfl) ?_
    refine t_nil ?_
    refine c_region ?_
    refine t_q (q_as (.slice _ _ _) rfl) ?_
    refine t_nil ?_
    exact hK
  case body =>
    intro E pre x w hn hS
    obtain ⟨hw2, hkx, hlx⟩ := hn
    have hw0 : whole bs pre.length = true := by rw [whole, Bool.and_eq_true] at hw2; exact hw2.1
    have he0 : tkE (bs.drop (pos bs pre.length)) = 0 := by rw [whole, Bool.and_eq_true, decide_eq_true_eq] at hw2; exact hw2.2
    have hnl := (tk_zero he0).2.2.2
    have hxl : x.l.length ≤ 100000000 := by
      rw [hlx, (tk_ok he0).2.1, List.length_take]; omega
    replace hS : St W w (rowA 5 1 x.A x.l.length x.c (x.l.map bv) :: blkA gE 25 [.slice A bs.length c] :: flA bs g2 pre.length :: blkA g3 4 [.bool false] :: E) := hS
    have hxle := hS.row_le (.here _ _)
    obtain ⟨r, hI, hS⟩ := (hS.pick (A := flA bs g2 pre.length) (by repeat first | exact .here _ _ | assumption | apply Pick.there)).fl
    refine c_block ?_
    refine c_seq ?_
    refine c_region ?_
    refine t_q (q_mv (.int _ _) rfl) ?_
    refine t_q (q_mv (.slice _ _ _) rfl) ?_
    refine t_call Try.call153 (bread_calls (k := x.k) (b := x.l) (hS.rowRd (A := x.A) (c := x.c) (bs := x.l) (by repeat first | exact .here _ _ | assumption | apply Pick.there) rfl) ⟨hxle, by omega⟩) rfl ?_
    rintro e w ⟨rfl, hT⟩
    refine ⟨_, rfl, ?_⟩
    replace hS := hS.after hT
    refine t_q (q_mv (.tuple _) rfl) ?_
    refine t_q (q_extract rfl rfl) ?_
    refine t_q (q_extract rfl rfl) ?_
    refine t_alloc Try.zeroValue105 rfl hS (fun g6 w hS => ?_)
    refine t_store (v := (.agg _)) Try.sizeOf105 hS (by repeat first | exact .here _ _ | assumption | apply Pick.there) rfl rfl rfl rfl rfl rfl (fun w hS => ?_)
    replace hS := hS.recast (show blkA g6 105 _ = blkA g6 105 [.int .u64 ((brc x.l).1 : Int), .int .u64 ((brc x.l).2 : Int)] from rfl)
    refine t_q (q_as (.bool _) rfl) ?_
    refine t_nil ?_
    refine c_seq ?_
    refine c_seq ?_
    refine c_region ?_
    refine t_q (q_mv (.bool _) rfl) ?_
    refine t_q (q_not rfl) ?_
    refine t_q (q_mv (.bool _) rfl) ?_
    refine t_case 22 rfl ?_ ?_
    · intro hg5
      refine t_no rfl rfl (by rw [(congrArg not (not_back hg5))]; decide) ?_
      refine t_no rfl rfl (by rw [(congrArg not (not_back hg5))]; decide) ?_
      refine t_no rfl rfl (by rw [(congrArg not (not_back hg5))]; decide) ?_
      refine t_no rfl rfl (by rw [(congrArg not (not_back hg5))]; decide) ?_
      refine t_nu rfl rfl ?_
      refine t_nu rfl rfl ?_
      refine t_nu rfl rfl ?_
      refine t_nu rfl rfl ?_
      refine t_no rfl rfl (by rw [(congrArg not (not_back hg5))]; decide) ?_
      refine t_q (q_pick_t rfl (congrArg not (not_back hg5))) ?_
      refine t_nil ?_
      refine c_cond_t rfl rfl ?_
      have hF : bfl bs (0, 0) = (r, false) := fl_no hI he0 (by
        first
          | exact bst_no1 hkx hlx (by assumption)
          | exact bst_no2 hlx (by assumption) (by assumption))
      refine c_seq ?_
      refine c_region ?_
      refine t_q (q_load_blk Try.isAgg105 Try.sizeOf105 rfl (hS.blk (by repeat first | exact .here _ _ | assumption | apply Pick.there)) rfl) ?_
      refine t_store (v := (.agg _)) Try.sizeOf105 hS (by repeat first | exact .here _ _ | assumption | apply Pick.there) rfl rfl rfl rfl rfl rfl (fun w hS => ?_)
      replace hS := hS.recast (show blkA g2 105 _ = blkA g2 105 [.int .u64 ((r).1 : Int), .int .u64 ((r).2 : Int)] from rfl)
      refine t_store (v := (.bool _)) Try.sizeOf4 hS (by repeat first | exact .here _ _ | assumption | apply Pick.there) rfl rfl rfl rfl rfl rfl (fun w hS => ?_)
      refine t_nil ?_
      refine c_ret ?_
      show St W _ (frA bs g2 :: blkA g3 4 [.bool false] :: E)
      replace hS := (hS.pick (A := rowA 5 1 x.A x.l.length x.c (x.l.map bv)) (by repeat first | exact .here _ _ | assumption | apply Pick.there)).drop
      replace hS := (hS.pick (A := blkA g6 105 [.int .u64 ((brc x.l).1 : Int), .int .u64 ((brc x.l).2 : Int)]) (by repeat first | exact .here _ _ | assumption | apply Pick.there)).drop
      replace hS := (hS.pick (A := blkA gE 25 [.slice A bs.length c]) (by repeat first | exact .here _ _ | assumption | apply Pick.there)).drop
      exact St.unbrt (((hS.pick (A := blkA g3 4 [.bool false]) (by repeat first | exact .here _ _ | assumption | apply Pick.there)).pick (A := blkA g2 105 [.int .u64 ((r).1 : Int), .int .u64 ((r).2 : Int)]) (by repeat first | exact .here _ _ | assumption | apply Pick.there))) hF
    · intro hg5
      refine t_yes rfl rfl (congrArg not (not_back hg5)) ?_
      refine t_q (q_load_blk Try.isAgg105 Try.sizeOf105 rfl (hS.blk (by repeat first | exact .here _ _ | assumption | apply Pick.there)) rfl) ?_
      refine t_yes rfl rfl (congrArg not (not_back hg5)) ?_
      refine t_q (q_load_blk Try.isAgg105 Try.sizeOf105 rfl (hS.blk (by repeat first | exact .here _ _ | assumption | apply Pick.there)) rfl) ?_
      refine t_yes rfl rfl (congrArg not (not_back hg5)) ?_
      refine t_q (rc_ne105 (e := brc x.l) (q := r) rfl rfl (rec_in _) hI.2) ?_
      refine t_yes rfl rfl (congrArg not (not_back hg5)) ?_
      refine t_q (q_mv (.bool _) rfl) ?_
      refine t_case 26 rfl ?_ ?_
      · intro hg7
        refine t_yes rfl rfl hg7 ?_
        refine t_q (q_load_blk Try.isAgg105 Try.sizeOf105 rfl (hS.blk (by repeat first | exact .here _ _ | assumption | apply Pick.there)) rfl) ?_
        refine t_yes rfl rfl hg7 ?_
        refine t_q (q_load_blk Try.isAgg105 Try.sizeOf105 rfl (hS.blk (by repeat first | exact .here _ _ | assumption | apply Pick.there)) rfl) ?_
        refine t_yes rfl rfl hg7 ?_
        refine t_call Try.call99 (babv_calls (r := brc x.l) (x := r)) rfl ?_
        rintro e w ⟨rfl, hT⟩
        refine ⟨_, rfl, ?_⟩
        replace hS := hS.after hT
        refine t_yes rfl rfl hg7 ?_
        refine t_q (q_not rfl) ?_
        refine t_yes rfl rfl (congrArg not (not_back hg5)) ?_
        refine t_q (q_pick_t rfl hg7) ?_
        refine t_q (q_pick_f rfl (congrArg not (not_back hg5))) ?_
        refine t_nil ?_
        refine c_cond rfl ?_ ?_
        · intro hc9
          have hF : bfl bs (0, 0) = (r, false) := fl_no hI he0 (by
            first
              | exact bst_no1 hkx hlx (by assumption)
              | exact bst_no2 hlx (by assumption) (by assumption))
          refine c_seq ?_
          refine c_region ?_
          refine t_q (q_load_blk Try.isAgg105 Try.sizeOf105 rfl (hS.blk (by repeat first | exact .here _ _ | assumption | apply Pick.there)) rfl) ?_
          refine t_store (v := (.agg _)) Try.sizeOf105 hS (by repeat first | exact .here _ _ | assumption | apply Pick.there) rfl rfl rfl rfl rfl rfl (fun w hS => ?_)
          replace hS := hS.recast (show blkA g2 105 _ = blkA g2 105 [.int .u64 ((r).1 : Int), .int .u64 ((r).2 : Int)] from rfl)
          refine t_store (v := (.bool _)) Try.sizeOf4 hS (by repeat first | exact .here _ _ | assumption | apply Pick.there) rfl rfl rfl rfl rfl rfl (fun w hS => ?_)
          refine t_nil ?_
          refine c_ret ?_
          show St W _ (frA bs g2 :: blkA g3 4 [.bool false] :: E)
          replace hS := (hS.pick (A := rowA 5 1 x.A x.l.length x.c (x.l.map bv)) (by repeat first | exact .here _ _ | assumption | apply Pick.there)).drop
          replace hS := (hS.pick (A := blkA g6 105 [.int .u64 ((brc x.l).1 : Int), .int .u64 ((brc x.l).2 : Int)]) (by repeat first | exact .here _ _ | assumption | apply Pick.there)).drop
          replace hS := (hS.pick (A := blkA gE 25 [.slice A bs.length c]) (by repeat first | exact .here _ _ | assumption | apply Pick.there)).drop
          exact St.unbrt (((hS.pick (A := blkA g3 4 [.bool false]) (by repeat first | exact .here _ _ | assumption | apply Pick.there)).pick (A := blkA g2 105 [.int .u64 ((r).1 : Int), .int .u64 ((r).2 : Int)]) (by repeat first | exact .here _ _ | assumption | apply Pick.there))) hF
        · intro hc9
          have hB := fl_more hI he0 (by
            first
              | exact bst_y1 hkx hlx (by assumption) (by assumption)
              | exact bst_y2 hkx hlx (by assumption) (by assumption))
          refine c_skip ?_
          refine c_region ?_
          refine t_q (q_load_blk Try.isAgg105 Try.sizeOf105 rfl (hS.blk (by repeat first | exact .here _ _ | assumption | apply Pick.there)) rfl) ?_
          refine t_store (v := (.agg _)) Try.sizeOf105 hS (by repeat first | exact .here _ _ | assumption | apply Pick.there) rfl rfl rfl rfl rfl rfl (fun w hS => ?_)
          replace hS := hS.recast (show blkA g2 105 _ = blkA g2 105 [.int .u64 ((brc x.l).1 : Int), .int .u64 ((brc x.l).2 : Int)] from rfl)
          refine t_nil ?_
          show St W _ (blkA gE 25 [.slice A bs.length c] :: flA bs g2 (pre ++ [x]).length :: blkA g3 4 [.bool false] :: E)
          rw [show (pre ++ [x]).length = pre.length + 1 by simp]
          replace hS := (hS.pick (A := rowA 5 1 x.A x.l.length x.c (x.l.map bv)) (by repeat first | exact .here _ _ | assumption | apply Pick.there)).drop
          replace hS := (hS.pick (A := blkA g6 105 [.int .u64 ((brc x.l).1 : Int), .int .u64 ((brc x.l).2 : Int)]) (by repeat first | exact .here _ _ | assumption | apply Pick.there)).drop
          have hx2 : brc x.l = brd (bs.drop (pos bs pre.length)) := by rw [hlx]; rfl
          exact (St.unfl ((((hS.pick (A := blkA g3 4 [.bool false]) (by repeat first | exact .here _ _ | assumption | apply Pick.there)).pick (A := blkA gE 25 [.slice A bs.length c]) (by repeat first | exact .here _ _ | assumption | apply Pick.there)).pick (A := blkA g2 105 [.int .u64 ((brc x.l).1 : Int), .int .u64 ((brc x.l).2 : Int)]) (by repeat first | exact .here _ _ | assumption | apply Pick.there))) (by rw [hx2]; exact hB)).pick (A := blkA gE 25 [.slice A bs.length c]) (by repeat first | exact .here _ _ | assumption | apply Pick.there)
      · intro hg7
        refine t_no rfl rfl (by rw [hg7]; decide) ?_
        refine t_no rfl rfl (by rw [hg7]; decide) ?_
        refine t_no rfl rfl (by rw [hg7]; decide) ?_
        refine t_no rfl rfl (by rw [hg7]; decide) ?_
        refine t_yes rfl rfl (congrArg not (not_back hg5)) ?_
        refine t_q (q_pick_f rfl hg7) ?_
        refine t_q (q_pick_f rfl (congrArg not (not_back hg5))) ?_
        refine t_nil ?_
        refine c_cond_f rfl rfl ?_
        have hB := fl_more hI he0 (by
          first
            | exact bst_y1 hkx hlx (by assumption) (by assumption)
            | exact bst_y2 hkx hlx (by assumption) (by assumption))
        refine c_skip ?_
        refine c_region ?_
        refine t_q (q_load_blk Try.isAgg105 Try.sizeOf105 rfl (hS.blk (by repeat first | exact .here _ _ | assumption | apply Pick.there)) rfl) ?_
        refine t_store (v := (.agg _)) Try.sizeOf105 hS (by repeat first | exact .here _ _ | assumption | apply Pick.there) rfl rfl rfl rfl rfl rfl (fun w hS => ?_)
        replace hS := hS.recast (show blkA g2 105 _ = blkA g2 105 [.int .u64 ((brc x.l).1 : Int), .int .u64 ((brc x.l).2 : Int)] from rfl)
        refine t_nil ?_
        show St W _ (blkA gE 25 [.slice A bs.length c] :: flA bs g2 (pre ++ [x]).length :: blkA g3 4 [.bool false] :: E)
        rw [show (pre ++ [x]).length = pre.length + 1 by simp]
        replace hS := (hS.pick (A := rowA 5 1 x.A x.l.length x.c (x.l.map bv)) (by repeat first | exact .here _ _ | assumption | apply Pick.there)).drop
        replace hS := (hS.pick (A := blkA g6 105 [.int .u64 ((brc x.l).1 : Int), .int .u64 ((brc x.l).2 : Int)]) (by repeat first | exact .here _ _ | assumption | apply Pick.there)).drop
        have hx2 : brc x.l = brd (bs.drop (pos bs pre.length)) := by rw [hlx]; rfl
        exact (St.unfl ((((hS.pick (A := blkA g3 4 [.bool false]) (by repeat first | exact .here _ _ | assumption | apply Pick.there)).pick (A := blkA gE 25 [.slice A bs.length c]) (by repeat first | exact .here _ _ | assumption | apply Pick.there)).pick (A := blkA g2 105 [.int .u64 ((brc x.l).1 : Int), .int .u64 ((brc x.l).2 : Int)]) (by repeat first | exact .here _ _ | assumption | apply Pick.there))) (by rw [hx2]; exact hB)).pick (A := blkA gE 25 [.slice A bs.length c]) (by repeat first | exact .here _ _ | assumption | apply Pick.there)
  case hit =>
    intro l J Jx h1 h2 h3 hY w h0
    exact each1_calls hR hc (fun pre M w h => by obtain ⟨E, hS⟩ := h1 pre M w h; exact ⟨_, hS⟩) h2 h3 hY h0
  case exit =>
    intro D1 i pre w hS
    replace hS : St W w [pureA False (blkA 0 0 []), objA D1 doneObj] := hS
    exact hS.pure.1.elim
  case ret =>
    intro D1 pre w hS
    replace hS : St W w [frA bs g2, blkA g3 4 [.bool false], objA D1 doneObj] := hS
    obtain ⟨r, hF, hS⟩ := hS.brt
    refine l_mark (hS.obj (g := D1) (by repeat first | exact .here _ _ | assumption | apply Pick.there)) ?_
    replace hS := (hS.pick (A := objA D1 _) (by repeat first | exact .here _ _ | assumption | apply Pick.there)).setObj (.deferred none)
    refine l_nil ?_
    refine r_two rfl (res1_cellN Try.isAgg105 Try.sizeOf105 rfl (hS.blk (by repeat first | exact .here _ _ | assumption | apply Pick.there)) rfl) (res1_cell1 Try.isAgg4 rfl (hS.cell (by repeat first | exact .here _ _ | assumption | apply Pick.there) rfl)) ?_
    first
      | (rw [hF]; exact ⟨rfl, hS.nil⟩)
      | (rw [hF, end_yes (by omega) hne]; exact ⟨rfl, hS.nil⟩)
      | (rw [hF, end_no (k := xs.length) (by omega)]; exact ⟨rfl, hS.nil⟩)
  case done =>
    intro D1 xs w hx hS
    replace hS : St W w [blkA gE 25 [.slice A bs.length c], flA bs g2 xs.length, blkA g3 4 [.bool false], objA D1 doneObj] := hS
    obtain ⟨hw, hne⟩ := hx
    obtain ⟨r, hI, hS⟩ := (hS.pick (A := flA bs g2 xs.length) (by repeat first | exact .here _ _ | assumption | apply Pick.there)).fl
    have hF := fl_end hI hne
    refine m_of ?_
    refine c_seq ?_
    refine c_region ?_
    refine t_q (q_mv (.slice _ _ _) rfl) ?_
    refine t_call Try.call21 (end_calls (hR.st hS) ⟨hc.1, by omega⟩) rfl ?_
    rintro e w ⟨kk, hw2, hne2, rfl, hT⟩
    refine ⟨_, rfl, ?_⟩
    replace hS := hS.after hT
    obtain rfl := whole_uniq hw2 hne2 hw hne
    refine t_q (q_mv (.tuple _) rfl) ?_
    refine t_q (q_extract rfl rfl) ?_
    refine t_q (q_extract rfl rfl) ?_
    refine t_q (q_as (.int _ _) rfl) ?_
    refine t_q (q_as (.int _ _) rfl) ?_
    refine t_nil ?_
    refine c_seq ?_
    refine c_region ?_
    refine t_q (q_load_blk Try.isAgg105 Try.sizeOf105 rfl (hS.blk (by repeat first | exact .here _ _ | assumption | apply Pick.there)) rfl) ?_
    refine t_q (q_mv (.int _ _) rfl) ?_
    refine t_q (q_eql rfl rfl) ?_
    refine t_q (q_mv (.bool _) rfl) ?_
    refine t_case 43 rfl ?_ ?_
    · intro hg14
      have hg14d := of_decide_eq_true hg14
      refine t_no rfl rfl (by rw [hg14]; decide) ?_
      refine t_no rfl rfl (by rw [hg14]; decide) ?_
      refine t_q (q_pick_t rfl hg14) ?_
      refine t_store (v := (.agg _)) Try.sizeOf105 hS (by repeat first | exact .here _ _ | assumption | apply Pick.there) rfl rfl rfl rfl rfl rfl (fun w hS => ?_)
      replace hS := hS.recast (show blkA g2 105 _ = blkA g2 105 [.int .u64 ((r).1 : Int), .int .u64 ((r).2 : Int)] from rfl)
      refine t_store (v := (.bool _)) Try.sizeOf4 hS (by repeat first | exact .here _ _ | assumption | apply Pick.there) rfl rfl rfl rfl rfl rfl (fun w hS => ?_)
      refine t_nil ?_
      refine c_ret ?_
      refine l_mark (hS.obj (g := D1) (by repeat first | exact .here _ _ | assumption | apply Pick.there)) ?_
      replace hS := (hS.pick (A := objA D1 _) (by repeat first | exact .here _ _ | assumption | apply Pick.there)).setObj (.deferred none)
      refine l_nil ?_
      refine r_two rfl (res1_cellN Try.isAgg105 Try.sizeOf105 rfl (hS.blk (by repeat first | exact .here _ _ | assumption | apply Pick.there)) rfl) (res1_cell1 Try.isAgg4 rfl (hS.cell (by repeat first | exact .here _ _ | assumption | apply Pick.there) rfl)) ?_
      first
        | (rw [hF]; exact ⟨rfl, hS.nil⟩)
        | (rw [hF, end_yes (by omega) hne]; exact ⟨rfl, hS.nil⟩)
        | (rw [hF, end_no (k := xs.length) (by omega)]; exact ⟨rfl, hS.nil⟩)
    · intro hg14
      have hg14d := of_decide_eq_false hg14
      refine t_yes rfl rfl hg14 ?_
      refine t_q (q_mv (.int _ _) rfl) ?_
      refine t_yes rfl rfl hg14 ?_
      refine t_q (q_eql rfl rfl) ?_
      refine t_q (q_pick_f rfl hg14) ?_
      refine t_store (v := (.agg _)) Try.sizeOf105 hS (by repeat first | exact .here _ _ | assumption | apply Pick.there) rfl rfl rfl rfl rfl rfl (fun w hS => ?_)
      replace hS := hS.recast (show blkA g2 105 _ = blkA g2 105 [.int .u64 ((r).1 : Int), .int .u64 ((r).2 : Int)] from rfl)
      refine t_store (v := (.bool _)) Try.sizeOf4 hS (by repeat first | exact .here _ _ | assumption | apply Pick.there) rfl rfl rfl rfl rfl rfl (fun w hS => ?_)
      refine t_nil ?_
      refine c_ret ?_
      refine l_mark (hS.obj (g := D1) (by repeat first | exact .here _ _ | assumption | apply Pick.there)) ?_
      replace hS := (hS.pick (A := objA D1 _) (by repeat first | exact .here _ _ | assumption | apply Pick.there)).setObj (.deferred none)
      refine l_nil ?_
      refine r_two rfl (res1_cellN Try.isAgg105 Try.sizeOf105 rfl (hS.blk (by repeat first | exact .here _ _ | assumption | apply Pick.there)) rfl) (res1_cell1 Try.isAgg4 rfl (hS.cell (by repeat first | exact .here _ _ | assumption | apply Pick.there) rfl)) ?_
      first
        | (rw [hF]; exact ⟨rfl, hS.nil⟩)
        | (rw [hF, end_yes (by omega) hne]; exact ⟨rfl, hS.nil⟩)
        | (rw [hF, end_no (k := xs.length) (by omega)]; exact ⟨rfl, hS.nil⟩)
set_option maxHeartbeats 1000000 in
set_option maxRecDepth 100000 in
theorem qbfile_calls {A : Option Addr} {c : Nat} {bs : List UInt8} (hR : RdB W A bs) (hc : bs.length ≤ c ∧ bs.length ≤ 100000000) : Calls Try.prog 101 #[.slice A bs.length c] W fun e w' => e = .returned (.tuple #[.agg #[.int .u64 (((bfl bs (0, 0)).1).1 : Int), .int .u64 (((bfl bs (0, 0)).1).2 : Int)], .bool (bfl bs (0, 0)).2]) ∧ St W w' [] := by
  have hS := St.init W
  refine calls_of_wpE (args := [_]) Try.func101 rfl rfl rfl ?_
  refine c_seq ?_
  refine c_region ?_
  refine t_alloc Try.zeroValue89 rfl hS (fun g2 w hS => ?_)
  refine t_q (q_assign) ?_
  refine t_nil ?_
  refine c_seq ?_
  refine c_region ?_
  refine t_alloc Try.zeroValue89 rfl hS (fun g4 w hS => ?_)
  refine t_nil ?_
  refine c_seq ?_
  refine c_block ?_
  refine c_loop [0, 3, 5, 6, 7, 8, 9, 10, 11, 12, 13, 14, 15, 16, 17, 18, 19, 20, 21, 22, 23, 24, 25, 26, 27, 28, 29, 30, 31, 32, 33, 34, 35, 36, 37, 38, 39, 40, 41, 42, 43, 44, 45, 46, 47, 48, 49, 50, 51, 52, 53, 54, 55, 56, 57, 58] (fun k σ w => ∃ (j : Nat) (B : Option Addr) (r : Rc), σ 0 = .slice B (bs.drop (pos bs j)).length (c - pos bs j) ∧ RdB W B (bs.drop (pos bs j)) ∧ whole bs j = true ∧ FlI bs j r ∧ bs.length - pos bs j ≤ k ∧ St W w [blkA g4 89 [.int .u64 ((r).1 : Int), .int .u64 ((r).2 : Int)], blkA g2 89 [.int .u64 0, .int .u64 0]]) (bs.length) rfl (⟨0, A, (0, 0), rfl, hR, rfl, fl_0 bs, Nat.le_refl _, ((hS.pick (A := blkA g2 89 _) (by repeat first | exact .here _ _ | assumption | apply Pick.there)).pick (A := blkA g4 89 _) (by repeat first | exact .here _ _ | assumption | apply Pick.there))⟩) ?_
  skip
  rintro k σ w ⟨j, B, r, h0', hB, hw, hI, hk, hS⟩
  refine c_know 0 h0' ?_
  clear h0'
  have hpl := pos_le hw
  have hdl : (bs.drop (pos bs j)).length = bs.length - pos bs j := List.length_drop
  refine c_seq ?_
  refine c_seq ?_
  refine c_region ?_
  refine t_q (q_mv (.slice _ _ _) rfl) ?_
  refine t_q (q_len_slice Try.runUnderlying25 rfl) ?_
  refine t_q (q_gtr rfl rfl) ?_
  refine t_nil ?_
  refine c_cond rfl ?_ ?_
  · intro hc2
    have hc2d := of_decide_eq_true hc2
    refine c_skip ?_
    refine c_block ?_
    refine c_seq ?_
    refine c_region ?_
    refine t_q (q_mv (.slice _ _ _) rfl) ?_
    refine t_call Try.call24 (qtake_calls (hB.st hS) ⟨by rw [List.length_drop]; omega, by rw [List.length_drop]; omega⟩) rfl ?_
    rintro e w ⟨A16, m16, c16, rfl, hm16, hT⟩
    refine ⟨_, rfl, ?_⟩
    have hS : St W w (_ :: _) := hS.lift hT
    subst hm16
    have hle16 := hS.row_le (t := 5) (size := 1) (A := A16) (c := c16) (by repeat first | exact .here _ _ | assumption | apply Pick.there)
    refine t_q (q_mv (.tuple _) rfl) ?_
    refine t_q (q_extract rfl rfl) ?_
    refine t_q (q_extract rfl rfl) ?_
    refine t_q (q_extract rfl rfl) ?_
    refine t_q (q_extract rfl rfl) ?_
    refine t_q (q_as (.int _ _) rfl) ?_
    refine t_q (q_as (.slice _ _ _) rfl) ?_
    refine t_q (q_as (.int _ _) rfl) ?_
    refine t_q (q_as (.int _ _) rfl) ?_
    refine t_nil ?_
    refine c_seq ?_
    refine c_seq ?_
    refine c_region ?_
    refine t_q (q_mv (.int _ _) rfl) ?_
    refine t_q (q_eql rfl rfl) ?_
    refine t_nil ?_
    refine c_cond rfl ?_ ?_
    · intro hc9
      have hc9d := of_decide_eq_true hc9
      have hF : bfl bs (0, 0) = (r, true) := by rw [fl_end hI (by omega), decide_eq_true (by omega)]
      refine c_seq ?_
      refine c_region ?_
      refine t_q (q_load_blk Try.isAgg89 Try.sizeOf89 rfl (hS.blk (by repeat first | exact .here _ _ | assumption | apply Pick.there)) rfl) ?_
      refine t_store (v := (.agg _)) Try.sizeOf89 hS (by repeat first | exact .here _ _ | assumption | apply Pick.there) rfl rfl rfl rfl rfl rfl (fun w hS => ?_)
      replace hS := hS.recast (show blkA g2 89 _ = blkA g2 89 [.int .u64 ((r).1 : Int), .int .u64 ((r).2 : Int)] from rfl)
      refine t_q (q_assign) ?_
      refine t_nil ?_
      refine c_ret ?_
      refine r_two rfl (res1_cellN Try.isAgg89 Try.sizeOf89 rfl (hS.blk (by repeat first | exact .here _ _ | assumption | apply Pick.there)) rfl) rfl ?_
      rw [hF]
      exact ⟨rfl, hS.nil⟩
    · intro hc9
      have hc9d := of_decide_eq_false hc9
      refine c_skip ?_
      refine c_seq ?_
      refine c_seq ?_
      refine c_region ?_
      refine t_q (q_mv (.int _ _) rfl) ?_
      refine t_q (q_neq rfl rfl) ?_
      refine t_q (q_mv (.bool _) rfl) ?_
      refine t_case 26 rfl ?_ ?_
      · intro hg11
        have hg11d := of_decide_eq_true hg11
        refine t_no rfl rfl (by rw [hg11]; decide) ?_
        refine t_no rfl rfl (by rw [hg11]; decide) ?_
        refine t_q (q_pick_t rfl hg11) ?_
        refine t_nil ?_
        refine c_cond_t rfl rfl ?_
        have hF : bfl bs (0, 0) = (r, false) := by
          by_cases h0 : tkE (bs.drop (pos bs j)) = 0
          · exact fl_no hI h0 fun hh => by
              have h4 := (of_decide_eq_true hh.1).1
              omega
          · rw [fl_end hI h0, decide_eq_false (by omega)]
        refine c_seq ?_
        refine c_region ?_
        refine t_q (q_load_blk Try.isAgg89 Try.sizeOf89 rfl (hS.blk (by repeat first | exact .here _ _ | assumption | apply Pick.there)) rfl) ?_
        refine t_store (v := (.agg _)) Try.sizeOf89 hS (by repeat first | exact .here _ _ | assumption | apply Pick.there) rfl rfl rfl rfl rfl rfl (fun w hS => ?_)
        replace hS := hS.recast (show blkA g2 89 _ = blkA g2 89 [.int .u64 ((r).1 : Int), .int .u64 ((r).2 : Int)] from rfl)
        refine t_q (q_assign) ?_
        refine t_nil ?_
        refine c_ret ?_
        refine r_two rfl (res1_cellN Try.isAgg89 Try.sizeOf89 rfl (hS.blk (by repeat first | exact .here _ _ | assumption | apply Pick.there)) rfl) rfl ?_
        rw [hF]
        exact ⟨rfl, hS.nil⟩
      · intro hg11
        have hg11d := of_decide_eq_false hg11
        refine t_yes rfl rfl hg11 ?_
        refine t_q (q_mv (.int _ _) rfl) ?_
        refine t_yes rfl rfl hg11 ?_
        refine t_q (q_neq rfl rfl) ?_
        refine t_q (q_pick_f rfl hg11) ?_
        refine t_nil ?_
        refine c_cond rfl ?_ ?_
        · intro hc13
          have hc13d := of_decide_eq_true hc13
          have hF : bfl bs (0, 0) = (r, false) := by
            by_cases h0 : tkE (bs.drop (pos bs j)) = 0
            · exact fl_no hI h0 fun hh => by
                have h4 := (of_decide_eq_true hh.1).1
                omega
            · rw [fl_end hI h0, decide_eq_false (by omega)]
          refine c_seq ?_
          refine c_region ?_
          refine t_q (q_load_blk Try.isAgg89 Try.sizeOf89 rfl (hS.blk (by repeat first | exact .here _ _ | assumption | apply Pick.there)) rfl) ?_
          refine t_store (v := (.agg _)) Try.sizeOf89 hS (by repeat first | exact .here _ _ | assumption | apply Pick.there) rfl rfl rfl rfl rfl rfl (fun w hS => ?_)
          replace hS := hS.recast (show blkA g2 89 _ = blkA g2 89 [.int .u64 ((r).1 : Int), .int .u64 ((r).2 : Int)] from rfl)
          refine t_q (q_assign) ?_
          refine t_nil ?_
          refine c_ret ?_
          refine r_two rfl (res1_cellN Try.isAgg89 Try.sizeOf89 rfl (hS.blk (by repeat first | exact .here _ _ | assumption | apply Pick.there)) rfl) rfl ?_
          rw [hF]
          exact ⟨rfl, hS.nil⟩
        · intro hc13
          have hc13d := of_decide_eq_false hc13
          have he0 : tkE (bs.drop (pos bs j)) = 0 := by omega
          have hk4 : ((tkK (bs.drop (pos bs j))).toNat : Int) = 4 := by omega
          have hnl := tkN_le he0
          rw [List.length_drop] at hnl
          have hw2 : whole bs (j + 1) = true := by rw [whole, hw, he0]; rfl
          have hpl2 := pos_le hw2
          have hp2 : pos bs (j + 1) = pos bs j + tkN (bs.drop (pos bs j)) := rfl
          refine c_skip ?_
          refine c_seq ?_
          refine c_region ?_
          refine t_q (q_mv (.slice _ _ _) rfl) ?_
          refine t_q (q_build (qs := [(0, 1), (1, 1)]) [(.slice _ _ _), (.bool _)] Try.zeroValue145 Try.runUnderlying145 ⟨rfl, Try.sizeOf25, rfl, Try.sizeOf4, trivial⟩ rfl rfl) ?_
          have hS0 := hS
          obtain ⟨w1, hw1⟩ : ∃ x, x = w := ⟨_, rfl⟩
          subst hw1
          have hb1 := hS.rowRd (A := A16) (c := c16) (bs := (tkL (bs.drop (pos bs j)))) (by repeat first | exact .here _ _ | assumption | apply Pick.there) rfl
          replace hS := St.init w1
          refine t_box (v := (.agg _)) rfl rfl hS (fun g33 w hS => ?_)
          replace hS : St w1 w [rdrA w1 145 g33 (br0 (tkL (bs.drop (pos bs j))))] := hS.unrdr (s := br0 (tkL (bs.drop (pos bs j)))) rfl rfl hb1 ⟨hle16, by show (tkL (bs.drop (pos bs j))).length ≤ _; rw [(tk_ok he0).2.1, List.length_take]; have := (tk_zero he0).2.2.2; omega⟩
          refine t_q (q_as (.pointer _) rfl) ?_
          refine t_nil ?_
          refine c_seq ?_
          refine c_region ?_
          refine t_alloc Try.zeroValue89 rfl hS (fun g10 w hS => ?_)
          refine t_nil ?_
          refine c_seq ?_
          refine c_region ?_
          refine t_q (q_mv (.pointer _) rfl) ?_
          refine t_call Try.call75 (qNat hS (by repeat first | exact .here _ _ | assumption | apply Pick.there) (by omega) (by omega)) rfl ?_
          rintro e w ⟨rfl, hS⟩
          refine ⟨_, rfl, ?_⟩
          replace hS := hS.recast (show _ = rdrA w1 145 g33 (br1 (tkL (bs.drop (pos bs j)))) from rfl)
          refine t_q (q_fieldAddr 0 Try.runUnderlying89 rfl Try.sizeOf43 (by decide) rfl rfl) ?_
          refine t_store (v := (.int _ _)) Try.sizeOf43 hS (by repeat first | exact .here _ _ | assumption | apply Pick.there) rfl rfl rfl rfl rfl rfl (fun w hS => ?_)
          refine t_nil ?_
          refine c_seq ?_
          refine c_region ?_
          refine t_q (q_mv (.pointer _) rfl) ?_
          refine t_call Try.call75 (qNat hS (by repeat first | exact .here _ _ | assumption | apply Pick.there) (by omega) (by omega)) rfl ?_
          rintro e w ⟨rfl, hS⟩
          refine ⟨_, rfl, ?_⟩
          replace hS := hS.recast (show _ = rdrA w1 145 g33 (br2 (tkL (bs.drop (pos bs j)))) from rfl)
          refine t_q (q_fieldAddr 1 Try.runUnderlying89 rfl Try.sizeOf43 (by decide) rfl rfl) ?_
          refine t_store (v := (.int _ _)) Try.sizeOf43 hS (by repeat first | exact .here _ _ | assumption | apply Pick.there) rfl rfl rfl rfl rfl rfl (fun w hS => ?_)
          replace hS := hS.recast (show blkA g10 89 _ = blkA g10 89 [.int .u64 ((brc (tkL (bs.drop (pos bs j)))).1 : Int), .int .u64 ((brc (tkL (bs.drop (pos bs j)))).2 : Int)] from rfl)
          refine t_nil ?_
          refine c_seq ?_
          refine c_seq ?_
          refine c_region ?_
          refine t_q (q_mv (.pointer _) rfl) ?_
          refine t_call Try.call89 (qEnd hS (by repeat first | exact .here _ _ | assumption | apply Pick.there)) rfl ?_
          rintro e w ⟨rfl, hS⟩
          refine ⟨_, rfl, ?_⟩
          have hS : St W w (_ :: _) := hS0.lift hS
          refine t_q (q_neq rfl rfl) ?_
          refine t_q (q_mv (.bool _) rfl) ?_
          refine t_case 43 rfl ?_ ?_
          · intro hg18
            have hg18d := of_decide_eq_true hg18
            refine t_no rfl rfl (by rw [hg18]; decide) ?_
            refine t_no rfl rfl (by rw [hg18]; decide) ?_
            refine t_no rfl rfl (by rw [hg18]; decide) ?_
            refine t_no rfl rfl (by rw [hg18]; decide) ?_
            refine t_nu rfl rfl ?_
            refine t_nu rfl rfl ?_
            refine t_nu rfl rfl ?_
            refine t_nu rfl rfl ?_
            refine t_no rfl rfl (by rw [hg18]; decide) ?_
            refine t_q (q_pick_t rfl hg18) ?_
            refine t_nil ?_
            refine c_cond_t rfl rfl ?_
            have hF : bfl bs (0, 0) = (r, false) := fl_no hI he0 (by
              first
                | (intro hh; have h9 := (of_decide_eq_true hh.1).2; omega)
                | exact bst_no2 rfl (by assumption) (by assumption))
            refine c_seq ?_
            refine c_region ?_
            refine t_q (q_load_blk Try.isAgg89 Try.sizeOf89 rfl (hS.blk (by repeat first | exact .here _ _ | assumption | apply Pick.there)) rfl) ?_
            refine t_store (v := (.agg _)) Try.sizeOf89 hS (by repeat first | exact .here _ _ | assumption | apply Pick.there) rfl rfl rfl rfl rfl rfl (fun w hS => ?_)
            replace hS := hS.recast (show blkA g2 89 _ = blkA g2 89 [.int .u64 ((r).1 : Int), .int .u64 ((r).2 : Int)] from rfl)
            refine t_q (q_assign) ?_
            refine t_nil ?_
            refine c_ret ?_
            refine r_two rfl (res1_cellN Try.isAgg89 Try.sizeOf89 rfl (hS.blk (by repeat first | exact .here _ _ | assumption | apply Pick.there)) rfl) rfl ?_
            rw [hF]
            exact ⟨rfl, hS.nil⟩
          · intro hg18
            have hg18d := of_decide_eq_false hg18
            refine t_yes rfl rfl hg18 ?_
            refine t_q (q_load_blk Try.isAgg89 Try.sizeOf89 rfl (hS.blk (by repeat first | exact .here _ _ | assumption | apply Pick.there)) rfl) ?_
            refine t_yes rfl rfl hg18 ?_
            refine t_q (q_load_blk Try.isAgg89 Try.sizeOf89 rfl (hS.blk (by repeat first | exact .here _ _ | assumption | apply Pick.there)) rfl) ?_
            refine t_yes rfl rfl hg18 ?_
            refine t_q (rc_ne89 (e := brc (tkL (bs.drop (pos bs j)))) (q := r) rfl rfl (rec_in _) hI.2) ?_
            refine t_yes rfl rfl hg18 ?_
            refine t_q (q_mv (.bool _) rfl) ?_
            refine t_case 47 rfl ?_ ?_
            · intro hg20
              refine t_yes rfl rfl hg20 ?_
              refine t_q (q_load_blk Try.isAgg89 Try.sizeOf89 rfl (hS.blk (by repeat first | exact .here _ _ | assumption | apply Pick.there)) rfl) ?_
              refine t_yes rfl rfl hg20 ?_
              refine t_q (q_load_blk Try.isAgg89 Try.sizeOf89 rfl (hS.blk (by repeat first | exact .here _ _ | assumption | apply Pick.there)) rfl) ?_
              refine t_yes rfl rfl hg20 ?_
              refine t_call Try.call50 (qabv_calls (r := brc (tkL (bs.drop (pos bs j)))) (x := r)) rfl ?_
              rintro e w ⟨rfl, hT⟩
              refine ⟨_, rfl, ?_⟩
              replace hS := hS.after hT
              refine t_yes rfl rfl hg20 ?_
              refine t_q (q_not rfl) ?_
              refine t_yes rfl rfl hg18 ?_
              refine t_q (q_pick_t rfl hg20) ?_
              refine t_q (q_pick_f rfl hg18) ?_
              refine t_nil ?_
              refine c_cond rfl ?_ ?_
              · intro hc22
                have hF : bfl bs (0, 0) = (r, false) := fl_no hI he0 (by
                  first
                    | (intro hh; have h9 := (of_decide_eq_true hh.1).2; omega)
                    | exact bst_no2 rfl (by assumption) (by assumption))
                refine c_seq ?_
                refine c_region ?_
                refine t_q (q_load_blk Try.isAgg89 Try.sizeOf89 rfl (hS.blk (by repeat first | exact .here _ _ | assumption | apply Pick.there)) rfl) ?_
                refine t_store (v := (.agg _)) Try.sizeOf89 hS (by repeat first | exact .here _ _ | assumption | apply Pick.there) rfl rfl rfl rfl rfl rfl (fun w hS => ?_)
                replace hS := hS.recast (show blkA g2 89 _ = blkA g2 89 [.int .u64 ((r).1 : Int), .int .u64 ((r).2 : Int)] from rfl)
                refine t_q (q_assign) ?_
                refine t_nil ?_
                refine c_ret ?_
                refine r_two rfl (res1_cellN Try.isAgg89 Try.sizeOf89 rfl (hS.blk (by repeat first | exact .here _ _ | assumption | apply Pick.there)) rfl) rfl ?_
                rw [hF]
                exact ⟨rfl, hS.nil⟩
              · intro hc22
                have hB := fl_more hI he0 (by
                  first
                    | exact ⟨isR_of hk4 (by omega), .inl (of_decide_eq_true (not_back (by assumption)))⟩
                    | exact ⟨isR_of hk4 (by omega), .inr (of_decide_eq_true (not_back (by assumption)))⟩)
                refine c_skip ?_
                refine c_seq ?_
                refine c_region ?_
                refine t_q (q_load_blk Try.isAgg89 Try.sizeOf89 rfl (hS.blk (by repeat first | exact .here _ _ | assumption | apply Pick.there)) rfl) ?_
                refine t_store (v := (.agg _)) Try.sizeOf89 hS (by repeat first | exact .here _ _ | assumption | apply Pick.there) rfl rfl rfl rfl rfl rfl (fun w hS => ?_)
                replace hS := hS.recast (show blkA g4 89 _ = blkA g4 89 [.int .u64 ((brc (tkL (bs.drop (pos bs j)))).1 : Int), .int .u64 ((brc (tkL (bs.drop (pos bs j)))).2 : Int)] from rfl)
                refine t_nil ?_
                refine c_region ?_
                refine t_q (q_mv (.slice _ _ _) rfl) ?_
                refine t_q (q_cast (v' := .int .i64 (tkN (bs.drop (pos bs j)) : Int)) (q_mv (.int _ _) rfl) (by rw [(tk_ok he0).2.2])) ?_
                refine t_q (q_cast (v' := .slice (if c - pos bs j = tkN (bs.drop (pos bs j)) then B else B.map (·.add (tkN (bs.drop (pos bs j)) * 1))) (bs.drop (pos bs (j + 1))).length (c - pos bs (j + 1))) (q_slice Try.runUnderlying25 Try.sizeOf5 rfl rfl ⟨_, _, rfl, by omega, by omega, rfl⟩) (by rw [show (bs.drop (pos bs (j + 1))).length = (bs.drop (pos bs j)).length - tkN (bs.drop (pos bs j)) from by rw [List.length_drop, List.length_drop, hp2]; omega, show c - pos bs (j + 1) = c - pos bs j - tkN (bs.drop (pos bs j)) from by omega]; rfl)) ?_
                refine t_q (q_as (.slice _ _ _) rfl) ?_
                refine t_nil ?_
                refine ⟨bs.length - pos bs (j + 1), by omega, j + 1, _, _, rfl, ?_, hw2, hB, Nat.le_refl _, (((hS.pick (A := blkA g2 89 [.int .u64 0, .int .u64 0]) (by repeat first | exact .here _ _ | assumption | apply Pick.there)).pick (A := blkA g4 89 [.int .u64 ((brc (tkL (bs.drop (pos bs j)))).1 : Int), .int .u64 ((brc (tkL (bs.drop (pos bs j)))).2 : Int)]) (by repeat first | exact .here _ _ | assumption | apply Pick.there))).front2⟩
                have h := drop_rd (by assumption : RdB W B (bs.drop (pos bs j))) (k := tkN (bs.drop (pos bs j))) (c := c - pos bs j) (by rw [List.length_drop]; omega) ⟨by rw [List.length_drop]; omega, by rw [List.length_drop]; omega⟩
                rw [List.drop_drop] at h
                exact h
            · intro hg20
              refine t_no rfl rfl (by rw [hg20]; decide) ?_
              refine t_no rfl rfl (by rw [hg20]; decide) ?_
              refine t_no rfl rfl (by rw [hg20]; decide) ?_
              refine t_no rfl rfl (by rw [hg20]; decide) ?_
              refine t_yes rfl rfl hg18 ?_
              refine t_q (q_pick_f rfl hg20) ?_
              refine t_q (q_pick_f rfl hg18) ?_
              refine t_nil ?_
              refine c_cond_f rfl rfl ?_
              have hB := fl_more hI he0 (by
                first
                  | exact ⟨isR_of hk4 (by omega), .inl (of_decide_eq_true (not_back (by assumption)))⟩
                  | exact ⟨isR_of hk4 (by omega), .inr (of_decide_eq_true (not_back (by assumption)))⟩)
              refine c_skip ?_
              refine c_seq ?_
              refine c_region ?_
              refine t_q (q_load_blk Try.isAgg89 Try.sizeOf89 rfl (hS.blk (by repeat first | exact .here _ _ | assumption | apply Pick.there)) rfl) ?_
              refine t_store (v := (.agg _)) Try.sizeOf89 hS (by repeat first | exact .here _ _ | assumption | apply Pick.there) rfl rfl rfl rfl rfl rfl (fun w hS => ?_)
              replace hS := hS.recast (show blkA g4 89 _ = blkA g4 89 [.int .u64 ((brc (tkL (bs.drop (pos bs j)))).1 : Int), .int .u64 ((brc (tkL (bs.drop (pos bs j)))).2 : Int)] from rfl)
              refine t_nil ?_
              refine c_region ?_
              refine t_q (q_mv (.slice _ _ _) rfl) ?_
              refine t_q (q_cast (v' := .int .i64 (tkN (bs.drop (pos bs j)) : Int)) (q_mv (.int _ _) rfl) (by rw [(tk_ok he0).2.2])) ?_
              refine t_q (q_cast (v' := .slice (if c - pos bs j = tkN (bs.drop (pos bs j)) then B else B.map (·.add (tkN (bs.drop (pos bs j)) * 1))) (bs.drop (pos bs (j + 1))).length (c - pos bs (j + 1))) (q_slice Try.runUnderlying25 Try.sizeOf5 rfl rfl ⟨_, _, rfl, by omega, by omega, rfl⟩) (by rw [show (bs.drop (pos bs (j + 1))).length = (bs.drop (pos bs j)).length - tkN (bs.drop (pos bs j)) from by rw [List.length_drop, List.length_drop, hp2]; omega, show c - pos bs (j + 1) = c - pos bs j - tkN (bs.drop (pos bs j)) from by omega]; rfl)) ?_
              refine t_q (q_as (.slice _ _ _) rfl) ?_
              refine t_nil ?_
              refine ⟨bs.length - pos bs (j + 1), by omega, j + 1, _, _, rfl, ?_, hw2, hB, Nat.le_refl _, (((hS.pick (A := blkA g2 89 [.int .u64 0, .int .u64 0]) (by repeat first | exact .here _ _ | assumption | apply Pick.there)).pick (A := blkA g4 89 [.int .u64 ((brc (tkL (bs.drop (pos bs j)))).1 : Int), .int .u64 ((brc (tkL (bs.drop (pos bs j)))).2 : Int)]) (by repeat first | exact .here _ _ | assumption | apply Pick.there))).front2⟩
              have h := drop_rd (by assumption : RdB W B (bs.drop (pos bs j))) (k := tkN (bs.drop (pos bs j))) (c := c - pos bs j) (by rw [List.length_drop]; omega) ⟨by rw [List.length_drop]; omega, by rw [List.length_drop]; omega⟩
              rw [List.drop_drop] at h
              exact h
  · intro hc2
    have hc2d := of_decide_eq_false hc2
    have hF : bfl bs (0, 0) = (r, true) := by
      have h31 : tkE (bs.drop (pos bs j)) = 31 := tkE_1 (by omega)
      rw [fl_end hI (by rw [h31]; decide), decide_eq_true h31]
    refine c_exit ?_
    refine ite_t rfl ?_
    refine c_seq ?_
    refine c_region ?_
    refine t_q (q_load_blk Try.isAgg89 Try.sizeOf89 rfl (hS.blk (by repeat first | exact .here _ _ | assumption | apply Pick.there)) rfl) ?_
    refine t_store (v := (.agg _)) Try.sizeOf89 hS (by repeat first | exact .here _ _ | assumption | apply Pick.there) rfl rfl rfl rfl rfl rfl (fun w hS => ?_)
    replace hS := hS.recast (show blkA g2 89 _ = blkA g2 89 [.int .u64 ((r).1 : Int), .int .u64 ((r).2 : Int)] from rfl)
    refine t_q (q_assign) ?_
    refine t_nil ?_
    refine c_ret ?_
    refine r_two rfl (res1_cellN Try.isAgg89 Try.sizeOf89 rfl (hS.blk (by repeat first | exact .here _ _ | assumption | apply Pick.there)) rfl) rfl ?_
    rw [hF]
    exact ⟨rfl, hS.nil⟩
set_option maxRecDepth 100000 in
theorem btell_calls {A B : Option Addr} {ca cb : Nat} {a b : List UInt8} (ha : RdB W A a) (hb : RdB W B b) (hac : a.length ≤ ca ∧ a.length ≤ 100000000) (hbc : b.length ≤ cb ∧ b.length ≤ 100000000) : Calls Try.prog 96 #[.slice A a.length ca, .slice B b.length cb] W fun e w' => e = .returned (.tuple #[.agg #[.int .u64 (((btl a b).1).1 : Int), .int .u64 (((btl a b).1).2 : Int)], .bool (btl a b).2.1, .int .i64 (btl a b).2.2]) ∧ St W w' [] := by
  have hS := St.init W
  refine calls_of_wpE (args := [_, _]) Try.func96 rfl rfl rfl ?_
  refine c_seq ?_
  refine c_region ?_
  refine t_alloc Try.zeroValue105 rfl hS (fun g4 w hS => ?_)
  refine t_q (q_assign) ?_
  refine t_q (q_assign) ?_
  refine t_nil ?_
  refine c_seq ?_
  refine c_region ?_
  refine t_q (q_mv (.slice _ _ _) rfl) ?_
  refine t_call Try.call135 (bfile_calls (ha.st hS) hac) rfl ?_
  rintro e w ⟨rfl, hT⟩
  refine ⟨_, rfl, ?_⟩
  replace hS := hS.after hT
  refine t_q (q_mv (.tuple _) rfl) ?_
  refine t_q (q_extract rfl rfl) ?_
  refine t_q (q_extract rfl rfl) ?_
  refine t_alloc Try.zeroValue105 rfl hS (fun g7 w hS => ?_)
  refine t_store (v := (.agg _)) Try.sizeOf105 hS (by repeat first | exact .here _ _ | assumption | apply Pick.there) rfl rfl rfl rfl rfl rfl (fun w hS => ?_)
  replace hS := hS.recast (show blkA g7 105 _ = blkA g7 105 [.int .u64 (((bfl a (0, 0)).1).1 : Int), .int .u64 (((bfl a (0, 0)).1).2 : Int)] from rfl)
  refine t_q (q_as (.bool _) rfl) ?_
  refine t_nil ?_
  refine c_seq ?_
  refine c_region ?_
  refine t_q (q_mv (.slice _ _ _) rfl) ?_
  refine t_call Try.call135 (bfile_calls (hb.st hS) hbc) rfl ?_
  rintro e w ⟨rfl, hT⟩
  refine ⟨_, rfl, ?_⟩
  replace hS := hS.after hT
  refine t_q (q_mv (.tuple _) rfl) ?_
  refine t_q (q_extract rfl rfl) ?_
  refine t_q (q_extract rfl rfl) ?_
  refine t_alloc Try.zeroValue105 rfl hS (fun g9 w hS => ?_)
  refine t_store (v := (.agg _)) Try.sizeOf105 hS (by repeat first | exact .here _ _ | assumption | apply Pick.there) rfl rfl rfl rfl rfl rfl (fun w hS => ?_)
  replace hS := hS.recast (show blkA g9 105 _ = blkA g9 105 [.int .u64 (((bfl b (0, 0)).1).1 : Int), .int .u64 (((bfl b (0, 0)).1).2 : Int)] from rfl)
  refine t_q (q_as (.bool _) rfl) ?_
  refine t_nil ?_
  refine c_seq ?_
  refine c_block ?_
  refine c_seq ?_
  refine c_region ?_
  refine t_q (q_mv (.bool _) rfl) ?_
  refine t_q (q_not rfl) ?_
  refine t_q (q_mv (.bool _) rfl) ?_
  refine t_case 24 rfl ?_ ?_
  · intro hg7
    refine t_no rfl rfl (by rw [(congrArg not (not_back hg7))]; decide) ?_
    refine t_no rfl rfl (by rw [(congrArg not (not_back hg7))]; decide) ?_
    refine t_q (q_pick_t rfl (congrArg not (not_back hg7))) ?_
    refine t_q (q_as (.bool _) rfl) ?_
    refine t_nil ?_
    refine c_cond_t rfl rfl ?_
    have hE : btl a b = ((0, 0), false, 20) := by
      first
        | exact btl_bad1 (by assumption)
        | exact btl_bad2 (by assumption)
    refine c_seq ?_
    refine c_region ?_
    refine t_q (q_build (qs := [(0, 1), (1, 1)]) [(.int _ _), (.int _ _)] Try.zeroValue105 Try.runUnderlying105 ⟨rfl, Try.sizeOf43, rfl, Try.sizeOf43, trivial⟩ rfl rfl) ?_
    refine t_store (v := (.agg _)) Try.sizeOf105 hS (by repeat first | exact .here _ _ | assumption | apply Pick.there) rfl rfl rfl rfl rfl rfl (fun w hS => ?_)
    refine t_q (q_assign) ?_
    refine t_q (q_assign) ?_
    refine t_nil ?_
    refine c_ret ?_
    refine r_three rfl (res1_cellN Try.isAgg105 Try.sizeOf105 rfl (hS.blk (by repeat first | exact .here _ _ | assumption | apply Pick.there)) rfl) rfl rfl ?_
    rw [hE]
    exact ⟨rfl, hS.nil⟩
  · intro hg7
    refine t_yes rfl rfl (congrArg not (not_back hg7)) ?_
    refine t_q (q_mv (.bool _) rfl) ?_
    refine t_yes rfl rfl (congrArg not (not_back hg7)) ?_
    refine t_q (q_not rfl) ?_
    refine t_q (q_pick_f rfl (congrArg not (not_back hg7))) ?_
    refine t_q (q_as (.bool _) rfl) ?_
    refine t_nil ?_
    refine c_cond rfl ?_ ?_
    · intro hc8
      have hE : btl a b = ((0, 0), false, 20) := by
        first
          | exact btl_bad1 (by assumption)
          | exact btl_bad2 (by assumption)
      refine c_seq ?_
      refine c_region ?_
      refine t_q (q_build (qs := [(0, 1), (1, 1)]) [(.int _ _), (.int _ _)] Try.zeroValue105 Try.runUnderlying105 ⟨rfl, Try.sizeOf43, rfl, Try.sizeOf43, trivial⟩ rfl rfl) ?_
      refine t_store (v := (.agg _)) Try.sizeOf105 hS (by repeat first | exact .here _ _ | assumption | apply Pick.there) rfl rfl rfl rfl rfl rfl (fun w hS => ?_)
      refine t_q (q_assign) ?_
      refine t_q (q_assign) ?_
      refine t_nil ?_
      refine c_ret ?_
      refine r_three rfl (res1_cellN Try.isAgg105 Try.sizeOf105 rfl (hS.blk (by repeat first | exact .here _ _ | assumption | apply Pick.there)) rfl) rfl rfl ?_
      rw [hE]
      exact ⟨rfl, hS.nil⟩
    · intro hc8
      refine c_seq ?_
      refine c_region ?_
      refine t_q (q_load_blk Try.isAgg105 Try.sizeOf105 rfl (hS.blk (by repeat first | exact .here _ _ | assumption | apply Pick.there)) rfl) ?_
      refine t_q (q_load_blk Try.isAgg105 Try.sizeOf105 rfl (hS.blk (by repeat first | exact .here _ _ | assumption | apply Pick.there)) rfl) ?_
      refine t_call Try.call99 (babv_calls (r := (bfl b (0, 0)).1) (x := (bfl a (0, 0)).1)) rfl ?_
      rintro e w ⟨rfl, hT⟩
      refine ⟨_, rfl, ?_⟩
      replace hS := hS.after hT
      refine t_q (q_as (.bool _) rfl) ?_
      refine t_nil ?_
      refine c_cond rfl ?_ ?_
      · intro hc10
        have hE := btl_y (a := a) (b := b) (by assumption) (by assumption) hc10
        refine c_seq ?_
        refine c_region ?_
        refine t_q (q_load_blk Try.isAgg105 Try.sizeOf105 rfl (hS.blk (by repeat first | exact .here _ _ | assumption | apply Pick.there)) rfl) ?_
        refine t_store (v := (.agg _)) Try.sizeOf105 hS (by repeat first | exact .here _ _ | assumption | apply Pick.there) rfl rfl rfl rfl rfl rfl (fun w hS => ?_)
        refine t_q (q_assign) ?_
        refine t_q (q_assign) ?_
        refine t_nil ?_
        refine c_ret ?_
        refine r_three rfl (res1_cellN Try.isAgg105 Try.sizeOf105 rfl (hS.blk (by repeat first | exact .here _ _ | assumption | apply Pick.there)) rfl) rfl rfl ?_
        rw [hE]
        exact ⟨rfl, hS.nil⟩
      · intro hc10
        have hE := btl_x (a := a) (b := b) (by assumption) (by assumption) hc10
        refine c_skip ?_
        refine c_seq ?_
        refine c_region ?_
        refine t_q (q_load_blk Try.isAgg105 Try.sizeOf105 rfl (hS.blk (by repeat first | exact .here _ _ | assumption | apply Pick.there)) rfl) ?_
        refine t_store (v := (.agg _)) Try.sizeOf105 hS (by repeat first | exact .here _ _ | assumption | apply Pick.there) rfl rfl rfl rfl rfl rfl (fun w hS => ?_)
        refine t_q (q_assign) ?_
        refine t_q (q_assign) ?_
        refine t_nil ?_
        refine c_ret ?_
        refine r_three rfl (res1_cellN Try.isAgg105 Try.sizeOf105 rfl (hS.blk (by repeat first | exact .here _ _ | assumption | apply Pick.there)) rfl) rfl rfl ?_
        rw [hE]
        exact ⟨rfl, hS.nil⟩
set_option maxRecDepth 100000 in
theorem bTell_calls {A B : Option Addr} {ca cb : Nat} {a b : List UInt8} (ha : RdB W A a) (hb : RdB W B b) (hac : a.length ≤ ca ∧ a.length ≤ 100000000) (hbc : b.length ≤ cb ∧ b.length ≤ 100000000) : Calls Try.prog 56 #[.slice A a.length ca, .slice B b.length cb] W fun e w' => e = .returned (.tuple #[.int .u64 ((btl a b).1.1 : Int), .int .i64 (((btl a b).1.2 : Int) - 1), .int .i64 (btl a b).2.2]) ∧ St W w' [] := by
  have hS := St.init W
  have h7 : (btl a b).1.2 ≤ 7 := (btl_in a b).2
  refine calls_of_wpE (args := [_, _]) Try.func56 rfl rfl rfl ?_
  refine c_seq ?_
  refine c_region ?_
  refine t_q (q_assign) ?_
  refine t_q (q_assign) ?_
  refine t_q (q_assign) ?_
  refine t_nil ?_
  refine c_seq ?_
  refine c_region ?_
  refine t_q (q_mv (.slice _ _ _) rfl) ?_
  refine t_q (q_mv (.slice _ _ _) rfl) ?_
  refine t_call Try.call96 (btell_calls (ha.st hS) (hb.st hS) hac hbc) rfl ?_
  rintro e w ⟨rfl, hT⟩
  refine ⟨_, rfl, ?_⟩
  replace hS := hS.after hT
  refine t_q (q_mv (.tuple _) rfl) ?_
  refine t_q (q_extract rfl rfl) ?_
  refine t_q (q_extract rfl rfl) ?_
  refine t_q (q_extract rfl rfl) ?_
  refine t_alloc Try.zeroValue105 rfl hS (fun g7 w hS => ?_)
  refine t_store (v := (.agg _)) Try.sizeOf105 hS (by repeat first | exact .here _ _ | assumption | apply Pick.there) rfl rfl rfl rfl rfl rfl (fun w hS => ?_)
  replace hS := hS.recast (show blkA g7 105 _ = blkA g7 105 [.int .u64 (((btl a b).1).1 : Int), .int .u64 (((btl a b).1).2 : Int)] from rfl)
  refine t_q (q_as (.bool _) rfl) ?_
  refine t_q (q_as (.int _ _) rfl) ?_
  refine t_nil ?_
  refine c_seq ?_
  refine c_draw ?_
  refine d_quiet 10 [0, 1, 2, 3, 4, 5, 6, 7, 8, 9] [0, 1, 7, 2, 3, 4, 5, 8, 6, 9] hS rfl (by kernel_rfl) (by kernel_rfl) (by kernel_rfl) (by kernel_rfl) (fun hap hsel w hS => ?_)
  refine p_q hap hsel 0 rfl rfl hS (fun w hS => q_fieldAddr 0 Try.runUnderlying105 rfl Try.sizeOf43 (by decide) rfl rfl) ?_
  refine p_q hap hsel 1 rfl rfl hS (fun w hS => q_load1 Try.isAgg43 rfl (hS.cell (by repeat first | exact .here _ _ | assumption | apply Pick.there) rfl)) ?_
  refine p_q hap hsel 2 rfl rfl hS (fun w hS => q_fieldAddr 1 Try.runUnderlying105 rfl Try.sizeOf43 (by decide) rfl rfl) ?_
  refine p_q hap hsel 3 rfl rfl hS (fun w hS => q_load1 Try.isAgg43 rfl (hS.cell (by repeat first | exact .here _ _ | assumption | apply Pick.there) rfl)) ?_
  refine p_q hap hsel 4 rfl rfl hS (fun w hS => q_conv_i64 Try.runUnderlying43 Try.runUnderlying3 rfl (by omega)) ?_
  refine p_q hap hsel 5 rfl rfl hS (fun w hS => q_sub_i64 rfl rfl (by omega)) ?_
  refine p_q hap hsel 6 rfl rfl hS (fun w hS => q_mv (.int _ _) rfl) ?_
  refine p_q hap hsel 7 rfl rfl hS (fun w hS => q_as (.int _ _) rfl) ?_
  refine p_q hap hsel 8 rfl rfl hS (fun w hS => q_as (.int _ _) rfl) ?_
  refine p_q hap hsel 9 rfl rfl hS (fun w hS => q_as (.int _ _) rfl) ?_
  refine p_end (by kernel_rfl) ?_
  refine c_ret ?_
  refine r_three rfl rfl rfl rfl ?_
  exact ⟨rfl, hS.nil⟩
set_option maxRecDepth 100000 in
theorem qbTell_calls {A B : Option Addr} {ca cb : Nat} {a b : List UInt8} (ha : RdB W A a) (hb : RdB W B b) (hac : a.length ≤ ca ∧ a.length ≤ 100000000) (hbc : b.length ≤ cb ∧ b.length ≤ 100000000) : Calls Try.prog 51 #[.slice A a.length ca, .slice B b.length cb] W fun e w' => e = .returned (.tuple #[.int .u64 ((btl a b).1.1 : Int), .int .i64 (((btl a b).1.2 : Int) - 1), .int .i64 (btl a b).2.2]) ∧ St W w' [] := by
  have hS := St.init W
  have h7 := (bfl_in a).2
  have h8 := (bfl_in b).2
  refine calls_of_wpE (args := [_, _]) Try.func51 rfl rfl rfl ?_
  refine c_seq ?_
  refine c_region ?_
  refine t_q (q_assign) ?_
  refine t_q (q_assign) ?_
  refine t_q (q_assign) ?_
  refine t_nil ?_
  refine c_seq ?_
  refine c_region ?_
  refine t_q (q_mv (.slice _ _ _) rfl) ?_
  refine t_call Try.call101 (qbfile_calls (ha.st hS) hac) rfl ?_
  rintro e w ⟨rfl, hT⟩
  refine ⟨_, rfl, ?_⟩
  replace hS := hS.after hT
  refine t_q (q_mv (.tuple _) rfl) ?_
  refine t_q (q_extract rfl rfl) ?_
  refine t_q (q_extract rfl rfl) ?_
  refine t_alloc Try.zeroValue89 rfl hS (fun g7 w hS => ?_)
  refine t_store (v := (.agg _)) Try.sizeOf89 hS (by repeat first | exact .here _ _ | assumption | apply Pick.there) rfl rfl rfl rfl rfl rfl (fun w hS => ?_)
  replace hS := hS.recast (show blkA g7 89 _ = blkA g7 89 [.int .u64 (((bfl a (0, 0)).1).1 : Int), .int .u64 (((bfl a (0, 0)).1).2 : Int)] from rfl)
  refine t_q (q_as (.bool _) rfl) ?_
  refine t_nil ?_
  refine c_seq ?_
  refine c_region ?_
  refine t_q (q_mv (.slice _ _ _) rfl) ?_
  refine t_call Try.call101 (qbfile_calls (hb.st hS) hbc) rfl ?_
  rintro e w ⟨rfl, hT⟩
  refine ⟨_, rfl, ?_⟩
  replace hS := hS.after hT
  refine t_q (q_mv (.tuple _) rfl) ?_
  refine t_q (q_extract rfl rfl) ?_
  refine t_q (q_extract rfl rfl) ?_
  refine t_alloc Try.zeroValue89 rfl hS (fun g9 w hS => ?_)
  refine t_store (v := (.agg _)) Try.sizeOf89 hS (by repeat first | exact .here _ _ | assumption | apply Pick.there) rfl rfl rfl rfl rfl rfl (fun w hS => ?_)
  replace hS := hS.recast (show blkA g9 89 _ = blkA g9 89 [.int .u64 (((bfl b (0, 0)).1).1 : Int), .int .u64 (((bfl b (0, 0)).1).2 : Int)] from rfl)
  refine t_q (q_as (.bool _) rfl) ?_
  refine t_nil ?_
  refine c_seq ?_
  refine c_seq ?_
  refine c_region ?_
  refine t_q (q_mv (.bool _) rfl) ?_
  refine t_q (q_not rfl) ?_
  refine t_q (q_mv (.bool _) rfl) ?_
  refine t_case 23 rfl ?_ ?_
  · intro hg7
    refine t_no rfl rfl (by rw [(congrArg not (not_back hg7))]; decide) ?_
    refine t_no rfl rfl (by rw [(congrArg not (not_back hg7))]; decide) ?_
    refine t_q (q_pick_t rfl (congrArg not (not_back hg7))) ?_
    refine t_nil ?_
    refine c_cond_t rfl rfl ?_
    have hE : btl a b = ((0, 0), false, 20) := by
      first
        | exact btl_bad1 (by assumption)
        | exact btl_bad2 (by assumption)
    refine c_seq ?_
    refine c_region ?_
    refine t_q (q_assign) ?_
    refine t_q (q_assign) ?_
    refine t_q (q_assign) ?_
    refine t_nil ?_
    refine c_ret ?_
    refine r_three rfl rfl rfl rfl ?_
    rw [hE]
    exact ⟨rfl, hS.nil⟩
  · intro hg7
    refine t_yes rfl rfl (congrArg not (not_back hg7)) ?_
    refine t_q (q_mv (.bool _) rfl) ?_
    refine t_yes rfl rfl (congrArg not (not_back hg7)) ?_
    refine t_q (q_not rfl) ?_
    refine t_q (q_pick_f rfl (congrArg not (not_back hg7))) ?_
    refine t_nil ?_
    refine c_cond rfl ?_ ?_
    · intro hc8
      have hE : btl a b = ((0, 0), false, 20) := by
        first
          | exact btl_bad1 (by assumption)
          | exact btl_bad2 (by assumption)
      refine c_seq ?_
      refine c_region ?_
      refine t_q (q_assign) ?_
      refine t_q (q_assign) ?_
      refine t_q (q_assign) ?_
      refine t_nil ?_
      refine c_ret ?_
      refine r_three rfl rfl rfl rfl ?_
      rw [hE]
      exact ⟨rfl, hS.nil⟩
    · intro hc8
      refine c_skip ?_
      refine c_seq ?_
      refine c_seq ?_
      refine c_region ?_
      refine t_q (q_load_blk Try.isAgg89 Try.sizeOf89 rfl (hS.blk (by repeat first | exact .here _ _ | assumption | apply Pick.there)) rfl) ?_
      refine t_q (q_load_blk Try.isAgg89 Try.sizeOf89 rfl (hS.blk (by repeat first | exact .here _ _ | assumption | apply Pick.there)) rfl) ?_
      refine t_call Try.call50 (qabv_calls (r := (bfl b (0, 0)).1) (x := (bfl a (0, 0)).1)) rfl ?_
      rintro e w ⟨rfl, hT⟩
      refine ⟨_, rfl, ?_⟩
      replace hS := hS.after hT
      refine t_nil ?_
      refine c_cond rfl ?_ ?_
      · intro hc10
        have hE := btl_y (a := a) (b := b) (by assumption) (by assumption) hc10
        refine c_region ?_
        refine t_q (q_load_blk Try.isAgg89 Try.sizeOf89 rfl (hS.blk (by repeat first | exact .here _ _ | assumption | apply Pick.there)) rfl) ?_
        refine t_store (v := (.agg _)) Try.sizeOf89 hS (by repeat first | exact .here _ _ | assumption | apply Pick.there) rfl rfl rfl rfl rfl rfl (fun w hS => ?_)
        replace hS := hS.recast (show blkA g7 89 _ = blkA g7 89 [.int .u64 (((bfl b (0, 0)).1).1 : Int), .int .u64 (((bfl b (0, 0)).1).2 : Int)] from rfl)
        refine t_nil ?_
        refine c_seq ?_
        refine c_draw ?_
        refine d_quiet 9 [0, 1, 2, 3, 4, 5, 6, 7, 8] [0, 1, 6, 2, 3, 4, 5, 7, 8] hS rfl (by kernel_rfl) (by kernel_rfl) (by kernel_rfl) (by kernel_rfl) (fun hap hsel w hS => ?_)
        refine p_q hap hsel 0 rfl rfl hS (fun w hS => q_fieldAddr 0 Try.runUnderlying89 rfl Try.sizeOf43 (by decide) rfl rfl) ?_
        refine p_q hap hsel 1 rfl rfl hS (fun w hS => q_load1 Try.isAgg43 rfl (hS.cell (by repeat first | exact .here _ _ | assumption | apply Pick.there) rfl)) ?_
        refine p_q hap hsel 2 rfl rfl hS (fun w hS => q_fieldAddr 1 Try.runUnderlying89 rfl Try.sizeOf43 (by decide) rfl rfl) ?_
        refine p_q hap hsel 3 rfl rfl hS (fun w hS => q_load1 Try.isAgg43 rfl (hS.cell (by repeat first | exact .here _ _ | assumption | apply Pick.there) rfl)) ?_
        refine p_q hap hsel 4 rfl rfl hS (fun w hS => q_conv_i64 Try.runUnderlying43 Try.runUnderlying3 rfl (by omega)) ?_
        refine p_q hap hsel 5 rfl rfl hS (fun w hS => q_sub_i64 rfl rfl (by omega)) ?_
        refine p_q hap hsel 6 rfl rfl hS (fun w hS => q_as (.int _ _) rfl) ?_
        refine p_q hap hsel 7 rfl rfl hS (fun w hS => q_as (.int _ _) rfl) ?_
        refine p_q hap hsel 8 rfl rfl hS (fun w hS => q_assign) ?_
        refine p_end (by kernel_rfl) ?_
        refine c_ret ?_
        refine r_three rfl rfl rfl rfl ?_
        rw [hE]
        exact ⟨rfl, hS.nil⟩
      · intro hc10
        have hE := btl_x (a := a) (b := b) (by assumption) (by assumption) hc10
        refine c_skip ?_
        refine c_seq ?_
        refine c_draw ?_
        refine d_quiet 9 [0, 1, 2, 3, 4, 5, 6, 7, 8] [0, 1, 6, 2, 3, 4, 5, 7, 8] hS rfl (by kernel_rfl) (by kernel_rfl) (by kernel_rfl) (by kernel_rfl) (fun hap hsel w hS => ?_)
        refine p_q hap hsel 0 rfl rfl hS (fun w hS => q_fieldAddr 0 Try.runUnderlying89 rfl Try.sizeOf43 (by decide) rfl rfl) ?_
        refine p_q hap hsel 1 rfl rfl hS (fun w hS => q_load1 Try.isAgg43 rfl (hS.cell (by repeat first | exact .here _ _ | assumption | apply Pick.there) rfl)) ?_
        refine p_q hap hsel 2 rfl rfl hS (fun w hS => q_fieldAddr 1 Try.runUnderlying89 rfl Try.sizeOf43 (by decide) rfl rfl) ?_
        refine p_q hap hsel 3 rfl rfl hS (fun w hS => q_load1 Try.isAgg43 rfl (hS.cell (by repeat first | exact .here _ _ | assumption | apply Pick.there) rfl)) ?_
        refine p_q hap hsel 4 rfl rfl hS (fun w hS => q_conv_i64 Try.runUnderlying43 Try.runUnderlying3 rfl (by omega)) ?_
        refine p_q hap hsel 5 rfl rfl hS (fun w hS => q_sub_i64 rfl rfl (by omega)) ?_
        refine p_q hap hsel 6 rfl rfl hS (fun w hS => q_as (.int _ _) rfl) ?_
        refine p_q hap hsel 7 rfl rfl hS (fun w hS => q_as (.int _ _) rfl) ?_
        refine p_q hap hsel 8 rfl rfl hS (fun w hS => q_assign) ?_
        refine p_end (by kernel_rfl) ?_
        refine c_ret ?_
        refine r_three rfl rfl rfl rfl ?_
        rw [hE]
        exact ⟨rfl, hS.nil⟩
end Go.Proofs.Ytlppgpidakfnlaa
