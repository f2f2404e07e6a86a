/- Of any bytes all parcels are gone over with which they begin; and it is told where they end, and why: the walk. -/
import Derived.Test.YtlppgpidakfnlaaPf
namespace Go.Proofs.Ytlppgpidakfnlaa
open Go Go.RowKit Go.Lib
variable {W : World}
attribute [local irreducible] blkA rowA rdrA
set_option maxHeartbeats 1000000 in
set_option maxRecDepth 100000 in
theorem ParcelRows_calls {A : Option Addr} {c : Nat} {bs : List UInt8} (hR : RdB W A bs) (hc : bs.length ≤ c ∧ bs.length ≤ 9223372036854775807) : Calls Try.prog 4 #[.slice A bs.length c] W fun e w' => e = .returned (.bool true) ∧ St W w' [] := by
  have hS := St.init W
  refine calls_of_wpM (args := [_]) Try.func4 rfl rfl rfl ?_
  refine m_seq ?_
  refine m_of ?_
  refine c_region ?_
  refine t_box (v := (.slice _ _ _)) rfl rfl hS (fun g1 w hS => ?_)
  refine t_alloc Try.zeroValue4 rfl hS (fun g2 w hS => ?_)
  refine t_nil ?_
  refine m_seq ?_
  refine m_of ?_
  refine c_seq ?_
  refine c_region ?_
  refine t_q (q_load1 Try.isAgg25 rfl (hS.cell (by repeat first | exact .here _ _ | assumption | apply Pick.there) rfl)) ?_
  refine t_q (q_len_slice Try.runUnderlying25 rfl) ?_
  refine t_q (q_gtr rfl rfl) ?_
  refine t_q (q_mv (.bool _) rfl) ?_
  refine t_case 19 rfl ?_ ?_
  · intro hg2
    have hg2d := of_decide_eq_true hg2
    refine t_no rfl rfl (by rw [hg2]; decide) ?_
    refine t_no rfl rfl (by rw [hg2]; decide) ?_
    refine t_q (q_pick_t rfl hg2) ?_
    refine t_nil ?_
    refine c_cond_t rfl rfl ?_
    refine c_seq ?_
    refine c_region ?_
    refine t_call Try.call19 (plives_calls) rfl ?_
    rintro e w ⟨rfl, hT⟩
    refine ⟨_, rfl, ?_⟩
    replace hS := hS.after hT
    refine t_store (v := (.bool _)) Try.sizeOf4 hS (by repeat first | exact .here _ _ | assumption | apply Pick.there) rfl rfl rfl rfl rfl rfl (fun w hS => ?_)
    refine t_nil ?_
    refine c_ret ?_
    refine l_nil ?_
    refine r_one rfl (res1_cell1 Try.isAgg4 rfl (hS.cell (by repeat first | exact .here _ _ | assumption | apply Pick.there) rfl)) ?_
    exact ⟨rfl, hS.nil⟩
  · intro hg2
    have hg2d := of_decide_eq_false hg2
    refine t_yes rfl rfl hg2 ?_
    refine t_call Try.call19 (plives_calls) rfl ?_
    rintro e w ⟨rfl, hT⟩
    refine ⟨_, rfl, ?_⟩
    replace hS := hS.after hT
    refine t_yes rfl rfl hg2 ?_
    refine t_q (q_not rfl) ?_
    refine t_q (q_pick_f rfl hg2) ?_
    refine t_nil ?_
    refine c_cond_f rfl rfl ?_
    have h3000 : bs.length ≤ 3000 := by omega
    refine c_skip ?_
    refine m_seq ?_
    refine m_of ?_
    refine c_region ?_
    refine t_q (q_load1 Try.isAgg25 rfl (hS.cell (by repeat first | exact .here _ _ | assumption | apply Pick.there) rfl)) ?_
    refine t_call Try.call21 (end_calls (hR.st hS) ⟨hc.1, by omega⟩) rfl ?_
    rintro e w ⟨kk, hw, hne, rfl, hT⟩
    refine ⟨_, rfl, ?_⟩
    replace hS := hS.after hT
    refine t_q (q_mv (.tuple _) rfl) ?_
    refine t_q (q_extract rfl rfl) ?_
    refine t_q (q_extract rfl rfl) ?_
    refine t_q (q_as (.int _ _) rfl) ?_
    refine t_q (q_as (.int _ _) rfl) ?_
    refine t_nil ?_
    refine m_seq ?_
    refine m_of ?_
    refine c_region ?_
    refine t_q (q_load1 Try.isAgg25 rfl (hS.cell (by repeat first | exact .here _ _ | assumption | apply Pick.there) rfl)) ?_
    refine t_call Try.call22 (qend_calls (hR.st hS) ⟨hc.1, by omega⟩) rfl ?_
    rintro e w ⟨k2, hw2, hne2, rfl, hT⟩
    refine ⟨_, rfl, ?_⟩
    replace hS := hS.after hT
    obtain rfl := whole_uniq hw hne hw2 hne2
    refine t_q (q_mv (.tuple _) rfl) ?_
    refine t_q (q_extract rfl rfl) ?_
    refine t_q (q_extract rfl rfl) ?_
    refine t_q (q_extract rfl rfl) ?_
    refine t_q (q_as (.int _ _) rfl) ?_
    refine t_q (q_as (.int _ _) rfl) ?_
    refine t_q (q_as (.int _ _) rfl) ?_
    refine t_nil ?_
    refine m_seq ?_
    refine m_of ?_
    refine c_seq ?_
    refine c_region ?_
    refine t_q (q_mv (.int _ _) rfl) ?_
    refine t_q (q_mv (.int _ _) rfl) ?_
    refine t_q (q_cast (v' := .bool false) (q_neq rfl rfl) (by simp)) ?_
    refine t_q (q_mv (.bool _) rfl) ?_
    refine t_yes rfl rfl rfl ?_
    refine t_q (q_mv (.int _ _) rfl) ?_
    refine t_yes rfl rfl rfl ?_
    refine t_q (q_mv (.int _ _) rfl) ?_
    refine t_yes rfl rfl rfl ?_
    refine t_q (q_cast (v' := .bool false) (q_neq rfl rfl) (by simp)) ?_
    refine t_q (q_pick_f rfl rfl) ?_
    refine t_nil ?_
    refine c_cond_f rfl rfl ?_
    refine c_skip ?_
    refine m_seq ?_
    refine m_of ?_
    refine c_region ?_
    refine t_alloc Try.zeroValue3 rfl hS (fun g8 w hS => ?_)
    refine t_alloc Try.zeroValue3 rfl hS (fun g9 w hS => ?_)
    refine t_store (v := (.int _ _)) Try.sizeOf3 hS (by repeat first | exact .here _ _ | assumption | apply Pick.there) rfl rfl rfl rfl rfl rfl (fun w hS => ?_)
    refine t_store (v := (.int _ _)) Try.sizeOf3 hS (by repeat first | exact .here _ _ | assumption | apply Pick.there) rfl rfl rfl rfl rfl rfl (fun w hS => ?_)
    refine t_nil ?_
    refine m_seq ?_
    refine m_seq ?_
    refine m_of ?_
    refine c_region ?_
    refine t_q (q_load1 Try.isAgg25 rfl (hS.cell (by repeat first | exact .here _ _ | assumption | apply Pick.there) rfl)) ?_
    refine t_call Try.call23 (each_calls hS) rfl ?_
    rintro e w ⟨gE, rfl, hS⟩
    refine ⟨_, rfl, ?_⟩
    refine t_nil ?_
    refine m_block ?_
    replace hS : St W w [blkA gE 25 [.slice A bs.length c], blkA g1 25 [.slice A bs.length c], blkA g2 4 [.bool false], blkA g8 3 [.int .i64 ((pos bs ([] : List It).length : Nat) : Int)], blkA g9 3 [.int .i64 (([] : List It).length : Int)]] := (((((hS.pick (A := blkA g9 _ _) (by repeat first | exact .here _ _ | assumption | apply Pick.there)).pick (A := blkA g8 _ _) (by repeat first | exact .here _ _ | assumption | apply Pick.there)).pick (A := blkA g2 _ _) (by repeat first | exact .here _ _ | assumption | apply Pick.there)).pick (A := blkA g1 25 [.slice A bs.length c]) (by repeat first | exact .here _ _ | assumption | apply Pick.there)).pick (A := blkA gE 25 [.slice A bs.length c]) (by repeat first | exact .here _ _ | assumption | apply Pick.there))
    refine m_range (encs := It.vals) (gf := 74) (fun pre => [blkA gE 25 [.slice A bs.length c], blkA g1 25 [.slice A bs.length c], blkA g2 4 [.bool false], blkA g8 3 [.int .i64 ((pos bs pre.length : Nat) : Int)], blkA g9 3 [.int .i64 (pre.length : Int)]]) (fun _ _ => [pureA False (blkA 0 0 [])]) (It.give) (It.nxt bs) (fun xs => whole bs xs.length = true ∧ tkE (bs.drop (pos bs xs.length)) ≠ 0) ?env hS rfl Try.call74 (fun _ => rfl) ?ass ?body ?hit ?done ?exit ?ret
    case ass =>
      intro x w K hK
      refine c_seq ?_
      refine c_region ?_
      refine t_q (q_as (.int _ _) rfl) ?_
      refine t_nil ?_
      refine c_region ?_
      refine t_q (q_as (.slice _ _ _) rfl) ?_
      refine t_nil ?_
      exact hK
    case body =>
      intro E pre x w hn hS
      obtain ⟨hw2, hkx, hlx⟩ := hn
      have hw0 : whole bs pre.length = true := by rw [whole, Bool.and_eq_true] at hw2; exact hw2.1
      have he0 : tkE (bs.drop (pos bs pre.length)) = 0 := by rw [whole, Bool.and_eq_true, decide_eq_true_eq] at hw2; exact hw2.2
      have hpl := pos_le hw0
      have hnl := tkN_le he0
      have hdl : (bs.drop (pos bs pre.length)).length = bs.length - pos bs pre.length := List.length_drop
      replace hS : St W w (rowA 5 1 x.A x.l.length x.c (x.l.map bv) :: blkA gE 25 [.slice A bs.length c] :: blkA g1 25 [.slice A bs.length c] :: blkA g2 4 [.bool false] :: blkA g8 3 [.int .i64 ((pos bs pre.length : Nat) : Int)] :: blkA g9 3 [.int .i64 (pre.length : Int)] :: E) := hS
      refine c_block ?_
      refine c_seq ?_
      refine c_region ?_
      refine t_q (q_load1 Try.isAgg25 rfl (hS.cell (by repeat first | exact .here _ _ | assumption | apply Pick.there) rfl)) ?_
      refine t_q (q_load1 Try.isAgg3 rfl (hS.cell (by repeat first | exact .here _ _ | assumption | apply Pick.there) rfl)) ?_
      refine t_q (q_cast (v' := .slice (if c = pos bs pre.length then A else A.map (·.add (pos bs pre.length * 1))) (bs.drop (pos bs pre.length)).length (c - pos bs pre.length)) (q_slice Try.runUnderlying25 Try.sizeOf5 rfl rfl ⟨_, _, rfl, by omega, by omega, rfl⟩) (by rw [List.length_drop]; rfl)) ?_
      refine t_call Try.call24 (qtake_calls (Rd.st (drop_rd hR (k := pos bs pre.length) (c := c) (by omega) ⟨hc.1, by omega⟩) hS) ⟨by rw [List.length_drop]; omega, by rw [List.length_drop]; omega⟩) rfl ?_
      rintro e w ⟨A51, m51, c51, rfl, hm51, hT⟩
      refine ⟨_, rfl, ?_⟩
      have hS : St W w (_ :: _) := hS.lift hT
      subst hm51
      have htm := (tk_ok he0).2.2
      refine t_q (q_mv (.tuple _) rfl) ?_
      refine t_q (q_extract rfl rfl) ?_
      refine t_q (q_extract rfl rfl) ?_
      refine t_q (q_extract rfl rfl) ?_
      refine t_q (q_extract rfl rfl) ?_
      refine t_q (q_as (.int _ _) rfl) ?_
      refine t_q (q_as (.slice _ _ _) rfl) ?_
      refine t_q (q_as (.int _ _) rfl) ?_
      refine t_q (q_as (.int _ _) rfl) ?_
      refine t_nil ?_
      refine c_seq ?_
      refine c_seq ?_
      refine c_region ?_
      refine t_q (q_mv (.int _ _) rfl) ?_
      refine t_q (q_cast (v' := .bool false) (q_neq rfl rfl) (by rw [he0]; rfl)) ?_
      refine t_q (q_mv (.bool _) rfl) ?_
      refine t_yes rfl rfl rfl ?_
      refine t_q (q_mv (.int _ _) rfl) ?_
      refine t_yes rfl rfl rfl ?_
      refine t_q (q_mv (.int _ _) rfl) ?_
      refine t_yes rfl rfl rfl ?_
      refine t_q (q_cast (v' := .bool false) (q_neq rfl rfl) (by rw [hkx]; simp)) ?_
      refine t_q (q_pick_f rfl rfl) ?_
      refine t_q (q_mv (.bool _) rfl) ?_
      refine t_yes rfl rfl rfl ?_
      refine t_q (q_mv (.slice _ _ _) rfl) ?_
      refine t_yes rfl rfl rfl ?_
      refine t_q (q_string Try.runUnderlying25 Try.runUnderlying5 Try.runUnderlying9 rfl rfl (hS.rowRd (A := A51) (c := c51) (bs := tkL (bs.drop (pos bs pre.length))) (by repeat first | exact .here _ _ | assumption | apply Pick.there) rfl)) ?_
      refine t_yes rfl rfl rfl ?_
      refine t_q (q_mv (.slice _ _ _) rfl) ?_
      refine t_yes rfl rfl rfl ?_
      refine t_q (q_string Try.runUnderlying25 Try.runUnderlying5 Try.runUnderlying9 rfl rfl (hS.rowRd (A := x.A) (c := x.c) (bs := x.l) (by repeat first | exact .here _ _ | assumption | apply Pick.there) rfl)) ?_
      refine t_yes rfl rfl rfl ?_
      refine t_q (q_cast (v' := .bool false) (q_neq_string rfl rfl) (by rw [hlx]; simp)) ?_
      refine t_q (q_pick_f rfl rfl) ?_
      refine t_nil ?_
      refine c_cond_f rfl rfl ?_
      refine c_skip ?_
      refine c_seq ?_
      refine c_region ?_
      refine t_q (q_load1 Try.isAgg3 rfl (hS.cell (by repeat first | exact .here _ _ | assumption | apply Pick.there) rfl)) ?_
      refine t_q (q_mv (.int _ _) rfl) ?_
      refine t_q (q_add_i64 rfl rfl (by omega)) ?_
      refine t_store (v := (.int _ _)) Try.sizeOf3 hS (by repeat first | exact .here _ _ | assumption | apply Pick.there) rfl rfl rfl rfl rfl rfl (fun w hS => ?_)
      replace hS := hS.recast (show blkA g8 3 _ = blkA g8 3 [.int .i64 ((pos bs (pre ++ [x]).length : Nat) : Int)] from by rw [show (pre ++ [x]).length = pre.length + 1 by simp]; exact congrArg (fun n => blkA g8 3 [.int .i64 n]) (by rw [(tk_ok he0).2.2, pos]; omega))
      refine t_nil ?_
      refine c_region ?_
      refine t_q (q_load1 Try.isAgg3 rfl (hS.cell (by repeat first | exact .here _ _ | assumption | apply Pick.there) rfl)) ?_
      refine t_q (q_add_i64 rfl rfl (by omega)) ?_
      refine t_store (v := (.int _ _)) Try.sizeOf3 hS (by repeat first | exact .here _ _ | assumption | apply Pick.there) rfl rfl rfl rfl rfl rfl (fun w hS => ?_)
      replace hS := hS.recast (show blkA g9 3 _ = blkA g9 3 [.int .i64 ((pre ++ [x]).length : Int)] from by rw [show (pre ++ [x]).length = pre.length + 1 by simp]; rfl)
      refine t_nil ?_
      replace hS := (hS.pick (A := rowA 5 1 A51 _ c51 _) (by repeat first | exact .here _ _ | assumption | apply Pick.there)).drop
      replace hS := (hS.pick (A := rowA 5 1 x.A _ x.c _) (by repeat first | exact .here _ _ | assumption | apply Pick.there)).drop
      show St W _ (blkA gE 25 [.slice A bs.length c] :: blkA g1 25 [.slice A bs.length c] :: blkA g2 4 [.bool false] :: blkA g8 3 [.int .i64 ((pos bs (pre ++ [x]).length : Nat) : Int)] :: blkA g9 3 [.int .i64 ((pre ++ [x]).length : Int)] :: E)
      exact (((((hS.pick (A := blkA g9 3 [.int .i64 ((pre ++ [x]).length : Int)]) (by repeat first | exact .here _ _ | assumption | apply Pick.there)).pick (A := blkA g8 3 [.int .i64 ((pos bs (pre ++ [x]).length : Nat) : Int)]) (by repeat first | exact .here _ _ | assumption | apply Pick.there)).pick (A := blkA g2 4 [.bool false]) (by repeat first | exact .here _ _ | assumption | apply Pick.there)).pick (A := blkA g1 25 [.slice A bs.length c]) (by repeat first | exact .here _ _ | assumption | apply Pick.there)).pick (A := blkA gE 25 [.slice A bs.length c]) (by repeat first | exact .here _ _ | assumption | apply Pick.there))
    case hit =>
      intro l J Jx h1 h2 h3 hY w h0
      exact each1_calls hR ⟨hc.1, by omega⟩ (fun pre M w h => by obtain ⟨E, hS⟩ := h1 pre M w h; exact ⟨_, hS⟩) h2 h3 hY h0
    case exit =>
      intro D1 i pre w hS
      exact hS.pure.1.elim
    case ret =>
      intro D1 pre w hS
      exact hS.pure.1.elim
    case done =>
      intro D1 xs w hx hS
      replace hS : St W w [blkA gE 25 [.slice A bs.length c], blkA g1 25 [.slice A bs.length c], blkA g2 4 [.bool false], blkA g8 3 [.int .i64 ((pos bs xs.length : Nat) : Int)], blkA g9 3 [.int .i64 (xs.length : Int)], objA D1 doneObj] := hS
      obtain rfl := whole_uniq hw hne hx.1 hx.2
      refine m_of ?_
      refine c_seq ?_
      refine c_region ?_
      refine t_q (q_load1 Try.isAgg3 rfl (hS.cell (by repeat first | exact .here _ _ | assumption | apply Pick.there) rfl)) ?_
      refine t_q (q_mv (.int _ _) rfl) ?_
      refine t_q (q_cast (v' := .bool true) (q_eql rfl rfl) (by simp)) ?_
      refine t_q (q_mv (.bool _) rfl) ?_
      refine t_yes rfl rfl rfl ?_
      refine t_q (q_load1 Try.isAgg3 rfl (hS.cell (by repeat first | exact .here _ _ | assumption | apply Pick.there) rfl)) ?_
      refine t_yes rfl rfl rfl ?_
      refine t_q (q_mv (.int _ _) rfl) ?_
      refine t_yes rfl rfl rfl ?_
      refine t_q (q_cast (v' := .bool true) (q_eql rfl rfl) (by simp)) ?_
      refine t_q (q_pick_t rfl rfl) ?_
      refine t_store (v := (.bool _)) Try.sizeOf4 hS (by repeat first | exact .here _ _ | assumption | apply Pick.there) rfl rfl rfl rfl rfl rfl (fun w hS => ?_)
      refine t_nil ?_
      refine c_ret ?_
      refine l_mark (hS.obj (g := D1) (by repeat first | exact .here _ _ | assumption | apply Pick.there)) ?_
      replace hS := (hS.pick (A := objA D1 _) (by repeat first | exact .here _ _ | assumption | apply Pick.there)).setObj (.deferred none)
      refine l_nil ?_
      refine r_one rfl (res1_cell1 Try.isAgg4 rfl (hS.cell (by repeat first | exact .here _ _ | assumption | apply Pick.there) rfl)) ?_
      exact ⟨rfl, hS.nil⟩
end Go.Proofs.Ytlppgpidakfnlaa
