/- Any snapshot has the document's bytes, or is refused; it is told as it was: the walk. -/
import Derived.Test.YtlppgpidakfnlaaAu
namespace Go.Proofs.Ytlppgpidakfnlaa
open Go Go.RowKit Go.Lib
variable {W : World}
attribute [local irreducible] blkA rowA rdrA rdO dskA arA
set_option maxHeartbeats 1000000 in
set_option maxRecDepth 100000 in
theorem ArchiveWrites_calls {x : SnapV} {m : Sl UInt8} (hx : x.Ok W) (hm : RdB W m.A m.l) (hml : m.l.length ≤ 9223372036854775807) : Calls Try.prog 5 #[.agg x.cells.toArray, .slice m.A m.l.length m.c] W fun e w' => e = .returned (.bool true) ∧ St W w' [] := by
  obtain ⟨ix, tx, bd⟩ := x
  obtain ⟨i, hi⟩ : ∃ i : Nat, ix = (i : Int) := ⟨ix.toNat, by have := hx.index; simp only at this; omega⟩
  obtain ⟨t, ht⟩ : ∃ t : Nat, tx = (t : Int) := ⟨tx.toNat, by have := hx.term; simp only at this; omega⟩
  subst hi ht
  have hi : i < 18446744073709551616 := by have := hx.index; simp only at this; omega
  have ht : t < 18446744073709551616 := by have := hx.term; simp only at this; omega
  have hbR : RdB W bd.A bd.l := hx.body.rd
  have hbc : bd.l.length ≤ bd.c ∧ bd.l.length ≤ 9223372036854775807 := ⟨hx.body.le.1, by have := hx.body.le; simp only at this; omega⟩
  have hS := St.init W
  refine calls_of_wpE (args := [_, _]) Try.func5 rfl rfl rfl ?_
  refine c_seq ?_
  refine c_region ?_
  refine t_box (v := (.agg _)) rfl rfl hS (fun g2 w hS => ?_)
  replace hS := hS.recast (show _ = blkA g2 45 [.int .u64 (i : Int), .int .u64 (t : Int), .slice bd.A bd.l.length bd.c] from rfl)
  refine t_q (q_assign) ?_
  refine t_nil ?_
  refine c_seq ?_
  refine c_seq ?_
  refine c_region ?_
  refine t_q (q_load_blk Try.isAgg45 Try.sizeOf45 rfl (hS.blk (by repeat first | exact .here _ _ | assumption | apply Pick.there)) rfl) ?_
  refine t_call Try.call25 (alight_calls) rfl ?_
  rintro e w ⟨rfl, hT⟩
  refine ⟨_, rfl, ?_⟩
  replace hS := hS.after hT
  refine t_q (q_not rfl) ?_
  refine t_q (q_mv (.bool _) rfl) ?_
  refine t_case 14 rfl ?_ ?_
  · intro hg2
    refine t_no rfl rfl (by rw [(congrArg not (not_back hg2))]; decide) ?_
    refine t_no rfl rfl (by rw [(congrArg not (not_back hg2))]; decide) ?_
    refine t_no rfl rfl (by rw [(congrArg not (not_back hg2))]; decide) ?_
    refine t_q (q_pick_t rfl (congrArg not (not_back hg2))) ?_
    refine t_nil ?_
    refine c_cond_t rfl rfl ?_
    refine c_seq ?_
    refine c_region ?_
    refine t_call Try.call26 (alives_calls) rfl ?_
    rintro e w ⟨rfl, hT⟩
    refine ⟨_, rfl, ?_⟩
    replace hS := hS.after hT
    refine t_q (q_as (.bool _) rfl) ?_
    refine t_nil ?_
    refine c_ret ?_
    refine r_one rfl rfl ?_
    exact ⟨rfl, hS.nil⟩
  · intro hg2
    refine t_yes rfl rfl (congrArg not (not_back hg2)) ?_
    refine t_q (q_mv (.slice _ _ _) rfl) ?_
    refine t_yes rfl rfl (congrArg not (not_back hg2)) ?_
    refine t_q (q_len_slice Try.runUnderlying25 rfl) ?_
    refine t_yes rfl rfl (congrArg not (not_back hg2)) ?_
    refine t_q (q_gtr rfl rfl) ?_
    refine t_q (q_pick_f rfl (congrArg not (not_back hg2))) ?_
    refine t_nil ?_
    refine c_cond rfl ?_ ?_
    · intro hc5
      have hc5d := of_decide_eq_true hc5
      refine c_seq ?_
      refine c_region ?_
      refine t_call Try.call26 (alives_calls) rfl ?_
      rintro e w ⟨rfl, hT⟩
      refine ⟨_, rfl, ?_⟩
      replace hS := hS.after hT
      refine t_q (q_as (.bool _) rfl) ?_
      refine t_nil ?_
      refine c_ret ?_
      refine r_one rfl rfl ?_
      exact ⟨rfl, hS.nil⟩
    · intro hc5
      have hc5d := of_decide_eq_false hc5
      refine c_skip ?_
      refine c_seq ?_
      refine c_region ?_
      refine t_q (q_load_blk Try.isAgg45 Try.sizeOf45 rfl (hS.blk (by repeat first | exact .here _ _ | assumption | apply Pick.there)) rfl) ?_
      refine t_call Try.call27 (abytes_calls (Rd.st hbR hS) hbc hi ht) rfl ?_
      rintro e w ⟨A22, m22, c22, rfl, hm22, hT⟩
      refine ⟨_, rfl, ?_⟩
      have hS : St W w (_ :: _) := hS.lift hT
      subst hm22
      refine t_q (q_mv (.tuple _) rfl) ?_
      refine t_q (q_extract rfl rfl) ?_
      refine t_q (q_extract rfl rfl) ?_
      refine t_q (q_as (.slice _ _ _) rfl) ?_
      refine t_q (q_as (.int _ _) rfl) ?_
      refine t_nil ?_
      refine c_seq ?_
      refine c_region ?_
      refine t_q (q_load_blk Try.isAgg45 Try.sizeOf45 rfl (hS.blk (by repeat first | exact .here _ _ | assumption | apply Pick.there)) rfl) ?_
      refine t_call Try.call28 (qabytes_calls (Rd.st hbR hS) hbc hi ht) rfl ?_
      rintro e w ⟨A27, m27, c27, rfl, hm27, hT⟩
      refine ⟨_, rfl, ?_⟩
      have hS : St W w (_ :: _) := hS.lift hT
      subst hm27
      refine t_q (q_mv (.tuple _) rfl) ?_
      refine t_q (q_extract rfl rfl) ?_
      refine t_q (q_extract rfl rfl) ?_
      refine t_q (q_as (.slice _ _ _) rfl) ?_
      refine t_q (q_as (.int _ _) rfl) ?_
      refine t_nil ?_
      refine c_seq ?_
      refine c_seq ?_
      refine c_region ?_
      refine t_q (q_mv (.slice _ _ _) rfl) ?_
      refine t_q (q_string Try.runUnderlying25 Try.runUnderlying5 Try.runUnderlying9 rfl rfl (hS.rowRd (A := A22) (c := c22) (bs := snL i t bd.l) (by repeat first | exact .here _ _ | assumption | apply Pick.there) rfl)) ?_
      refine t_q (q_mv (.slice _ _ _) rfl) ?_
      refine t_q (q_string Try.runUnderlying25 Try.runUnderlying5 Try.runUnderlying9 rfl rfl (hS.rowRd (A := A27) (c := c27) (bs := snL i t bd.l) (by repeat first | exact .here _ _ | assumption | apply Pick.there) rfl)) ?_
      refine t_q (q_cast (v' := .bool false) (q_neq_string rfl rfl) (by simp)) ?_
      refine t_q (q_mv (.bool _) rfl) ?_
      refine t_yes rfl rfl rfl ?_
      refine t_q (q_mv (.int _ _) rfl) ?_
      refine t_yes rfl rfl rfl ?_
      refine t_q (q_mv (.int _ _) rfl) ?_
      refine t_yes rfl rfl rfl ?_
      refine t_q (q_cast (v' := .bool false) (q_neq rfl rfl) (by simp)) ?_
      refine t_q (q_pick_f rfl rfl) ?_
      refine t_nil ?_
      refine c_cond_f rfl rfl ?_
      refine c_skip ?_
      refine c_seq ?_
      refine c_seq ?_
      refine c_region ?_
      refine t_q (q_mv (.int _ _) rfl) ?_
      refine t_q (q_neq rfl rfl) ?_
      refine t_nil ?_
      refine c_cond rfl ?_ ?_
      · intro hc16
        have hc16d := of_decide_eq_true hc16
        refine c_seq ?_
        refine c_region ?_
        refine t_call Try.call26 (alives_calls) rfl ?_
        rintro e w ⟨rfl, hT⟩
        refine ⟨_, rfl, ?_⟩
        replace hS := hS.after hT
        refine t_q (q_as (.bool _) rfl) ?_
        refine t_nil ?_
        refine c_ret ?_
        refine r_one rfl rfl ?_
        exact ⟨rfl, hS.nil⟩
      · intro hc16
        have hc16d := of_decide_eq_false hc16
        have hE0 : snE i t bd.l = 0 := by omega
        have hL0 : snL i t bd.l = snB i t bd.l := by unfold snL; rw [if_pos hE0]
        have hb5 := (sn_lt hE0).2.2
        have hsl0 := snB_len (b := bd.l) hi ht hb5
        have hsl : (snL i t bd.l).length ≤ 1048576 := by rw [hL0]; omega
        have hm1 : m.l.length ≤ 1000 := by omega
        have htl : telS (snL i t bd.l ++ m.l) = (⟨i, t, bd.l⟩ : Sn) := by unfold telS; rw [hL0, tel_snB hE0 m.l]; rfl
        have hti : (tel (snL i t bd.l ++ m.l)).isSome = true := by rw [hL0, tel_snB hE0 m.l]; rfl
        refine c_skip ?_
        refine c_seq ?_
        refine c_region ?_
        refine t_build_bytes [] Try.runUnderlying25 Try.sizeOf5 Try.zeroValue5 rfl rfl (by simp; try omega) (by decide) hS (fun g44 w hS => ?_)
        refine t_q (q_mv (.slice _ _ _) rfl) ?_
        refine t_append_own (size := 1) (bytes := 1) Try.underlying25 (info_of Try.type5) rfl rfl rfl rfl (by decide) hS (by repeat first | exact .here _ _ | assumption | apply Pick.there) (by repeat first | exact .here _ _ | assumption | apply Pick.there) rfl rfl (by first | exact allOne_bv _ | exact allOne_ints _ _ | rfl) (by unfold maxLen; omega) (by omega) (fun A46 c46 w hS => ?_)
        skip
        refine t_q (q_mv (.slice _ _ _) rfl) ?_
        refine t_append (size := 1) (bytes := 1) Try.underlying25 (info_of Try.type5) rfl rfl rfl rfl (by decide) hS (by repeat first | exact .here _ _ | assumption | apply Pick.there) (Rd.st hm hS) rfl rfl (fun _ _ => rfl) (by unfold maxLen; omega) (by omega) (fun A48 c48 w hS => ?_)
        replace hS := hS.recast (show _ = rowA 5 1 A48 (snL i t bd.l ++ m.l).length c48 (((snL i t bd.l ++ m.l)).map bv) from by rw [flat_bsf, show List.map bv (List.map bvi []) = [] from rfl, List.nil_append, ← List.map_append, Nat.zero_add, ← List.length_append])
        rw [show 0 + (snL i t bd.l).length + m.l.length = (snL i t bd.l ++ m.l).length from by rw [List.length_append, Nat.zero_add]]
        have hb48 := hS.rowRd (A := A48) (c := c48) (bs := (snL i t bd.l ++ m.l)) (.here _ _) rfl
        have hle48 := hS.row_le (.here _ _)
        refine t_call Try.call29 (atell_calls (bs := (snL i t bd.l ++ m.l)) hb48 ⟨hle48, by rw [List.length_append]; omega⟩) rfl ?_
        rintro e w ⟨A49, c49, rfl, hT⟩
        refine ⟨_, rfl, ?_⟩
        have hS : St W w (_ :: _) := hS.lift hT
        rw [htl, hti]
        rw [htl] at hS
        refine t_q (q_mv (.tuple _) rfl) ?_
        refine t_q (q_extract rfl rfl) ?_
        refine t_q (q_extract rfl rfl) ?_
        refine t_alloc Try.zeroValue45 rfl hS (fun g9 w hS => ?_)
        refine t_store (v := (.agg _)) Try.sizeOf45 hS (by repeat first | exact .here _ _ | assumption | apply Pick.there) rfl rfl rfl rfl rfl rfl (fun w hS => ?_)
        replace hS := hS.recast (show blkA g9 45 _ = blkA g9 45 [.int .u64 (i : Int), .int .u64 (t : Int), .slice A49 bd.l.length c49] from rfl)
        refine t_q (q_as (.bool _) rfl) ?_
        refine t_nil ?_
        refine c_seq ?_
        refine c_region ?_
        refine t_q (q_mv (.bool _) rfl) ?_
        refine t_q (q_mv (.bool _) rfl) ?_
        refine t_yes rfl rfl rfl ?_
        refine t_q (q_load_blk Try.isAgg45 Try.sizeOf45 rfl (hS.blk (by repeat first | exact .here _ _ | assumption | apply Pick.there)) rfl) ?_
        refine t_yes rfl rfl rfl ?_
        refine t_q (q_load_blk Try.isAgg45 Try.sizeOf45 rfl (hS.blk (by repeat first | exact .here _ _ | assumption | apply Pick.there)) rfl) ?_
        refine t_yes rfl rfl rfl ?_
        refine t_call Try.call30 (asame_calls (a := bd.l) (b := bd.l) (hS.rowRd (A := A49) (c := c49) (bs := bd.l) (by repeat first | exact .here _ _ | assumption | apply Pick.there) rfl) (Rd.st hbR hS)) rfl ?_
        rintro e w ⟨rfl, hT⟩
        refine ⟨_, rfl, ?_⟩
        replace hS := hS.after hT
        rw [show decide ((i : Int) = (i : Int) ∧ (t : Int) = (t : Int) ∧ bd.l = bd.l) = true from decide_eq_true ⟨rfl, rfl, rfl⟩]
        refine t_q (q_pick_t rfl rfl) ?_
        refine t_q (q_mv (.bool _) rfl) ?_
        refine t_yes rfl rfl rfl ?_
        refine t_call Try.call26 (alives_calls) rfl ?_
        rintro e w ⟨rfl, hT⟩
        refine ⟨_, rfl, ?_⟩
        replace hS := hS.after hT
        refine t_q (q_pick_t rfl rfl) ?_
        refine t_q (q_as (.bool _) rfl) ?_
        refine t_nil ?_
        refine c_ret ?_
        refine r_one rfl rfl ?_
        exact ⟨rfl, hS.nil⟩
end Go.Proofs.Ytlppgpidakfnlaa
