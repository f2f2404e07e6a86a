/- Any table has the document's bytes, and is read as it was: the walk. -/
import Derived.Test.YtcikoealneldkaaM3
import Derived.Test.YtcikoealneldkaaAs
import Derived.Test.YtcikoealneldkaaCl
namespace Go.Proofs.Ytcikoealneldkaa
open Go Go.RowKit Go.Lib
variable {W : World}
theorem aback_calls {w : World} {L R : List Asn} {g : Nat} {n : Int} {K : AckL} (hS : St W w L) (pk : Pick L (rdrA W 106 g ⟨tabB n.toNat (ofF K) ++ [], false⟩) R) (hn : 1 ≤ n ∧ n ≤ 7) (hok : AckOk n K) :
  Calls Try.prog 86 #[.pointer (some ⟨g, 0, none⟩)] w fun e w' => e = .returned (.tuple #[.agg (tcs n (ofF K)).toArray, .bool true]) ∧ St W w' (rdrA W 106 g ⟨[], false⟩ :: R) := by
  have h := aread_calls hS pk
  obtain ⟨e1, e2, e3, e4⟩ := ack_back hn hok []
  rw [e1, e2, e3, e4] at h
  exact h
theorem tcs_lits {n : Int} {s : Nat → Int} (hn : -9223372036854775808 ≤ n ∧ n ≤ 9223372036854775807) (hs : Sb s) : Try.prog.keyLits 3 27 (tcs n s) = some (Lit.int .i64 n :: (sl s).map (Lit.int .u64)) := by
  have h2 : Try.prog.keyLits 2 25 ((sl s).map (Value.int .u64)) = some ((sl s).map (Lit.int .u64)) := keyLits_ints Try.underlying25 Try.underlying24 (by kernel_rfl) (by kernel_rfl) rfl (sl_wf hs)
  have hw : (Lit.int .i64 n).wf = true := by
    unfold Lit.wf
    simp [IntKind.min, IntKind.max, IntKind.bits, IntKind.signed]
    omega
  have h1 : Try.prog.keyLits 2 3 [.int .i64 n] = some [.int .i64 n] := keyLits_int1 Try.underlying3 hw
  have c3 : Try.prog.cellsOf 3 = 1 := by kernel_rfl
  have c25 : Try.prog.cellsOf 25 = 7 := by kernel_rfl
  have c27 : Try.prog.cellsOf 27 = 8 := by kernel_rfl
  show Try.prog.keyLits (2 + 1) 27 _ = _
  unfold Program.keyLits
  simp only [Try.underlying27]
  rw [if_pos ⟨by rw [c27]; rfl, by simp⟩]
  simp only [List.mapM_cons, List.mapM_nil, c3, c25]
  have e1 : ((tcs n s).drop 0).take 1 = [.int .i64 n] := rfl
  have e2 : ((tcs n s).drop 1).take 7 = (sl s).map (Value.int .u64) := rfl
  rw [e1, e2, h1, h2]
  rfl
theorem tcs_formed {n : Int} {s : Nat → Int} : Value.formed Try.prog 27 (.agg (tcs n s).toArray) = true := by
  have c27 : Try.prog.cellsOf 27 = 8 := by kernel_rfl
  simp [Value.formed, Try.underlying27, c27, tcs]
theorem q_eql_tab {ρ : Env} {w : World} {ty yt : TypeId} {x y : Operand} {n : Int} {s : Nat → Int} (hx : ev ρ x = .agg (tcs n s).toArray) (hy : ev ρ y = .agg (tcs n s).toArray) (hn : -9223372036854775808 ≤ n ∧ n ≤ 9223372036854775807) (hs : Sb s) :
    qv Try.prog (.binOp .eql 27 x y yt) ty ρ w (.bool true) :=
  q_eql_lits (m := 3) (b := true) hx hy (by kernel_rfl) (by decide) (by kernel_rfl) tcs_formed tcs_formed (tcs_lits hn hs) (tcs_lits hn hs) ⟨fun _ => rfl, fun _ => rfl⟩

set_option maxRecDepth 100000 in
theorem AcksWrite_calls {A : Option Addr} {c : Nat} {l : List AckOp} {n : Int} (hl : RdOp W A l) (hm : l.length ≤ maxLen) :
  Calls Try.prog 12 #[.int .i64 n, .slice A l.length c] W fun e w' => e = .returned (.bool true) ∧ St W w' [] := by
  have hS := St.init W
  unfold maxLen at hm
  refine calls_of_wpE (args := [_, _]) Try.func12 rfl rfl rfl ?_
  refine c_seq ?_
  refine c_region ?_
  refine t_q (q_assign) ?_
  refine t_nil ?_
  refine c_seq ?_
  refine c_seq ?_
  refine c_region ?_
  refine t_q (q_mv (.slice _ _ _) rfl) ?_
  refine t_q (q_len_slice Try.runUnderlying22 rfl) ?_
  refine t_q (q_gtr rfl rfl) ?_
  refine t_q (q_mv (.bool _) rfl) ?_
  refine t_case 17 rfl ?_ ?_
  · intro hg2
    have hg2d := of_decide_eq_true hg2
    refine t_no rfl rfl (by rw [hg2]; decide) ?_
    refine t_no rfl rfl (by rw [hg2]; decide) ?_
    refine t_q (q_pick_t rfl hg2) ?_
    refine t_q (q_mv (.bool _) rfl) ?_
    refine t_no rfl rfl (by decide) ?_
    refine t_no rfl rfl (by decide) ?_
    refine t_q (q_pick_t rfl rfl) ?_
    refine t_nil ?_
    refine c_cond_t rfl rfl ?_
    refine c_seq ?_
    refine c_region ?_
    refine t_call Try.call29 (alives_calls) rfl ?_
    rintro e w ⟨rfl, hT⟩
    refine ⟨_, rfl, ?_⟩
    replace hS := hS.after hT
    refine t_q (q_as (.bool _) rfl) ?_
    refine t_nil ?_
    refine c_ret ?_
    refine r_one rfl rfl ?_
    exact ⟨rfl, hS.nil⟩
  · intro hg2
    have hg2d := of_decide_eq_false hg2
    refine t_yes rfl rfl hg2 ?_
    refine t_q (q_mv (.int _ _) rfl) ?_
    refine t_yes rfl rfl hg2 ?_
    refine t_q (q_lss rfl rfl) ?_
    refine t_q (q_pick_f rfl hg2) ?_
    refine t_q (q_mv (.bool _) rfl) ?_
    refine t_case 21 rfl ?_ ?_
    · intro hg5
      have hg5d := of_decide_eq_true hg5
      refine t_no rfl rfl (by rw [hg5]; decide) ?_
      refine t_no rfl rfl (by rw [hg5]; decide) ?_
      refine t_q (q_pick_t rfl hg5) ?_
      refine t_nil ?_
      refine c_cond_t rfl rfl ?_
      refine c_seq ?_
      refine c_region ?_
      refine t_call Try.call29 (alives_calls) rfl ?_
      rintro e w ⟨rfl, hT⟩
      refine ⟨_, rfl, ?_⟩
      replace hS := hS.after hT
      refine t_q (q_as (.bool _) rfl) ?_
      refine t_nil ?_
      refine c_ret ?_
      refine r_one rfl rfl ?_
      exact ⟨rfl, hS.nil⟩
    · intro hg5
      have hg5d := of_decide_eq_false hg5
      refine t_yes rfl rfl hg5 ?_
      refine t_q (q_mv (.int _ _) rfl) ?_
      refine t_yes rfl rfl hg5 ?_
      refine t_q (q_gtr rfl rfl) ?_
      refine t_q (q_pick_f rfl hg5) ?_
      refine t_nil ?_
      refine c_cond rfl ?_ ?_
      · intro hc8
        have hc8d := of_decide_eq_true hc8
        refine c_seq ?_
        refine c_region ?_
        refine t_call Try.call29 (alives_calls) rfl ?_
        rintro e w ⟨rfl, hT⟩
        refine ⟨_, rfl, ?_⟩
        replace hS := hS.after hT
        refine t_q (q_as (.bool _) rfl) ?_
        refine t_nil ?_
        refine c_ret ?_
        refine r_one rfl rfl ?_
        exact ⟨rfl, hS.nil⟩
      · intro hc8
        have hc8d := of_decide_eq_false hc8
        have h60 : l.length ≤ 60 := by omega
        have hn : 1 ≤ n ∧ n ≤ 7 := by omega
        refine c_skip ?_
        refine c_seq ?_
        refine c_region ?_
        refine t_q (q_mv (.int _ _) rfl) ?_
        refine t_call Try.call30 (new_in hn) rfl ?_
        rintro e w ⟨rfl, hT⟩
        refine ⟨_, rfl, ?_⟩
        replace hS := hS.after hT
        refine t_q (q_mv (.tuple _) rfl) ?_
        refine t_q (q_extract rfl rfl) ?_
        refine t_q (q_extract rfl rfl) ?_
        refine t_alloc Try.zeroValue27 rfl hS (fun g5 w hS => ?_)
        refine t_store (v := (.agg _)) Try.sizeOf27 hS (by repeat first | exact .here _ _ | assumption | apply Pick.there) rfl rfl rfl rfl rfl rfl (fun w hS => ?_)
        replace hS := hS.recast (show blkA g5 27 _ = blkA g5 27 (tcs n (ofF [])) from rfl)
        refine t_q (q_as (.int _ _) rfl) ?_
        refine t_nil ?_
        refine c_seq ?_
        refine c_region ?_
        refine t_q (q_mv (.int _ _) rfl) ?_
        refine t_q (q_build (qs := [(0, 1), (1, 1)]) [(.int _ _), (.slice _ _ _)] Try.zeroValue35 Try.runUnderlying35 ⟨rfl, Try.sizeOf3, rfl, Try.sizeOf33, trivial⟩ rfl rfl) ?_
        refine t_alloc Try.zeroValue35 rfl hS (fun g7 w hS => ?_)
        refine t_store (v := (.agg _)) Try.sizeOf35 hS (by repeat first | exact .here _ _ | assumption | apply Pick.there) rfl rfl rfl rfl rfl rfl (fun w hS => ?_)
        refine t_nil ?_
        refine c_seq ?_
        refine c_seq ?_
        refine c_region ?_
        refine t_q (q_mv (.slice _ _ _) rfl) ?_
        refine t_q (q_len_slice Try.runUnderlying22 rfl) ?_
        refine t_q (q_move) ?_
        refine t_nil ?_
        refine c_block ?_
        refine c_loop [9, 35, 36, 37, 38, 39, 40, 41, 42, 43, 44, 45, 46, 47, 48, 49, 50, 51, 52, 53, 54, 55, 56, 57] (fun k σ w => ∃ (j : Nat) (L : AckL) (A' : Option Addr) (m c' : Nat), σ 35 = .int .i64 (j : Int) ∧ j ≤ l.length ∧ l.length - j ≤ k ∧ L.length ≤ j ∧ AckOk n L ∧ m = L.length ∧ St W w [blkA g5 27 (tcs n (ofF L)), blkA g7 35 [.int .i64 n, .slice A' m c'], rowA 189 2 A' m c' ((L).flatMap ackC)]) (l.length) rfl (⟨0, [], none, 0, 0, rfl, by omega, by omega, Nat.le_refl _, (fun a h => by cases h), rfl, (((hS.nilrow 189 2).pick (A := blkA g7 35 _) (by repeat first | exact .here _ _ | assumption | apply Pick.there)).pick (A := blkA g5 27 (tcs n (ofF []))) (by repeat first | exact .here _ _ | assumption | apply Pick.there))⟩) ?_
        skip
        rintro k σ w ⟨j, L, A', m, c', h35, hj, hk, hLj, hok, hm', hS⟩
        refine c_know 35 h35 ?_
        clear h35
        subst hm'
        refine c_seq ?_
        refine c_region ?_
        refine t_q (q_lss rfl rfl) ?_
        refine t_nil ?_
        refine c_seq ?_
        refine c_cond rfl ?_ ?_
        · intro hc14
          have hc14d := of_decide_eq_true hc14
          refine c_skip ?_
          refine c_seq ?_
          refine c_block ?_
          refine c_seq ?_
          refine c_region ?_
          first | refine t_index_nat Try.runUnderlying22 Try.sizeOf37 (hl.st hS) rfl rfl (by omega) (fun ad15 hl15 hx15 => ?_) | refine t_index Try.runUnderlying22 Try.sizeOf37 (hl.st hS) rfl rfl (by omega) (fun ad15 hl15 hx15 => ?_)
          refine t_q (q_loadN Try.isAgg37 Try.sizeOf37 rfl hl15 hx15) ?_
          refine t_alloc Try.zeroValue37 rfl hS (fun g9 w hS => ?_)
          refine t_store (v := (.agg _)) Try.sizeOf37 hS (by repeat first | exact .here _ _ | assumption | apply Pick.there) rfl rfl rfl rfl rfl rfl (fun w hS => ?_)
          replace hS := hS.recast (show blkA g9 37 _ = blkA g9 37 (aof l j) from rfl)
          refine t_nil ?_
          refine c_seq ?_
          refine c_region ?_
          refine t_q (q_load_blk Try.isAgg27 Try.sizeOf27 rfl (hS.blk (by repeat first | exact .here _ _ | assumption | apply Pick.there)) rfl) ?_
          refine t_q (q_fieldAddr 1 Try.runUnderlying37 rfl Try.sizeOf3 (by decide) rfl rfl) ?_
          refine t_q (q_load1 Try.isAgg3 rfl (hS.cell (by repeat first | exact .here _ _ | assumption | apply Pick.there) rfl)) ?_
          refine t_q (q_fieldAddr 2 Try.runUnderlying37 rfl Try.sizeOf3 (by decide) rfl rfl) ?_
          refine t_q (q_load1 Try.isAgg3 rfl (hS.cell (by repeat first | exact .here _ _ | assumption | apply Pick.there) rfl)) ?_
          refine t_call Try.call35 (add_both hn.2) rfl ?_
          rintro e w ⟨L2, q2, rfl, hq2, hT⟩
          refine ⟨_, rfl, ?_⟩
          replace hS := hS.after hT
          obtain ⟨hok2, hl2⟩ := hok.both hq2
          refine t_q (q_mv (.tuple _) rfl) ?_
          refine t_q (q_extract rfl rfl) ?_
          refine t_q (q_extract rfl rfl) ?_
          refine t_store (v := (.agg _)) Try.sizeOf27 hS (by repeat first | exact .here _ _ | assumption | apply Pick.there) rfl rfl rfl rfl rfl rfl (fun w hS => ?_)
          replace hS := hS.recast (show blkA g5 27 _ = blkA g5 27 (tcs n (ofF L2)) from rfl)
          refine t_nil ?_
          refine c_region ?_
          refine t_q (q_load_blk Try.isAgg35 Try.sizeOf35 rfl (hS.blk (by repeat first | exact .here _ _ | assumption | apply Pick.there)) rfl) ?_
          refine t_q (q_fieldAddr 1 Try.runUnderlying37 rfl Try.sizeOf3 (by decide) rfl rfl) ?_
          refine t_q (q_load1 Try.isAgg3 rfl (hS.cell (by repeat first | exact .here _ _ | assumption | apply Pick.there) rfl)) ?_
          refine t_q (q_fieldAddr 2 Try.runUnderlying37 rfl Try.sizeOf3 (by decide) rfl rfl) ?_
          refine t_q (q_load1 Try.isAgg3 rfl (hS.cell (by repeat first | exact .here _ _ | assumption | apply Pick.there) rfl)) ?_
          have hA2 : Calls Try.prog 36 #[.agg #[.int .i64 n, .slice A' L.length c'], .int .i64 (l.getD j default).replica, .int .i64 (l.getD j default).version] w (fun e w' => ∃ A83 m83 c83, e = .returned (.tuple #[.agg #[.int .i64 n, .slice A83 m83 c83], .int .i64 q2]) ∧ m83 = L2.length ∧ St W w' [rowA 189 2 A83 m83 c83 ((L2).flatMap ackC), blkA g5 27 (tcs n (ofF L2)), blkA g7 35 [.int .i64 n, .slice A' L.length c'], blkA g9 37 (aof l j)]) :=
            (add2_both (n := n) (r := (l.getD j default).replica) (v := (l.getD j default).version) (rowRdA hS (by repeat first | exact .here _ _ | assumption | apply Pick.there) rfl) (by omega)).mono fun e w' hh => by
              rcases hq2 with ⟨hin, rfl, hLL⟩ | ⟨hin, rfl, hLL⟩ <;> replace hLL := hLL.symm <;> subst hLL
              · rcases hh with ⟨_, A83, m83, c83, he, hm83, hT⟩ | ⟨hno, _⟩
                · exact ⟨A83, m83, c83, he, hm83, ((((((hS.lift hT).pick (A := blkA g9 37 (aof l j)) (by repeat first | exact .here _ _ | assumption | apply Pick.there)).pick (A := blkA g7 35 [.int .i64 n, .slice A' L.length c']) (by repeat first | exact .here _ _ | assumption | apply Pick.there)).pick (A := blkA g5 27 (tcs n (ofF _))) (by repeat first | exact .here _ _ | assumption | apply Pick.there)).pick (A := rowA 189 2 A83 m83 c83 ((L ++ [((l.getD j default).replica, (l.getD j default).version)]).flatMap ackC)) (by repeat first | exact .here _ _ | assumption | apply Pick.there))).front4⟩
                · exact absurd hin hno
              · rcases hh with ⟨hin2, _⟩ | ⟨_, he, hT⟩
                · exact absurd hin2 hin
                · exact ⟨A', _, c', he, rfl, ((((((hS.after hT).pick (A := blkA g9 37 (aof l j)) (by repeat first | exact .here _ _ | assumption | apply Pick.there)).pick (A := blkA g7 35 [.int .i64 n, .slice A' L.length c']) (by repeat first | exact .here _ _ | assumption | apply Pick.there)).pick (A := blkA g5 27 (tcs n (ofF _))) (by repeat first | exact .here _ _ | assumption | apply Pick.there)).pick (A := rowA 189 2 A' L.length c' ((L).flatMap ackC)) (by repeat first | exact .here _ _ | assumption | apply Pick.there))).front4⟩
          refine t_call Try.call36 hA2 rfl ?_
          rintro e w ⟨A83, m83, c83, rfl, hm83, hS⟩
          refine ⟨_, rfl, ?_⟩
          refine t_q (q_mv (.tuple _) rfl) ?_
          refine t_q (q_extract rfl rfl) ?_
          refine t_q (q_extract rfl rfl) ?_
          refine t_store (v := (.agg _)) Try.sizeOf35 hS (by repeat first | exact .here _ _ | assumption | apply Pick.there) rfl rfl rfl rfl rfl rfl (fun w hS => ?_)
          replace hS := hS.recast (show blkA g7 35 _ = blkA g7 35 [.int .i64 n, .slice A83 m83 c83] from rfl)
          refine t_nil ?_
          refine c_region ?_
          refine t_q (q_add_i64 rfl rfl (by omega)) ?_
          refine t_q (q_mv (.int _ _) rfl) ?_
          refine t_nil ?_
          exact ⟨k - 1, by omega, j + 1, L2, A83, _, c83, rfl, by omega, by omega, by omega, hok2, hm83, ((((hS.pick (A := rowA 189 2 A83 m83 c83 ((L2).flatMap ackC)) (by repeat first | exact .here _ _ | assumption | apply Pick.there)).pick (A := blkA g7 35 _) (by repeat first | exact .here _ _ | assumption | apply Pick.there)).pick (A := blkA g5 27 (tcs n (ofF L2))) (by repeat first | exact .here _ _ | assumption | apply Pick.there))).front3⟩
        · intro hc14
          have hc14d := of_decide_eq_false hc14
          refine c_exit ?_
          refine ite_t rfl ?_
          refine c_seq ?_
          refine c_region ?_
          refine t_alloc Try.zeroValue50 rfl hS (fun g10 w hS => ?_)
          replace hS := hS.wr0
          refine t_nil ?_
          refine c_seq ?_
          refine c_region ?_
          refine t_q (q_load_blk Try.isAgg27 Try.sizeOf27 rfl (hS.blk (by repeat first | exact .here _ _ | assumption | apply Pick.there)) rfl) ?_
          refine t_call Try.call85 (aput_calls hS (by repeat first | exact .here _ _ | assumption | apply Pick.there) (by omega) (ofF_b L) (by simp)) rfl ?_
          rintro e w ⟨rfl, hS⟩
          refine ⟨_, rfl, ?_⟩
          replace hS := hS.recast (congrArg (wrA g10) (List.nil_append (tabB n.toNat (ofF L))))
          have htl := tabB_len (n := n.toNat) (by omega) (ofF_b L)
          refine t_nil ?_
          refine c_seq ?_
          refine c_region ?_
          refine t_call Try.call50 (Bytes_calls hS (by repeat first | exact .here _ _ | assumption | apply Pick.there) (by omega)) rfl ?_
          rintro e w ⟨A60, c60, rfl, hc60, hS⟩
          refine ⟨_, rfl, ?_⟩
          have hS0 := hS
          obtain ⟨w1, hw1⟩ : ∃ x, x = w := ⟨_, rfl⟩
          subst hw1
          have hb1 := hS.rowRd (bs := (tabB n.toNat (ofF L))) (.here _ _) rfl
          replace hS := St.init w1
          refine t_call Try.call58 (Open_calls (bs := (tabB n.toNat (ofF L))) hS hb1 ⟨hc60, by omega⟩) rfl ?_
          rintro e w ⟨g61, rfl, hS⟩
          refine ⟨_, rfl, ?_⟩
          replace hS := hS.recast (congrArg (fun b => rdrA w1 106 g61 ⟨b, false⟩) (List.append_nil (tabB n.toNat (ofF L))).symm)
          refine t_q (q_as (.pointer _) rfl) ?_
          refine t_nil ?_
          refine c_seq ?_
          refine c_region ?_
          refine t_q (q_mv (.pointer _) rfl) ?_
          refine t_call Try.call86 (aback_calls hS (.here _ _) hn hok) rfl ?_
          rintro e w ⟨rfl, hS⟩
          refine ⟨_, rfl, ?_⟩
          replace hS := hS0.lift hS
          refine t_q (q_mv (.tuple _) rfl) ?_
          refine t_q (q_extract rfl rfl) ?_
          refine t_q (q_extract rfl rfl) ?_
          refine t_alloc Try.zeroValue27 rfl hS (fun g12 w hS => ?_)
          refine t_store (v := (.agg _)) Try.sizeOf27 hS (by repeat first | exact .here _ _ | assumption | apply Pick.there) rfl rfl rfl rfl rfl rfl (fun w hS => ?_)
          replace hS := hS.recast (show blkA g12 27 _ = blkA g12 27 (tcs n (ofF L)) from rfl)
          refine t_q (q_as (.bool _) rfl) ?_
          refine t_nil ?_
          refine c_seq ?_
          refine c_draw ?_
          refine d_keep3 (blkA g5 27 (tcs n (ofF L))) (blkA g7 35 [.int .i64 n, .slice A' L.length c']) (blkA g12 27 (tcs n (ofF L))) 23 [0, 1, 2, 3, 4, 5, 6, 7, 8, 9, 10, 11, 12, 13, 14, 15, 16, 17, 18, 19, 20, 21, 22] [0, 1, 2, 3, 4, 5, 6, 7, 8, 9, 10, 11, 12, 13, 14, 15, 16, 17, 18, 19, 20, 21, 22] hS rfl (by kernel_rfl) (by kernel_rfl) (by kernel_rfl) (by kernel_rfl) (fun hap hsel w hS => ?_)
          refine p_q hap hsel 2 rfl rfl ⟨_, (((hS.pick (A := blkA g12 27 (tcs n (ofF L))) (by repeat first | exact .here _ _ | assumption | apply Pick.there)).pick (A := blkA g7 35 [.int .i64 n, .slice A' L.length c']) (by repeat first | exact .here _ _ | assumption | apply Pick.there)).pick (A := blkA g5 27 (tcs n (ofF L))) (by repeat first | exact .here _ _ | assumption | apply Pick.there))⟩ (fun w hI => q_load_blk Try.isAgg35 Try.sizeOf35 rfl (hI.choose_spec.blk (by repeat first | exact .here _ _ | assumption | apply Pick.there)) rfl) ?_
          refine p_one 0 rfl (by kernel_rfl) ?_
          refine t_call Try.call50 (Bytes_calls hS (by repeat first | exact .here _ _ | assumption | apply Pick.there) (by omega)) rfl ?_
          rintro e w ⟨A67, c67, rfl, hc67, hS⟩
          refine ⟨_, rfl, ?_⟩
          refine t_nil ?_
          refine ⟨.inr ⟨_, (((hS.pick (A := blkA g12 27 (tcs n (ofF L))) (by repeat first | exact .here _ _ | assumption | apply Pick.there)).pick (A := blkA g7 35 [.int .i64 n, .slice A' L.length c']) (by repeat first | exact .here _ _ | assumption | apply Pick.there)).pick (A := blkA g5 27 (tcs n (ofF L))) (by repeat first | exact .here _ _ | assumption | apply Pick.there))⟩, ?_⟩
          refine p_two 1 3 rfl rfl (by kernel_rfl) ?_ ?_
          ·
            refine t_q (q_string Try.runUnderlying48 Try.runUnderlying5 Try.runUnderlying9 rfl rfl (hS.rowRd (A := A67) (c := c67) (bs := (tabB n.toNat (ofF L))) (by repeat first | exact .here _ _ | assumption | apply Pick.there) rfl)) ?_
            refine t_nil ?_
            refine ⟨.inr ⟨_, (((hS.pick (A := blkA g12 27 (tcs n (ofF L))) (by repeat first | exact .here _ _ | assumption | apply Pick.there)).pick (A := blkA g7 35 [.int .i64 n, .slice A' L.length c']) (by repeat first | exact .here _ _ | assumption | apply Pick.there)).pick (A := blkA g5 27 (tcs n (ofF L))) (by repeat first | exact .here _ _ | assumption | apply Pick.there))⟩, ?_⟩
            refine p_one 3 rfl (by kernel_rfl) ?_
            refine t_call Try.call87 (qaput_calls (rowRdA hS (by repeat first | exact .here _ _ | assumption | apply Pick.there) rfl) (by omega) (by omega)) rfl ?_
            rintro e w ⟨A70, m70, c70, rfl, hm70, hT⟩
            refine ⟨_, rfl, ?_⟩
            have hS : St W w (_ :: _) := hS.lift hT
            refine t_nil ?_
            refine ⟨.inr ⟨_, (((hS.pick (A := blkA g12 27 (tcs n (ofF L))) (by repeat first | exact .here _ _ | assumption | apply Pick.there)).pick (A := blkA g7 35 [.int .i64 n, .slice A' L.length c']) (by repeat first | exact .here _ _ | assumption | apply Pick.there)).pick (A := blkA g5 27 (tcs n (ofF L))) (by repeat first | exact .here _ _ | assumption | apply Pick.there))⟩, ?_⟩
            refine p_one 4 rfl (by kernel_rfl) ?_
            refine t_q (q_string Try.runUnderlying48 Try.runUnderlying5 Try.runUnderlying9 rfl hm70 (hS.rowRd (A := A70) (n := m70) (c := c70) (bs := (tabB n.toNat (ofF L))) (by repeat first | exact .here _ _ | assumption | apply Pick.there) hm70)) ?_
            refine t_nil ?_
            refine ⟨.inr ⟨_, (((hS.pick (A := blkA g12 27 (tcs n (ofF L))) (by repeat first | exact .here _ _ | assumption | apply Pick.there)).pick (A := blkA g7 35 [.int .i64 n, .slice A' L.length c']) (by repeat first | exact .here _ _ | assumption | apply Pick.there)).pick (A := blkA g5 27 (tcs n (ofF L))) (by repeat first | exact .here _ _ | assumption | apply Pick.there))⟩, ?_⟩
            refine p_q hap hsel 5 rfl rfl ⟨_, (((hS.pick (A := blkA g12 27 (tcs n (ofF L))) (by repeat first | exact .here _ _ | assumption | apply Pick.there)).pick (A := blkA g7 35 [.int .i64 n, .slice A' L.length c']) (by repeat first | exact .here _ _ | assumption | apply Pick.there)).pick (A := blkA g5 27 (tcs n (ofF L))) (by repeat first | exact .here _ _ | assumption | apply Pick.there))⟩ (fun w hI => (q_cast (v' := .bool true) (q_eql_string rfl rfl) (by simp))) ?_
            refine p_q hap hsel 6 rfl rfl ⟨_, (((hS.pick (A := blkA g12 27 (tcs n (ofF L))) (by repeat first | exact .here _ _ | assumption | apply Pick.there)).pick (A := blkA g7 35 [.int .i64 n, .slice A' L.length c']) (by repeat first | exact .here _ _ | assumption | apply Pick.there)).pick (A := blkA g5 27 (tcs n (ofF L))) (by repeat first | exact .here _ _ | assumption | apply Pick.there))⟩ (fun w hI => q_mv (.bool _) rfl) ?_
            refine p_yes hap hsel 7 rfl rfl ⟨_, (((hS.pick (A := blkA g12 27 (tcs n (ofF L))) (by repeat first | exact .here _ _ | assumption | apply Pick.there)).pick (A := blkA g7 35 [.int .i64 n, .slice A' L.length c']) (by repeat first | exact .here _ _ | assumption | apply Pick.there)).pick (A := blkA g5 27 (tcs n (ofF L))) (by repeat first | exact .here _ _ | assumption | apply Pick.there))⟩ rfl rfl rfl (fun w hI => q_mv (.bool _) rfl) ?_
            refine p_q hap hsel 8 rfl rfl ⟨_, (((hS.pick (A := blkA g12 27 (tcs n (ofF L))) (by repeat first | exact .here _ _ | assumption | apply Pick.there)).pick (A := blkA g7 35 [.int .i64 n, .slice A' L.length c']) (by repeat first | exact .here _ _ | assumption | apply Pick.there)).pick (A := blkA g5 27 (tcs n (ofF L))) (by repeat first | exact .here _ _ | assumption | apply Pick.there))⟩ (fun w hI => q_pick_t rfl rfl) ?_
            refine p_q hap hsel 9 rfl rfl ⟨_, (((hS.pick (A := blkA g12 27 (tcs n (ofF L))) (by repeat first | exact .here _ _ | assumption | apply Pick.there)).pick (A := blkA g7 35 [.int .i64 n, .slice A' L.length c']) (by repeat first | exact .here _ _ | assumption | apply Pick.there)).pick (A := blkA g5 27 (tcs n (ofF L))) (by repeat first | exact .here _ _ | assumption | apply Pick.there))⟩ (fun w hI => q_mv (.bool _) rfl) ?_
            refine p_yes hap hsel 10 rfl rfl ⟨_, (((hS.pick (A := blkA g12 27 (tcs n (ofF L))) (by repeat first | exact .here _ _ | assumption | apply Pick.there)).pick (A := blkA g7 35 [.int .i64 n, .slice A' L.length c']) (by repeat first | exact .here _ _ | assumption | apply Pick.there)).pick (A := blkA g5 27 (tcs n (ofF L))) (by repeat first | exact .here _ _ | assumption | apply Pick.there))⟩ rfl rfl rfl (fun w hI => q_mv (.pointer _) rfl) ?_
            refine p_one 11 rfl (by kernel_rfl) ?_
            refine t_yes rfl rfl rfl ?_
            refine t_call Try.call71 (rEnd hS (by repeat first | exact .here _ _ | assumption | apply Pick.there)) rfl ?_
            rintro e w ⟨rfl, hS⟩
            refine ⟨_, rfl, ?_⟩
            refine t_nil ?_
            refine ⟨.inr ⟨_, (((hS.pick (A := blkA g12 27 (tcs n (ofF L))) (by repeat first | exact .here _ _ | assumption | apply Pick.there)).pick (A := blkA g7 35 [.int .i64 n, .slice A' L.length c']) (by repeat first | exact .here _ _ | assumption | apply Pick.there)).pick (A := blkA g5 27 (tcs n (ofF L))) (by repeat first | exact .here _ _ | assumption | apply Pick.there))⟩, ?_⟩
            refine p_yes hap hsel 12 rfl rfl ⟨_, (((hS.pick (A := blkA g12 27 (tcs n (ofF L))) (by repeat first | exact .here _ _ | assumption | apply Pick.there)).pick (A := blkA g7 35 [.int .i64 n, .slice A' L.length c']) (by repeat first | exact .here _ _ | assumption | apply Pick.there)).pick (A := blkA g5 27 (tcs n (ofF L))) (by repeat first | exact .here _ _ | assumption | apply Pick.there))⟩ rfl rfl rfl (fun w hI => (q_cast (v' := .bool true) (q_eql rfl rfl) (by rfl))) ?_
            refine p_q hap hsel 13 rfl rfl ⟨_, (((hS.pick (A := blkA g12 27 (tcs n (ofF L))) (by repeat first | exact .here _ _ | assumption | apply Pick.there)).pick (A := blkA g7 35 [.int .i64 n, .slice A' L.length c']) (by repeat first | exact .here _ _ | assumption | apply Pick.there)).pick (A := blkA g5 27 (tcs n (ofF L))) (by repeat first | exact .here _ _ | assumption | apply Pick.there))⟩ (fun w hI => q_pick_t rfl rfl) ?_
            refine p_q hap hsel 14 rfl rfl ⟨_, (((hS.pick (A := blkA g12 27 (tcs n (ofF L))) (by repeat first | exact .here _ _ | assumption | apply Pick.there)).pick (A := blkA g7 35 [.int .i64 n, .slice A' L.length c']) (by repeat first | exact .here _ _ | assumption | apply Pick.there)).pick (A := blkA g5 27 (tcs n (ofF L))) (by repeat first | exact .here _ _ | assumption | apply Pick.there))⟩ (fun w hI => q_mv (.bool _) rfl) ?_
            refine p_yes hap hsel 15 rfl rfl ⟨_, (((hS.pick (A := blkA g12 27 (tcs n (ofF L))) (by repeat first | exact .here _ _ | assumption | apply Pick.there)).pick (A := blkA g7 35 [.int .i64 n, .slice A' L.length c']) (by repeat first | exact .here _ _ | assumption | apply Pick.there)).pick (A := blkA g5 27 (tcs n (ofF L))) (by repeat first | exact .here _ _ | assumption | apply Pick.there))⟩ rfl rfl rfl (fun w hI => q_load_blk Try.isAgg27 Try.sizeOf27 rfl (hI.choose_spec.blk (by repeat first | exact .here _ _ | assumption | apply Pick.there)) rfl) ?_
            refine p_yes hap hsel 16 rfl rfl ⟨_, (((hS.pick (A := blkA g12 27 (tcs n (ofF L))) (by repeat first | exact .here _ _ | assumption | apply Pick.there)).pick (A := blkA g7 35 [.int .i64 n, .slice A' L.length c']) (by repeat first | exact .here _ _ | assumption | apply Pick.there)).pick (A := blkA g5 27 (tcs n (ofF L))) (by repeat first | exact .here _ _ | assumption | apply Pick.there))⟩ rfl rfl rfl (fun w hI => q_load_blk Try.isAgg27 Try.sizeOf27 rfl (hI.choose_spec.blk (by repeat first | exact .here _ _ | assumption | apply Pick.there)) rfl) ?_
            refine p_yes hap hsel 17 rfl rfl ⟨_, (((hS.pick (A := blkA g12 27 (tcs n (ofF L))) (by repeat first | exact .here _ _ | assumption | apply Pick.there)).pick (A := blkA g7 35 [.int .i64 n, .slice A' L.length c']) (by repeat first | exact .here _ _ | assumption | apply Pick.there)).pick (A := blkA g5 27 (tcs n (ofF L))) (by repeat first | exact .here _ _ | assumption | apply Pick.there))⟩ rfl rfl rfl (fun w hI => q_eql_tab rfl rfl (by omega) (ofF_b L)) ?_
            refine p_q hap hsel 18 rfl rfl ⟨_, (((hS.pick (A := blkA g12 27 (tcs n (ofF L))) (by repeat first | exact .here _ _ | assumption | apply Pick.there)).pick (A := blkA g7 35 [.int .i64 n, .slice A' L.length c']) (by repeat first | exact .here _ _ | assumption | apply Pick.there)).pick (A := blkA g5 27 (tcs n (ofF L))) (by repeat first | exact .here _ _ | assumption | apply Pick.there))⟩ (fun w hI => q_pick_t rfl rfl) ?_
            refine p_q hap hsel 19 rfl rfl ⟨_, (((hS.pick (A := blkA g12 27 (tcs n (ofF L))) (by repeat first | exact .here _ _ | assumption | apply Pick.there)).pick (A := blkA g7 35 [.int .i64 n, .slice A' L.length c']) (by repeat first | exact .here _ _ | assumption | apply Pick.there)).pick (A := blkA g5 27 (tcs n (ofF L))) (by repeat first | exact .here _ _ | assumption | apply Pick.there))⟩ (fun w hI => q_mv (.bool _) rfl) ?_
            refine p_one 20 rfl (by kernel_rfl) ?_
            refine t_yes rfl rfl rfl ?_
            refine t_call Try.call29 (alives_calls) rfl ?_
            rintro e w ⟨rfl, hT⟩
            refine ⟨_, rfl, ?_⟩
            replace hS := hS.after hT
            refine t_nil ?_
            refine ⟨.inr ⟨_, (((hS.pick (A := blkA g12 27 (tcs n (ofF L))) (by repeat first | exact .here _ _ | assumption | apply Pick.there)).pick (A := blkA g7 35 [.int .i64 n, .slice A' L.length c']) (by repeat first | exact .here _ _ | assumption | apply Pick.there)).pick (A := blkA g5 27 (tcs n (ofF L))) (by repeat first | exact .here _ _ | assumption | apply Pick.there))⟩, ?_⟩
            refine p_q hap hsel 21 rfl rfl ⟨_, (((hS.pick (A := blkA g12 27 (tcs n (ofF L))) (by repeat first | exact .here _ _ | assumption | apply Pick.there)).pick (A := blkA g7 35 [.int .i64 n, .slice A' L.length c']) (by repeat first | exact .here _ _ | assumption | apply Pick.there)).pick (A := blkA g5 27 (tcs n (ofF L))) (by repeat first | exact .here _ _ | assumption | apply Pick.there))⟩ (fun w hI => q_pick_t rfl rfl) ?_
            refine p_q hap hsel 22 rfl rfl ⟨_, (((hS.pick (A := blkA g12 27 (tcs n (ofF L))) (by repeat first | exact .here _ _ | assumption | apply Pick.there)).pick (A := blkA g7 35 [.int .i64 n, .slice A' L.length c']) (by repeat first | exact .here _ _ | assumption | apply Pick.there)).pick (A := blkA g5 27 (tcs n (ofF L))) (by repeat first | exact .here _ _ | assumption | apply Pick.there))⟩ (fun w hI => q_as (.bool _) rfl) ?_
            refine p_end (by kernel_rfl) ?_
            refine c_ret ?_
            refine r_one rfl rfl ?_
            exact ⟨rfl, hS.nil⟩
          ·
            refine t_call Try.call87 (qaput_calls (rowRdA hS (by repeat first | exact .here _ _ | assumption | apply Pick.there) rfl) (by omega) (by omega)) rfl ?_
            rintro e w ⟨A70, m70, c70, rfl, hm70, hT⟩
            refine ⟨_, rfl, ?_⟩
            have hS : St W w (_ :: _) := hS.lift hT
            refine t_nil ?_
            refine ⟨.inr ⟨_, (((hS.pick (A := blkA g12 27 (tcs n (ofF L))) (by repeat first | exact .here _ _ | assumption | apply Pick.there)).pick (A := blkA g7 35 [.int .i64 n, .slice A' L.length c']) (by repeat first | exact .here _ _ | assumption | apply Pick.there)).pick (A := blkA g5 27 (tcs n (ofF L))) (by repeat first | exact .here _ _ | assumption | apply Pick.there))⟩, ?_⟩
            refine p_two 1 4 rfl rfl (by kernel_rfl) ?_ ?_
            ·
              refine t_q (q_string Try.runUnderlying48 Try.runUnderlying5 Try.runUnderlying9 rfl rfl (hS.rowRd (A := A67) (c := c67) (bs := (tabB n.toNat (ofF L))) (by repeat first | exact .here _ _ | assumption | apply Pick.there) rfl)) ?_
              refine t_nil ?_
              refine ⟨.inr ⟨_, (((hS.pick (A := blkA g12 27 (tcs n (ofF L))) (by repeat first | exact .here _ _ | assumption | apply Pick.there)).pick (A := blkA g7 35 [.int .i64 n, .slice A' L.length c']) (by repeat first | exact .here _ _ | assumption | apply Pick.there)).pick (A := blkA g5 27 (tcs n (ofF L))) (by repeat first | exact .here _ _ | assumption | apply Pick.there))⟩, ?_⟩
              refine p_one 4 rfl (by kernel_rfl) ?_
              refine t_q (q_string Try.runUnderlying48 Try.runUnderlying5 Try.runUnderlying9 rfl hm70 (hS.rowRd (A := A70) (n := m70) (c := c70) (bs := (tabB n.toNat (ofF L))) (by repeat first | exact .here _ _ | assumption | apply Pick.there) hm70)) ?_
              refine t_nil ?_
              refine ⟨.inr ⟨_, (((hS.pick (A := blkA g12 27 (tcs n (ofF L))) (by repeat first | exact .here _ _ | assumption | apply Pick.there)).pick (A := blkA g7 35 [.int .i64 n, .slice A' L.length c']) (by repeat first | exact .here _ _ | assumption | apply Pick.there)).pick (A := blkA g5 27 (tcs n (ofF L))) (by repeat first | exact .here _ _ | assumption | apply Pick.there))⟩, ?_⟩
              refine p_q hap hsel 5 rfl rfl ⟨_, (((hS.pick (A := blkA g12 27 (tcs n (ofF L))) (by repeat first | exact .here _ _ | assumption | apply Pick.there)).pick (A := blkA g7 35 [.int .i64 n, .slice A' L.length c']) (by repeat first | exact .here _ _ | assumption | apply Pick.there)).pick (A := blkA g5 27 (tcs n (ofF L))) (by repeat first | exact .here _ _ | assumption | apply Pick.there))⟩ (fun w hI => (q_cast (v' := .bool true) (q_eql_string rfl rfl) (by simp))) ?_
              refine p_q hap hsel 6 rfl rfl ⟨_, (((hS.pick (A := blkA g12 27 (tcs n (ofF L))) (by repeat first | exact .here _ _ | assumption | apply Pick.there)).pick (A := blkA g7 35 [.int .i64 n, .slice A' L.length c']) (by repeat first | exact .here _ _ | assumption | apply Pick.there)).pick (A := blkA g5 27 (tcs n (ofF L))) (by repeat first | exact .here _ _ | assumption | apply Pick.there))⟩ (fun w hI => q_mv (.bool _) rfl) ?_
              refine p_yes hap hsel 7 rfl rfl ⟨_, (((hS.pick (A := blkA g12 27 (tcs n (ofF L))) (by repeat first | exact .here _ _ | assumption | apply Pick.there)).pick (A := blkA g7 35 [.int .i64 n, .slice A' L.length c']) (by repeat first | exact .here _ _ | assumption | apply Pick.there)).pick (A := blkA g5 27 (tcs n (ofF L))) (by repeat first | exact .here _ _ | assumption | apply Pick.there))⟩ rfl rfl rfl (fun w hI => q_mv (.bool _) rfl) ?_
              refine p_q hap hsel 8 rfl rfl ⟨_, (((hS.pick (A := blkA g12 27 (tcs n (ofF L))) (by repeat first | exact .here _ _ | assumption | apply Pick.there)).pick (A := blkA g7 35 [.int .i64 n, .slice A' L.length c']) (by repeat first | exact .here _ _ | assumption | apply Pick.there)).pick (A := blkA g5 27 (tcs n (ofF L))) (by repeat first | exact .here _ _ | assumption | apply Pick.there))⟩ (fun w hI => q_pick_t rfl rfl) ?_
              refine p_q hap hsel 9 rfl rfl ⟨_, (((hS.pick (A := blkA g12 27 (tcs n (ofF L))) (by repeat first | exact .here _ _ | assumption | apply Pick.there)).pick (A := blkA g7 35 [.int .i64 n, .slice A' L.length c']) (by repeat first | exact .here _ _ | assumption | apply Pick.there)).pick (A := blkA g5 27 (tcs n (ofF L))) (by repeat first | exact .here _ _ | assumption | apply Pick.there))⟩ (fun w hI => q_mv (.bool _) rfl) ?_
              refine p_yes hap hsel 10 rfl rfl ⟨_, (((hS.pick (A := blkA g12 27 (tcs n (ofF L))) (by repeat first | exact .here _ _ | assumption | apply Pick.there)).pick (A := blkA g7 35 [.int .i64 n, .slice A' L.length c']) (by repeat first | exact .here _ _ | assumption | apply Pick.there)).pick (A := blkA g5 27 (tcs n (ofF L))) (by repeat first | exact .here _ _ | assumption | apply Pick.there))⟩ rfl rfl rfl (fun w hI => q_mv (.pointer _) rfl) ?_
              refine p_one 11 rfl (by kernel_rfl) ?_
              refine t_yes rfl rfl rfl ?_
              refine t_call Try.call71 (rEnd hS (by repeat first | exact .here _ _ | assumption | apply Pick.there)) rfl ?_
              rintro e w ⟨rfl, hS⟩
              refine ⟨_, rfl, ?_⟩
              refine t_nil ?_
              refine ⟨.inr ⟨_, (((hS.pick (A := blkA g12 27 (tcs n (ofF L))) (by repeat first | exact .here _ _ | assumption | apply Pick.there)).pick (A := blkA g7 35 [.int .i64 n, .slice A' L.length c']) (by repeat first | exact .here _ _ | assumption | apply Pick.there)).pick (A := blkA g5 27 (tcs n (ofF L))) (by repeat first | exact .here _ _ | assumption | apply Pick.there))⟩, ?_⟩
              refine p_yes hap hsel 12 rfl rfl ⟨_, (((hS.pick (A := blkA g12 27 (tcs n (ofF L))) (by repeat first | exact .here _ _ | assumption | apply Pick.there)).pick (A := blkA g7 35 [.int .i64 n, .slice A' L.length c']) (by repeat first | exact .here _ _ | assumption | apply Pick.there)).pick (A := blkA g5 27 (tcs n (ofF L))) (by repeat first | exact .here _ _ | assumption | apply Pick.there))⟩ rfl rfl rfl (fun w hI => (q_cast (v' := .bool true) (q_eql rfl rfl) (by rfl))) ?_
              refine p_q hap hsel 13 rfl rfl ⟨_, (((hS.pick (A := blkA g12 27 (tcs n (ofF L))) (by repeat first | exact .here _ _ | assumption | apply Pick.there)).pick (A := blkA g7 35 [.int .i64 n, .slice A' L.length c']) (by repeat first | exact .here _ _ | assumption | apply Pick.there)).pick (A := blkA g5 27 (tcs n (ofF L))) (by repeat first | exact .here _ _ | assumption | apply Pick.there))⟩ (fun w hI => q_pick_t rfl rfl) ?_
              refine p_q hap hsel 14 rfl rfl ⟨_, (((hS.pick (A := blkA g12 27 (tcs n (ofF L))) (by repeat first | exact .here _ _ | assumption | apply Pick.there)).pick (A := blkA g7 35 [.int .i64 n, .slice A' L.length c']) (by repeat first | exact .here _ _ | assumption | apply Pick.there)).pick (A := blkA g5 27 (tcs n (ofF L))) (by repeat first | exact .here _ _ | assumption | apply Pick.there))⟩ (fun w hI => q_mv (.bool _) rfl) ?_
              refine p_yes hap hsel 15 rfl rfl ⟨_, (((hS.pick (A := blkA g12 27 (tcs n (ofF L))) (by repeat first | exact .here _ _ | assumption | apply Pick.there)).pick (A := blkA g7 35 [.int .i64 n, .slice A' L.length c']) (by repeat first | exact .here _ _ | assumption | apply Pick.there)).pick (A := blkA g5 27 (tcs n (ofF L))) (by repeat first | exact .here _ _ | assumption | apply Pick.there))⟩ rfl rfl rfl (fun w hI => q_load_blk Try.isAgg27 Try.sizeOf27 rfl (hI.choose_spec.blk (by repeat first | exact .here _ _ | assumption | apply Pick.there)) rfl) ?_
              refine p_yes hap hsel 16 rfl rfl ⟨_, (((hS.pick (A := blkA g12 27 (tcs n (ofF L))) (by repeat first | exact .here _ _ | assumption | apply Pick.there)).pick (A := blkA g7 35 [.int .i64 n, .slice A' L.length c']) (by repeat first | exact .here _ _ | assumption | apply Pick.there)).pick (A := blkA g5 27 (tcs n (ofF L))) (by repeat first | exact .here _ _ | assumption | apply Pick.there))⟩ rfl rfl rfl (fun w hI => q_load_blk Try.isAgg27 Try.sizeOf27 rfl (hI.choose_spec.blk (by repeat first | exact .here _ _ | assumption | apply Pick.there)) rfl) ?_
              refine p_yes hap hsel 17 rfl rfl ⟨_, (((hS.pick (A := blkA g12 27 (tcs n (ofF L))) (by repeat first | exact .here _ _ | assumption | apply Pick.there)).pick (A := blkA g7 35 [.int .i64 n, .slice A' L.length c']) (by repeat first | exact .here _ _ | assumption | apply Pick.there)).pick (A := blkA g5 27 (tcs n (ofF L))) (by repeat first | exact .here _ _ | assumption | apply Pick.there))⟩ rfl rfl rfl (fun w hI => q_eql_tab rfl rfl (by omega) (ofF_b L)) ?_
              refine p_q hap hsel 18 rfl rfl ⟨_, (((hS.pick (A := blkA g12 27 (tcs n (ofF L))) (by repeat first | exact .here _ _ | assumption | apply Pick.there)).pick (A := blkA g7 35 [.int .i64 n, .slice A' L.length c']) (by repeat first | exact .here _ _ | assumption | apply Pick.there)).pick (A := blkA g5 27 (tcs n (ofF L))) (by repeat first | exact .here _ _ | assumption | apply Pick.there))⟩ (fun w hI => q_pick_t rfl rfl) ?_
              refine p_q hap hsel 19 rfl rfl ⟨_, (((hS.pick (A := blkA g12 27 (tcs n (ofF L))) (by repeat first | exact .here _ _ | assumption | apply Pick.there)).pick (A := blkA g7 35 [.int .i64 n, .slice A' L.length c']) (by repeat first | exact .here _ _ | assumption | apply Pick.there)).pick (A := blkA g5 27 (tcs n (ofF L))) (by repeat first | exact .here _ _ | assumption | apply Pick.there))⟩ (fun w hI => q_mv (.bool _) rfl) ?_
              refine p_one 20 rfl (by kernel_rfl) ?_
              refine t_yes rfl rfl rfl ?_
              refine t_call Try.call29 (alives_calls) rfl ?_
              rintro e w ⟨rfl, hT⟩
              refine ⟨_, rfl, ?_⟩
              replace hS := hS.after hT
              refine t_nil ?_
              refine ⟨.inr ⟨_, (((hS.pick (A := blkA g12 27 (tcs n (ofF L))) (by repeat first | exact .here _ _ | assumption | apply Pick.there)).pick (A := blkA g7 35 [.int .i64 n, .slice A' L.length c']) (by repeat first | exact .here _ _ | assumption | apply Pick.there)).pick (A := blkA g5 27 (tcs n (ofF L))) (by repeat first | exact .here _ _ | assumption | apply Pick.there))⟩, ?_⟩
              refine p_q hap hsel 21 rfl rfl ⟨_, (((hS.pick (A := blkA g12 27 (tcs n (ofF L))) (by repeat first | exact .here _ _ | assumption | apply Pick.there)).pick (A := blkA g7 35 [.int .i64 n, .slice A' L.length c']) (by repeat first | exact .here _ _ | assumption | apply Pick.there)).pick (A := blkA g5 27 (tcs n (ofF L))) (by repeat first | exact .here _ _ | assumption | apply Pick.there))⟩ (fun w hI => q_pick_t rfl rfl) ?_
              refine p_q hap hsel 22 rfl rfl ⟨_, (((hS.pick (A := blkA g12 27 (tcs n (ofF L))) (by repeat first | exact .here _ _ | assumption | apply Pick.there)).pick (A := blkA g7 35 [.int .i64 n, .slice A' L.length c']) (by repeat first | exact .here _ _ | assumption | apply Pick.there)).pick (A := blkA g5 27 (tcs n (ofF L))) (by repeat first | exact .here _ _ | assumption | apply Pick.there))⟩ (fun w hI => q_as (.bool _) rfl) ?_
              refine p_end (by kernel_rfl) ?_
              refine c_ret ?_
              refine r_one rfl rfl ?_
              exact ⟨rfl, hS.nil⟩
            ·
              refine t_q (q_string Try.runUnderlying48 Try.runUnderlying5 Try.runUnderlying9 rfl hm70 (hS.rowRd (A := A70) (n := m70) (c := c70) (bs := (tabB n.toNat (ofF L))) (by repeat first | exact .here _ _ | assumption | apply Pick.there) hm70)) ?_
              refine t_nil ?_
              refine ⟨.inr ⟨_, (((hS.pick (A := blkA g12 27 (tcs n (ofF L))) (by repeat first | exact .here _ _ | assumption | apply Pick.there)).pick (A := blkA g7 35 [.int .i64 n, .slice A' L.length c']) (by repeat first | exact .here _ _ | assumption | apply Pick.there)).pick (A := blkA g5 27 (tcs n (ofF L))) (by repeat first | exact .here _ _ | assumption | apply Pick.there))⟩, ?_⟩
              refine p_one 1 rfl (by kernel_rfl) ?_
              refine t_q (q_string Try.runUnderlying48 Try.runUnderlying5 Try.runUnderlying9 rfl rfl (hS.rowRd (A := A67) (c := c67) (bs := (tabB n.toNat (ofF L))) (by repeat first | exact .here _ _ | assumption | apply Pick.there) rfl)) ?_
              refine t_nil ?_
              refine ⟨.inr ⟨_, (((hS.pick (A := blkA g12 27 (tcs n (ofF L))) (by repeat first | exact .here _ _ | assumption | apply Pick.there)).pick (A := blkA g7 35 [.int .i64 n, .slice A' L.length c']) (by repeat first | exact .here _ _ | assumption | apply Pick.there)).pick (A := blkA g5 27 (tcs n (ofF L))) (by repeat first | exact .here _ _ | assumption | apply Pick.there))⟩, ?_⟩
              refine p_q hap hsel 5 rfl rfl ⟨_, (((hS.pick (A := blkA g12 27 (tcs n (ofF L))) (by repeat first | exact .here _ _ | assumption | apply Pick.there)).pick (A := blkA g7 35 [.int .i64 n, .slice A' L.length c']) (by repeat first | exact .here _ _ | assumption | apply Pick.there)).pick (A := blkA g5 27 (tcs n (ofF L))) (by repeat first | exact .here _ _ | assumption | apply Pick.there))⟩ (fun w hI => (q_cast (v' := .bool true) (q_eql_string rfl rfl) (by simp))) ?_
              refine p_q hap hsel 6 rfl rfl ⟨_, (((hS.pick (A := blkA g12 27 (tcs n (ofF L))) (by repeat first | exact .here _ _ | assumption | apply Pick.there)).pick (A := blkA g7 35 [.int .i64 n, .slice A' L.length c']) (by repeat first | exact .here _ _ | assumption | apply Pick.there)).pick (A := blkA g5 27 (tcs n (ofF L))) (by repeat first | exact .here _ _ | assumption | apply Pick.there))⟩ (fun w hI => q_mv (.bool _) rfl) ?_
              refine p_yes hap hsel 7 rfl rfl ⟨_, (((hS.pick (A := blkA g12 27 (tcs n (ofF L))) (by repeat first | exact .here _ _ | assumption | apply Pick.there)).pick (A := blkA g7 35 [.int .i64 n, .slice A' L.length c']) (by repeat first | exact .here _ _ | assumption | apply Pick.there)).pick (A := blkA g5 27 (tcs n (ofF L))) (by repeat first | exact .here _ _ | assumption | apply Pick.there))⟩ rfl rfl rfl (fun w hI => q_mv (.bool _) rfl) ?_
              refine p_q hap hsel 8 rfl rfl ⟨_, (((hS.pick (A := blkA g12 27 (tcs n (ofF L))) (by repeat first | exact .here _ _ | assumption | apply Pick.there)).pick (A := blkA g7 35 [.int .i64 n, .slice A' L.length c']) (by repeat first | exact .here _ _ | assumption | apply Pick.there)).pick (A := blkA g5 27 (tcs n (ofF L))) (by repeat first | exact .here _ _ | assumption | apply Pick.there))⟩ (fun w hI => q_pick_t rfl rfl) ?_
              refine p_q hap hsel 9 rfl rfl ⟨_, (((hS.pick (A := blkA g12 27 (tcs n (ofF L))) (by repeat first | exact .here _ _ | assumption | apply Pick.there)).pick (A := blkA g7 35 [.int .i64 n, .slice A' L.length c']) (by repeat first | exact .here _ _ | assumption | apply Pick.there)).pick (A := blkA g5 27 (tcs n (ofF L))) (by repeat first | exact .here _ _ | assumption | apply Pick.there))⟩ (fun w hI => q_mv (.bool _) rfl) ?_
              refine p_yes hap hsel 10 rfl rfl ⟨_, (((hS.pick (A := blkA g12 27 (tcs n (ofF L))) (by repeat first | exact .here _ _ | assumption | apply Pick.there)).pick (A := blkA g7 35 [.int .i64 n, .slice A' L.length c']) (by repeat first | exact .here _ _ | assumption | apply Pick.there)).pick (A := blkA g5 27 (tcs n (ofF L))) (by repeat first | exact .here _ _ | assumption | apply Pick.there))⟩ rfl rfl rfl (fun w hI => q_mv (.pointer _) rfl) ?_
              refine p_one 11 rfl (by kernel_rfl) ?_
              refine t_yes rfl rfl rfl ?_
              refine t_call Try.call71 (rEnd hS (by repeat first | exact .here _ _ | assumption | apply Pick.there)) rfl ?_
              rintro e w ⟨rfl, hS⟩
              refine ⟨_, rfl, ?_⟩
              refine t_nil ?_
              refine ⟨.inr ⟨_, (((hS.pick (A := blkA g12 27 (tcs n (ofF L))) (by repeat first | exact .here _ _ | assumption | apply Pick.there)).pick (A := blkA g7 35 [.int .i64 n, .slice A' L.length c']) (by repeat first | exact .here _ _ | assumption | apply Pick.there)).pick (A := blkA g5 27 (tcs n (ofF L))) (by repeat first | exact .here _ _ | assumption | apply Pick.there))⟩, ?_⟩
              refine p_yes hap hsel 12 rfl rfl ⟨_, (((hS.pick (A := blkA g12 27 (tcs n (ofF L))) (by repeat first | exact .here _ _ | assumption | apply Pick.there)).pick (A := blkA g7 35 [.int .i64 n, .slice A' L.length c']) (by repeat first | exact .here _ _ | assumption | apply Pick.there)).pick (A := blkA g5 27 (tcs n (ofF L))) (by repeat first | exact .here _ _ | assumption | apply Pick.there))⟩ rfl rfl rfl (fun w hI => (q_cast (v' := .bool true) (q_eql rfl rfl) (by rfl))) ?_
              refine p_q hap hsel 13 rfl rfl ⟨_, (((hS.pick (A := blkA g12 27 (tcs n (ofF L))) (by repeat first | exact .here _ _ | assumption | apply Pick.there)).pick (A := blkA g7 35 [.int .i64 n, .slice A' L.length c']) (by repeat first | exact .here _ _ | assumption | apply Pick.there)).pick (A := blkA g5 27 (tcs n (ofF L))) (by repeat first | exact .here _ _ | assumption | apply Pick.there))⟩ (fun w hI => q_pick_t rfl rfl) ?_
              refine p_q hap hsel 14 rfl rfl ⟨_, (((hS.pick (A := blkA g12 27 (tcs n (ofF L))) (by repeat first | exact .here _ _ | assumption | apply Pick.there)).pick (A := blkA g7 35 [.int .i64 n, .slice A' L.length c']) (by repeat first | exact .here _ _ | assumption | apply Pick.there)).pick (A := blkA g5 27 (tcs n (ofF L))) (by repeat first | exact .here _ _ | assumption | apply Pick.there))⟩ (fun w hI => q_mv (.bool _) rfl) ?_
              refine p_yes hap hsel 15 rfl rfl ⟨_, (((hS.pick (A := blkA g12 27 (tcs n (ofF L))) (by repeat first | exact .here _ _ | assumption | apply Pick.there)).pick (A := blkA g7 35 [.int .i64 n, .slice A' L.length c']) (by repeat first | exact .here _ _ | assumption | apply Pick.there)).pick (A := blkA g5 27 (tcs n (ofF L))) (by repeat first | exact .here _ _ | assumption | apply Pick.there))⟩ rfl rfl rfl (fun w hI => q_load_blk Try.isAgg27 Try.sizeOf27 rfl (hI.choose_spec.blk (by repeat first | exact .here _ _ | assumption | apply Pick.there)) rfl) ?_
              refine p_yes hap hsel 16 rfl rfl ⟨_, (((hS.pick (A := blkA g12 27 (tcs n (ofF L))) (by repeat first | exact .here _ _ | assumption | apply Pick.there)).pick (A := blkA g7 35 [.int .i64 n, .slice A' L.length c']) (by repeat first | exact .here _ _ | assumption | apply Pick.there)).pick (A := blkA g5 27 (tcs n (ofF L))) (by repeat first | exact .here _ _ | assumption | apply Pick.there))⟩ rfl rfl rfl (fun w hI => q_load_blk Try.isAgg27 Try.sizeOf27 rfl (hI.choose_spec.blk (by repeat first | exact .here _ _ | assumption | apply Pick.there)) rfl) ?_
              refine p_yes hap hsel 17 rfl rfl ⟨_, (((hS.pick (A := blkA g12 27 (tcs n (ofF L))) (by repeat first | exact .here _ _ | assumption | apply Pick.there)).pick (A := blkA g7 35 [.int .i64 n, .slice A' L.length c']) (by repeat first | exact .here _ _ | assumption | apply Pick.there)).pick (A := blkA g5 27 (tcs n (ofF L))) (by repeat first | exact .here _ _ | assumption | apply Pick.there))⟩ rfl rfl rfl (fun w hI => q_eql_tab rfl rfl (by omega) (ofF_b L)) ?_
              refine p_q hap hsel 18 rfl rfl ⟨_, (((hS.pick (A := blkA g12 27 (tcs n (ofF L))) (by repeat first | exact .here _ _ | assumption | apply Pick.there)).pick (A := blkA g7 35 [.int .i64 n, .slice A' L.length c']) (by repeat first | exact .here _ _ | assumption | apply Pick.there)).pick (A := blkA g5 27 (tcs n (ofF L))) (by repeat first | exact .here _ _ | assumption | apply Pick.there))⟩ (fun w hI => q_pick_t rfl rfl) ?_
              refine p_q hap hsel 19 rfl rfl ⟨_, (((hS.pick (A := blkA g12 27 (tcs n (ofF L))) (by repeat first | exact .here _ _ | assumption | apply Pick.there)).pick (A := blkA g7 35 [.int .i64 n, .slice A' L.length c']) (by repeat first | exact .here _ _ | assumption | apply Pick.there)).pick (A := blkA g5 27 (tcs n (ofF L))) (by repeat first | exact .here _ _ | assumption | apply Pick.there))⟩ (fun w hI => q_mv (.bool _) rfl) ?_
              refine p_one 20 rfl (by kernel_rfl) ?_
              refine t_yes rfl rfl rfl ?_
              refine t_call Try.call29 (alives_calls) rfl ?_
              rintro e w ⟨rfl, hT⟩
              refine ⟨_, rfl, ?_⟩
              replace hS := hS.after hT
              refine t_nil ?_
              refine ⟨.inr ⟨_, (((hS.pick (A := blkA g12 27 (tcs n (ofF L))) (by repeat first | exact .here _ _ | assumption | apply Pick.there)).pick (A := blkA g7 35 [.int .i64 n, .slice A' L.length c']) (by repeat first | exact .here _ _ | assumption | apply Pick.there)).pick (A := blkA g5 27 (tcs n (ofF L))) (by repeat first | exact .here _ _ | assumption | apply Pick.there))⟩, ?_⟩
              refine p_q hap hsel 21 rfl rfl ⟨_, (((hS.pick (A := blkA g12 27 (tcs n (ofF L))) (by repeat first | exact .here _ _ | assumption | apply Pick.there)).pick (A := blkA g7 35 [.int .i64 n, .slice A' L.length c']) (by repeat first | exact .here _ _ | assumption | apply Pick.there)).pick (A := blkA g5 27 (tcs n (ofF L))) (by repeat first | exact .here _ _ | assumption | apply Pick.there))⟩ (fun w hI => q_pick_t rfl rfl) ?_
              refine p_q hap hsel 22 rfl rfl ⟨_, (((hS.pick (A := blkA g12 27 (tcs n (ofF L))) (by repeat first | exact .here _ _ | assumption | apply Pick.there)).pick (A := blkA g7 35 [.int .i64 n, .slice A' L.length c']) (by repeat first | exact .here _ _ | assumption | apply Pick.there)).pick (A := blkA g5 27 (tcs n (ofF L))) (by repeat first | exact .here _ _ | assumption | apply Pick.there))⟩ (fun w hI => q_as (.bool _) rfl) ?_
              refine p_end (by kernel_rfl) ?_
              refine c_ret ?_
              refine r_one rfl rfl ?_
              exact ⟨rfl, hS.nil⟩
end Go.Proofs.Ytcikoealneldkaa
