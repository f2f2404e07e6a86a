/- Registries: the document's Put and Drop. -/
import Derived.Test.YtmgobaojioaioaaWh
import Derived.Test.YtmgobaojioaioaaUc
namespace Go.Proofs.Ytmgobaojioaioaa
open Go Go.RowKit Go.Lib
variable {W : World}
attribute [local irreducible] blkA rowA rdsA mapA regA
set_option maxHeartbeats 2000000 in
set_option maxRecDepth 100000 in
theorem qgput_calls {w : World} {R : List Asn} {q : Nat} {A : Option Addr} {c : Nat} {Y : List RuV} {ps : List RdP} {x : RuV} (hS : St W w (blkA q 141 [.slice A Y.length c] :: rowA 47 9 A Y.length c (Y.flatMap RuV.cells) :: rdsA ps :: R)) (hs : Srt (Y.map nf)) (hY16 : Y.length ≤ 16) (hb : RuBy W ps x) : Calls Try.prog 23 #[.pointer (some ⟨q, 0, none⟩), .agg x.cells.toArray] w fun e w' => e = .returned (.int .i64 (gputE (Y.map nf) x)) ∧ ((gputE (Y.map nf) x = 0 ∧ ∃ A' c', St W w' (blkA q 141 [.slice A' (rgI Y x).length c'] :: rowA 47 9 A' (rgI Y x).length c' ((rgI Y x).flatMap RuV.cells) :: rdsA ps :: R)) ∨ (gputE (Y.map nf) x ≠ 0 ∧ St W w' (blkA q 141 [.slice A Y.length c] :: rowA 47 9 A Y.length c (Y.flatMap RuV.cells) :: rdsA ps :: R))) := by
  refine calls_of_wpE (args := [_, _]) Try.func23 rfl rfl rfl ?_
  refine c_seq ?_
  refine c_region ?_
  refine t_box (v := (.agg _)) rfl rfl hS (fun g3 w hS => ?_)
  replace hS := hS.recast (show _ = blkA g3 47 [.int .i64 x.version, .slice x.ticks.A x.ticks.l.length x.ticks.c, .int .i64 x.lot, .int .i64 x.band, .slice x.fees.A x.fees.l.length x.fees.c, .int .i64 x.round, .int .i64 x.priority, .int .i64 x.self, .int .i64 x.layout] from rfl)
  refine t_q (q_assign) ?_
  refine t_nil ?_
  refine c_seq ?_
  refine c_seq ?_
  refine c_region ?_
  refine t_q (q_cast (v' := .agg x.cells.toArray) (q_load_blk Try.isAgg47 Try.sizeOf47 rfl (hS.blk (by repeat first | exact .here _ _ | assumption | apply Pick.there)) rfl) (by rfl)) ?_
  refine t_call Try.call77 (qgoodr_calls (x := x) (hb.gd hS (by repeat first | exact .here _ _ | assumption | apply Pick.there))) rfl ?_
  rintro e w ⟨rfl, hT⟩
  refine ⟨_, rfl, ?_⟩
  replace hS := hS.after hT
  refine t_q (q_not rfl) ?_
  refine t_nil ?_
  refine c_cond rfl ?_ ?_
  · intro hc2
    have e := (gputE_1 (M := Y.map nf) (bnt (by assumption : (!goodR x) = true))).1
    have e0 : gputE (Y.map nf) x ≠ 0 := by rw [e]; decide
    refine c_seq ?_
    refine c_region ?_
    refine t_q (q_assign) ?_
    refine t_nil ?_
    refine c_ret ?_
    refine r_one rfl rfl ?_
    first
      | (rw [e]
         exact ⟨rfl, .inr ⟨e ▸ e0, ((((hS.pick (A := blkA g3 47 _) (by repeat first | exact .here _ _ | assumption | apply Pick.there)).drop.pick (A := rdsA ps) (by repeat first | exact .here _ _ | assumption | apply Pick.there)).pick (A := rowA 47 9 A Y.length c (Y.flatMap RuV.cells)) (by repeat first | exact .here _ _ | assumption | apply Pick.there)).pick (A := blkA q 141 [.slice A Y.length c]) (by repeat first | exact .here _ _ | assumption | apply Pick.there))⟩⟩)
      | (have hp : put = false := bnt (by assumption : (!put) = true)
         obtain ⟨hO, hI⟩ := hno hp
         have hL : O ++ [x] = rgI Y x := by rw [hI, hO, hiY, List.take_length, List.drop_length]; rfl
         have hn2 : m + 1 = (rgI Y x).length := by rw [← hL, hm, List.length_append]; rfl
         rw [hL, hn2] at hS
         rw [e0]
         exact ⟨rfl, .inl ⟨rfl, A65, c65, (((((hS.pick (A := rowA 47 9 A Y.length c (Y.flatMap RuV.cells)) (by repeat first | exact .here _ _ | assumption | apply Pick.there)).drop.pick (A := blkA g3 47 _) (by repeat first | exact .here _ _ | assumption | apply Pick.there)).drop.pick (A := rdsA ps) (by repeat first | exact .here _ _ | assumption | apply Pick.there)).pick (A := rowA 47 9 A65 (rgI Y x).length c65 ((rgI Y x).flatMap RuV.cells)) (by repeat first | exact .here _ _ | assumption | apply Pick.there)).pick (A := blkA q 141 [.slice A65 (rgI Y x).length c65]) (by repeat first | exact .here _ _ | assumption | apply Pick.there))⟩⟩)
      | (have hp : put = true := bnf (by assumption : (!put) = false)
         have hL : O = rgI Y x := by rw [hyes hp, hiY, List.drop_length, List.append_nil]
         rw [hm, hL] at hS
         rw [e0]
         exact ⟨rfl, .inl ⟨rfl, A5, c5, (((((hS.pick (A := rowA 47 9 A Y.length c (Y.flatMap RuV.cells)) (by repeat first | exact .here _ _ | assumption | apply Pick.there)).drop.pick (A := blkA g3 47 _) (by repeat first | exact .here _ _ | assumption | apply Pick.there)).drop.pick (A := rdsA ps) (by repeat first | exact .here _ _ | assumption | apply Pick.there)).pick (A := rowA 47 9 A5 (rgI Y x).length c5 ((rgI Y x).flatMap RuV.cells)) (by repeat first | exact .here _ _ | assumption | apply Pick.there)).pick (A := blkA q 141 [.slice A5 (rgI Y x).length c5]) (by repeat first | exact .here _ _ | assumption | apply Pick.there))⟩⟩)
  · intro hc2
    have h1 : goodR x = true := bnf (by assumption : (!goodR x) = false)
    refine c_skip ?_
    refine c_seq ?_
    refine c_seq ?_
    refine c_region ?_
    refine t_q (q_mv (.pointer _) rfl) ?_
    refine t_q (q_fieldAddr 0 Try.runUnderlying47 rfl Try.sizeOf3 (by decide) rfl rfl) ?_
    refine t_q (q_load1 Try.isAgg3 rfl (hS.cell (by repeat first | exact .here _ _ | assumption | apply Pick.there) rfl)) ?_
    refine t_call Try.call78 (qgat_calls ((hS.pick (A := rowA 47 9 A Y.length c (Y.flatMap RuV.cells)) (by repeat first | exact .here _ _ | assumption | apply Pick.there)).pick (A := blkA q 141 [.slice A Y.length c]) (by repeat first | exact .here _ _ | assumption | apply Pick.there)) hY16) rfl ?_
    rintro e w ⟨i, rfl, hat, hS⟩
    refine ⟨_, rfl, ?_⟩
    refine t_q (q_geq rfl rfl) ?_
    refine t_nil ?_
    refine c_cond rfl ?_ ?_
    · intro hc5
      have hc5d := of_decide_eq_true hc5
      obtain ⟨j, rfl, _, _, hn⟩ := at_yes hs hat (by omega)
      have e := (gputE_2 (M := Y.map nf) h1 (by rw [hn]; rfl)).1
      have e0 : gputE (Y.map nf) x ≠ 0 := by rw [e]; decide
      refine c_seq ?_
      refine c_region ?_
      refine t_q (q_assign) ?_
      refine t_nil ?_
      refine c_ret ?_
      refine r_one rfl rfl ?_
      first
        | (rw [e]
           exact ⟨rfl, .inr ⟨e ▸ e0, ((((hS.pick (A := blkA g3 47 _) (by repeat first | exact .here _ _ | assumption | apply Pick.there)).drop.pick (A := rdsA ps) (by repeat first | exact .here _ _ | assumption | apply Pick.there)).pick (A := rowA 47 9 A Y.length c (Y.flatMap RuV.cells)) (by repeat first | exact .here _ _ | assumption | apply Pick.there)).pick (A := blkA q 141 [.slice A Y.length c]) (by repeat first | exact .here _ _ | assumption | apply Pick.there))⟩⟩)
        | (have hp : put = false := bnt (by assumption : (!put) = true)
           obtain ⟨hO, hI⟩ := hno hp
           have hL : O ++ [x] = rgI Y x := by rw [hI, hO, hiY, List.take_length, List.drop_length]; rfl
           have hn2 : m + 1 = (rgI Y x).length := by rw [← hL, hm, List.length_append]; rfl
           rw [hL, hn2] at hS
           rw [e0]
           exact ⟨rfl, .inl ⟨rfl, A65, c65, (((((hS.pick (A := rowA 47 9 A Y.length c (Y.flatMap RuV.cells)) (by repeat first | exact .here _ _ | assumption | apply Pick.there)).drop.pick (A := blkA g3 47 _) (by repeat first | exact .here _ _ | assumption | apply Pick.there)).drop.pick (A := rdsA ps) (by repeat first | exact .here _ _ | assumption | apply Pick.there)).pick (A := rowA 47 9 A65 (rgI Y x).length c65 ((rgI Y x).flatMap RuV.cells)) (by repeat first | exact .here _ _ | assumption | apply Pick.there)).pick (A := blkA q 141 [.slice A65 (rgI Y x).length c65]) (by repeat first | exact .here _ _ | assumption | apply Pick.there))⟩⟩)
        | (have hp : put = true := bnf (by assumption : (!put) = false)
           have hL : O = rgI Y x := by rw [hyes hp, hiY, List.drop_length, List.append_nil]
           rw [hm, hL] at hS
           rw [e0]
           exact ⟨rfl, .inl ⟨rfl, A5, c5, (((((hS.pick (A := rowA 47 9 A Y.length c (Y.flatMap RuV.cells)) (by repeat first | exact .here _ _ | assumption | apply Pick.there)).drop.pick (A := blkA g3 47 _) (by repeat first | exact .here _ _ | assumption | apply Pick.there)).drop.pick (A := rdsA ps) (by repeat first | exact .here _ _ | assumption | apply Pick.there)).pick (A := rowA 47 9 A5 (rgI Y x).length c5 ((rgI Y x).flatMap RuV.cells)) (by repeat first | exact .here _ _ | assumption | apply Pick.there)).pick (A := blkA q 141 [.slice A5 (rgI Y x).length c5]) (by repeat first | exact .here _ _ | assumption | apply Pick.there))⟩⟩)
    · intro hc5
      have hc5d := of_decide_eq_false hc5
      have hn := at_no hat (by omega)
      have h2 : (rgF (Y.map nf) x.version).isSome = false := by rw [hn]; rfl
      refine c_skip ?_
      refine c_seq ?_
      refine c_seq ?_
      refine c_region ?_
      refine t_q (q_mv (.pointer _) rfl) ?_
      refine t_q (q_nilCheck rfl) ?_
      refine t_q (q_fieldAddr 0 Try.runUnderlying141 rfl Try.sizeOf139 (by decide) rfl rfl) ?_
      refine t_q (q_load1 Try.isAgg139 rfl (hS.cell (by repeat first | exact .here _ _ | assumption | apply Pick.there) rfl)) ?_
      refine t_q (q_len_slice Try.runUnderlying139 rfl) ?_
      refine t_q (q_geq rfl rfl) ?_
      refine t_nil ?_
      refine c_cond rfl ?_ ?_
      · intro hc7
        have hc7d := of_decide_eq_true hc7
        have e := (gputE_3 (M := Y.map nf) h1 h2 (by rw [List.length_map]; omega)).1
        have e0 : gputE (Y.map nf) x ≠ 0 := by rw [e]; decide
        refine c_seq ?_
        refine c_region ?_
        refine t_q (q_assign) ?_
        refine t_nil ?_
        refine c_ret ?_
        refine r_one rfl rfl ?_
        first
          | (rw [e]
             exact ⟨rfl, .inr ⟨e ▸ e0, ((((hS.pick (A := blkA g3 47 _) (by repeat first | exact .here _ _ | assumption | apply Pick.there)).drop.pick (A := rdsA ps) (by repeat first | exact .here _ _ | assumption | apply Pick.there)).pick (A := rowA 47 9 A Y.length c (Y.flatMap RuV.cells)) (by repeat first | exact .here _ _ | assumption | apply Pick.there)).pick (A := blkA q 141 [.slice A Y.length c]) (by repeat first | exact .here _ _ | assumption | apply Pick.there))⟩⟩)
          | (have hp : put = false := bnt (by assumption : (!put) = true)
             obtain ⟨hO, hI⟩ := hno hp
             have hL : O ++ [x] = rgI Y x := by rw [hI, hO, hiY, List.take_length, List.drop_length]; rfl
             have hn2 : m + 1 = (rgI Y x).length := by rw [← hL, hm, List.length_append]; rfl
             rw [hL, hn2] at hS
             rw [e0]
             exact ⟨rfl, .inl ⟨rfl, A65, c65, (((((hS.pick (A := rowA 47 9 A Y.length c (Y.flatMap RuV.cells)) (by repeat first | exact .here _ _ | assumption | apply Pick.there)).drop.pick (A := blkA g3 47 _) (by repeat first | exact .here _ _ | assumption | apply Pick.there)).drop.pick (A := rdsA ps) (by repeat first | exact .here _ _ | assumption | apply Pick.there)).pick (A := rowA 47 9 A65 (rgI Y x).length c65 ((rgI Y x).flatMap RuV.cells)) (by repeat first | exact .here _ _ | assumption | apply Pick.there)).pick (A := blkA q 141 [.slice A65 (rgI Y x).length c65]) (by repeat first | exact .here _ _ | assumption | apply Pick.there))⟩⟩)
          | (have hp : put = true := bnf (by assumption : (!put) = false)
             have hL : O = rgI Y x := by rw [hyes hp, hiY, List.drop_length, List.append_nil]
             rw [hm, hL] at hS
             rw [e0]
             exact ⟨rfl, .inl ⟨rfl, A5, c5, (((((hS.pick (A := rowA 47 9 A Y.length c (Y.flatMap RuV.cells)) (by repeat first | exact .here _ _ | assumption | apply Pick.there)).drop.pick (A := blkA g3 47 _) (by repeat first | exact .here _ _ | assumption | apply Pick.there)).drop.pick (A := rdsA ps) (by repeat first | exact .here _ _ | assumption | apply Pick.there)).pick (A := rowA 47 9 A5 (rgI Y x).length c5 ((rgI Y x).flatMap RuV.cells)) (by repeat first | exact .here _ _ | assumption | apply Pick.there)).pick (A := blkA q 141 [.slice A5 (rgI Y x).length c5]) (by repeat first | exact .here _ _ | assumption | apply Pick.there))⟩⟩)
      · intro hc7
        have hc7d := of_decide_eq_false hc7
        have e0 : gputE (Y.map nf) x = 0 := (gputE_4 (M := Y.map nf) h1 h2 (by rw [List.length_map]; omega)).1
        replace hS := hS.nilrow 47 9
        refine c_skip ?_
        refine c_seq ?_
        refine c_region ?_
        refine t_q (q_assign) ?_
        refine t_nil ?_
        refine c_seq ?_
        refine c_region ?_
        refine t_q (q_assign) ?_
        refine t_nil ?_
        refine c_seq ?_
        refine c_seq ?_
        refine c_region ?_
        refine t_q (q_assign) ?_
        refine t_nil ?_
        refine c_block ?_
        refine c_loop [5, 6, 7, 22, 23, 24, 25, 26, 27, 28, 29, 30, 31, 32, 33, 34, 35, 36, 37, 38, 39, 40, 41, 42, 43, 44, 45, 46, 47, 48, 49, 50, 51, 52, 53, 54, 55, 56, 57, 58, 59] (fun k σ w => ∃ (i : Nat) (put : Bool) (O : List RuV) (m : Nat) (A5 : Option Addr) (c5 : Nat), σ 7 = .int .i64 (i : Int) ∧ σ 6 = .bool put ∧ σ 5 = .slice A5 m c5 ∧ i ≤ Y.length ∧ Y.length - i ≤ k ∧ m = O.length ∧ m ≤ i + 1 ∧ (put = false → O = Y.take i ∧ rgI Y x = Y.take i ++ rgI (Y.drop i) x) ∧ (put = true → rgI Y x = O ++ Y.drop i) ∧ St W w (rowA 47 9 A5 m c5 ((O).flatMap RuV.cells) :: blkA q 141 [.slice A Y.length c] :: rowA 47 9 A Y.length c (Y.flatMap RuV.cells) :: blkA g3 47 [.int .i64 x.version, .slice x.ticks.A x.ticks.l.length x.ticks.c, .int .i64 x.lot, .int .i64 x.band, .slice x.fees.A x.fees.l.length x.fees.c, .int .i64 x.round, .int .i64 x.priority, .int .i64 x.self, .int .i64 x.layout] :: rdsA ps :: R)) (Y.length) rfl (⟨0, false, [], 0, none, 0, rfl, rfl, rfl, by omega, by omega, rfl, by omega, (fun _ => ⟨rfl, rfl⟩), (fun h => by cases h), (((((hS.pick (A := rdsA ps) (by repeat first | exact .here _ _ | assumption | apply Pick.there)).pick (A := blkA g3 47 [.int .i64 x.version, .slice x.ticks.A x.ticks.l.length x.ticks.c, .int .i64 x.lot, .int .i64 x.band, .slice x.fees.A x.fees.l.length x.fees.c, .int .i64 x.round, .int .i64 x.priority, .int .i64 x.self, .int .i64 x.layout]) (by repeat first | exact .here _ _ | assumption | apply Pick.there)).pick (A := rowA 47 9 A Y.length c (Y.flatMap RuV.cells)) (by repeat first | exact .here _ _ | assumption | apply Pick.there)).pick (A := blkA q 141 [.slice A Y.length c]) (by repeat first | exact .here _ _ | assumption | apply Pick.there)).pick (A := rowA 47 9 none 0 0 ([])) (by repeat first | exact .here _ _ | assumption | apply Pick.there))⟩) ?_
        skip
        rintro k σ w ⟨i, put, O, m, A5, c5, h7, h6, h5, hi, hk, hm, hmi, hno, hyes, hS⟩
        refine c_know 7 h7 ?_
        refine c_know 6 h6 ?_
        refine c_know 5 h5 ?_
        clear h7 h6 h5
        refine c_seq ?_
        refine c_seq ?_
        refine c_region ?_
        refine t_q (q_mv (.int _ _) rfl) ?_
        refine t_q (q_mv (.pointer _) rfl) ?_
        refine t_q (q_nilCheck rfl) ?_
        refine t_q (q_fieldAddr 0 Try.runUnderlying141 rfl Try.sizeOf139 (by decide) rfl rfl) ?_
        refine t_q (q_load1 Try.isAgg139 rfl (hS.cell (by repeat first | exact .here _ _ | assumption | apply Pick.there) rfl)) ?_
        refine t_q (q_len_slice Try.runUnderlying139 rfl) ?_
        refine t_q (q_lss rfl rfl) ?_
        refine t_nil ?_
        refine c_cond rfl ?_ ?_
        · intro hc9
          have hc9d := of_decide_eq_true hc9
          refine c_skip ?_
          refine c_seq ?_
          refine c_block ?_
          refine c_seq ?_
          refine c_seq ?_
          refine c_draw ?_
          refine d_keep3 (blkA q 141 [.slice A Y.length c]) (rowA 47 9 A Y.length c (Y.flatMap RuV.cells)) (blkA g3 47 [.int .i64 x.version, .slice x.ticks.A x.ticks.l.length x.ticks.c, .int .i64 x.lot, .int .i64 x.band, .slice x.fees.A x.fees.l.length x.fees.c, .int .i64 x.round, .int .i64 x.priority, .int .i64 x.self, .int .i64 x.layout]) 15 [0, 1, 2, 3, 4, 5, 6, 7, 8, 9, 10, 11, 12, 13, 14] [0, 1, 2, 3, 4, 5, 6, 7, 8, 9, 10, 11, 12, 13, 14] hS rfl (by kernel_rfl) (by kernel_rfl) (by kernel_rfl) (by kernel_rfl) (fun hap hsel w hS => ?_)
          refine p_q hap hsel 0 rfl rfl ⟨_, (((hS.pick (A := blkA g3 47 [.int .i64 x.version, .slice x.ticks.A x.ticks.l.length x.ticks.c, .int .i64 x.lot, .int .i64 x.band, .slice x.fees.A x.fees.l.length x.fees.c, .int .i64 x.round, .int .i64 x.priority, .int .i64 x.self, .int .i64 x.layout]) (by repeat first | exact .here _ _ | assumption | apply Pick.there)).pick (A := rowA 47 9 A Y.length c (Y.flatMap RuV.cells)) (by repeat first | exact .here _ _ | assumption | apply Pick.there)).pick (A := blkA q 141 [.slice A Y.length c]) (by repeat first | exact .here _ _ | assumption | apply Pick.there))⟩ (fun w hI => q_mv (.bool _) rfl) ?_
          refine p_q hap hsel 1 rfl rfl ⟨_, (((hS.pick (A := blkA g3 47 [.int .i64 x.version, .slice x.ticks.A x.ticks.l.length x.ticks.c, .int .i64 x.lot, .int .i64 x.band, .slice x.fees.A x.fees.l.length x.fees.c, .int .i64 x.round, .int .i64 x.priority, .int .i64 x.self, .int .i64 x.layout]) (by repeat first | exact .here _ _ | assumption | apply Pick.there)).pick (A := rowA 47 9 A Y.length c (Y.flatMap RuV.cells)) (by repeat first | exact .here _ _ | assumption | apply Pick.there)).pick (A := blkA q 141 [.slice A Y.length c]) (by repeat first | exact .here _ _ | assumption | apply Pick.there))⟩ (fun w hI => q_not rfl) ?_
          refine p_q hap hsel 2 rfl rfl ⟨_, (((hS.pick (A := blkA g3 47 [.int .i64 x.version, .slice x.ticks.A x.ticks.l.length x.ticks.c, .int .i64 x.lot, .int .i64 x.band, .slice x.fees.A x.fees.l.length x.fees.c, .int .i64 x.round, .int .i64 x.priority, .int .i64 x.self, .int .i64 x.layout]) (by repeat first | exact .here _ _ | assumption | apply Pick.there)).pick (A := rowA 47 9 A Y.length c (Y.flatMap RuV.cells)) (by repeat first | exact .here _ _ | assumption | apply Pick.there)).pick (A := blkA q 141 [.slice A Y.length c]) (by repeat first | exact .here _ _ | assumption | apply Pick.there))⟩ (fun w hI => q_mv (.bool _) rfl) ?_
          refine p_case 33 rfl ?_ ?_
          · intro hg11
            refine p_yes hap hsel 3 rfl rfl ⟨_, (((hS.pick (A := blkA g3 47 [.int .i64 x.version, .slice x.ticks.A x.ticks.l.length x.ticks.c, .int .i64 x.lot, .int .i64 x.band, .slice x.fees.A x.fees.l.length x.fees.c, .int .i64 x.round, .int .i64 x.priority, .int .i64 x.self, .int .i64 x.layout]) (by repeat first | exact .here _ _ | assumption | apply Pick.there)).pick (A := rowA 47 9 A Y.length c (Y.flatMap RuV.cells)) (by repeat first | exact .here _ _ | assumption | apply Pick.there)).pick (A := blkA q 141 [.slice A Y.length c]) (by repeat first | exact .here _ _ | assumption | apply Pick.there))⟩ rfl rfl (congrArg not (not_back hg11)) (fun w hI => q_mv (.pointer _) rfl) ?_
            refine p_yes hap hsel 4 rfl rfl ⟨_, (((hS.pick (A := blkA g3 47 [.int .i64 x.version, .slice x.ticks.A x.ticks.l.length x.ticks.c, .int .i64 x.lot, .int .i64 x.band, .slice x.fees.A x.fees.l.length x.fees.c, .int .i64 x.round, .int .i64 x.priority, .int .i64 x.self, .int .i64 x.layout]) (by repeat first | exact .here _ _ | assumption | apply Pick.there)).pick (A := rowA 47 9 A Y.length c (Y.flatMap RuV.cells)) (by repeat first | exact .here _ _ | assumption | apply Pick.there)).pick (A := blkA q 141 [.slice A Y.length c]) (by repeat first | exact .here _ _ | assumption | apply Pick.there))⟩ rfl rfl (congrArg not (not_back hg11)) (fun w hI => q_nilCheck rfl) ?_
            refine p_yes hap hsel 5 rfl rfl ⟨_, (((hS.pick (A := blkA g3 47 [.int .i64 x.version, .slice x.ticks.A x.ticks.l.length x.ticks.c, .int .i64 x.lot, .int .i64 x.band, .slice x.fees.A x.fees.l.length x.fees.c, .int .i64 x.round, .int .i64 x.priority, .int .i64 x.self, .int .i64 x.layout]) (by repeat first | exact .here _ _ | assumption | apply Pick.there)).pick (A := rowA 47 9 A Y.length c (Y.flatMap RuV.cells)) (by repeat first | exact .here _ _ | assumption | apply Pick.there)).pick (A := blkA q 141 [.slice A Y.length c]) (by repeat first | exact .here _ _ | assumption | apply Pick.there))⟩ rfl rfl (congrArg not (not_back hg11)) (fun w hI => q_fieldAddr 0 Try.runUnderlying141 rfl Try.sizeOf139 (by decide) rfl rfl) ?_
            refine p_yes hap hsel 6 rfl rfl ⟨_, (((hS.pick (A := blkA g3 47 [.int .i64 x.version, .slice x.ticks.A x.ticks.l.length x.ticks.c, .int .i64 x.lot, .int .i64 x.band, .slice x.fees.A x.fees.l.length x.fees.c, .int .i64 x.round, .int .i64 x.priority, .int .i64 x.self, .int .i64 x.layout]) (by repeat first | exact .here _ _ | assumption | apply Pick.there)).pick (A := rowA 47 9 A Y.length c (Y.flatMap RuV.cells)) (by repeat first | exact .here _ _ | assumption | apply Pick.there)).pick (A := blkA q 141 [.slice A Y.length c]) (by repeat first | exact .here _ _ | assumption | apply Pick.there))⟩ rfl rfl (congrArg not (not_back hg11)) (fun w hI => q_load1 Try.isAgg139 rfl (hI.choose_spec.cell (by repeat first | exact .here _ _ | assumption | apply Pick.there) rfl)) ?_
            refine p_yes hap hsel 7 rfl rfl ⟨_, (((hS.pick (A := blkA g3 47 [.int .i64 x.version, .slice x.ticks.A x.ticks.l.length x.ticks.c, .int .i64 x.lot, .int .i64 x.band, .slice x.fees.A x.fees.l.length x.fees.c, .int .i64 x.round, .int .i64 x.priority, .int .i64 x.self, .int .i64 x.layout]) (by repeat first | exact .here _ _ | assumption | apply Pick.there)).pick (A := rowA 47 9 A Y.length c (Y.flatMap RuV.cells)) (by repeat first | exact .here _ _ | assumption | apply Pick.there)).pick (A := blkA q 141 [.slice A Y.length c]) (by repeat first | exact .here _ _ | assumption | apply Pick.there))⟩ rfl rfl (congrArg not (not_back hg11)) (fun w hI => q_mv (.int _ _) rfl) ?_
            refine p_index_yes hap hsel 8 rfl rfl ⟨_, (((hS.pick (A := blkA g3 47 [.int .i64 x.version, .slice x.ticks.A x.ticks.l.length x.ticks.c, .int .i64 x.lot, .int .i64 x.band, .slice x.fees.A x.fees.l.length x.fees.c, .int .i64 x.round, .int .i64 x.priority, .int .i64 x.self, .int .i64 x.layout]) (by repeat first | exact .here _ _ | assumption | apply Pick.there)).pick (A := rowA 47 9 A Y.length c (Y.flatMap RuV.cells)) (by repeat first | exact .here _ _ | assumption | apply Pick.there)).pick (A := blkA q 141 [.slice A Y.length c]) (by repeat first | exact .here _ _ | assumption | apply Pick.there))⟩ rfl rfl (congrArg not (not_back hg11)) Try.runUnderlying139 Try.sizeOf47 (fun w hI => hI.choose_spec.rowRdL (l := Y) (A := A) (c := c) (by repeat first | exact .here _ _ | assumption | apply Pick.there) rfl (fun _ => rfl)) rfl rfl (by omega) (fun ad12 hl12 hx12 => ?_)
            refine p_yes hap hsel 9 rfl rfl ⟨_, (((hS.pick (A := blkA g3 47 [.int .i64 x.version, .slice x.ticks.A x.ticks.l.length x.ticks.c, .int .i64 x.lot, .int .i64 x.band, .slice x.fees.A x.fees.l.length x.fees.c, .int .i64 x.round, .int .i64 x.priority, .int .i64 x.self, .int .i64 x.layout]) (by repeat first | exact .here _ _ | assumption | apply Pick.there)).pick (A := rowA 47 9 A Y.length c (Y.flatMap RuV.cells)) (by repeat first | exact .here _ _ | assumption | apply Pick.there)).pick (A := blkA q 141 [.slice A Y.length c]) (by repeat first | exact .here _ _ | assumption | apply Pick.there))⟩ rfl rfl (congrArg not (not_back hg11)) (fun w hI => q_fieldAddr 0 Try.runUnderlying47 rfl Try.sizeOf3 (by decide) rfl rfl) ?_
            refine p_yes hap hsel 10 rfl rfl ⟨_, (((hS.pick (A := blkA g3 47 [.int .i64 x.version, .slice x.ticks.A x.ticks.l.length x.ticks.c, .int .i64 x.lot, .int .i64 x.band, .slice x.fees.A x.fees.l.length x.fees.c, .int .i64 x.round, .int .i64 x.priority, .int .i64 x.self, .int .i64 x.layout]) (by repeat first | exact .here _ _ | assumption | apply Pick.there)).pick (A := rowA 47 9 A Y.length c (Y.flatMap RuV.cells)) (by repeat first | exact .here _ _ | assumption | apply Pick.there)).pick (A := blkA q 141 [.slice A Y.length c]) (by repeat first | exact .here _ _ | assumption | apply Pick.there))⟩ rfl rfl (congrArg not (not_back hg11)) (fun w hI => q_load1 Try.isAgg3 rfl ((hx12 w hI) 0 _ rfl)) ?_
            refine p_yes hap hsel 11 rfl rfl ⟨_, (((hS.pick (A := blkA g3 47 [.int .i64 x.version, .slice x.ticks.A x.ticks.l.length x.ticks.c, .int .i64 x.lot, .int .i64 x.band, .slice x.fees.A x.fees.l.length x.fees.c, .int .i64 x.round, .int .i64 x.priority, .int .i64 x.self, .int .i64 x.layout]) (by repeat first | exact .here _ _ | assumption | apply Pick.there)).pick (A := rowA 47 9 A Y.length c (Y.flatMap RuV.cells)) (by repeat first | exact .here _ _ | assumption | apply Pick.there)).pick (A := blkA q 141 [.slice A Y.length c]) (by repeat first | exact .here _ _ | assumption | apply Pick.there))⟩ rfl rfl (congrArg not (not_back hg11)) (fun w hI => q_fieldAddr 0 Try.runUnderlying47 rfl Try.sizeOf3 (by decide) rfl rfl) ?_
            refine p_yes hap hsel 12 rfl rfl ⟨_, (((hS.pick (A := blkA g3 47 [.int .i64 x.version, .slice x.ticks.A x.ticks.l.length x.ticks.c, .int .i64 x.lot, .int .i64 x.band, .slice x.fees.A x.fees.l.length x.fees.c, .int .i64 x.round, .int .i64 x.priority, .int .i64 x.self, .int .i64 x.layout]) (by repeat first | exact .here _ _ | assumption | apply Pick.there)).pick (A := rowA 47 9 A Y.length c (Y.flatMap RuV.cells)) (by repeat first | exact .here _ _ | assumption | apply Pick.there)).pick (A := blkA q 141 [.slice A Y.length c]) (by repeat first | exact .here _ _ | assumption | apply Pick.there))⟩ rfl rfl (congrArg not (not_back hg11)) (fun w hI => q_load1 Try.isAgg3 rfl (hI.choose_spec.cell (by repeat first | exact .here _ _ | assumption | apply Pick.there) rfl)) ?_
            refine p_yes hap hsel 13 rfl rfl ⟨_, (((hS.pick (A := blkA g3 47 [.int .i64 x.version, .slice x.ticks.A x.ticks.l.length x.ticks.c, .int .i64 x.lot, .int .i64 x.band, .slice x.fees.A x.fees.l.length x.fees.c, .int .i64 x.round, .int .i64 x.priority, .int .i64 x.self, .int .i64 x.layout]) (by repeat first | exact .here _ _ | assumption | apply Pick.there)).pick (A := rowA 47 9 A Y.length c (Y.flatMap RuV.cells)) (by repeat first | exact .here _ _ | assumption | apply Pick.there)).pick (A := blkA q 141 [.slice A Y.length c]) (by repeat first | exact .here _ _ | assumption | apply Pick.there))⟩ rfl rfl (congrArg not (not_back hg11)) (fun w hI => q_gtr rfl rfl) ?_
            refine p_q hap hsel 14 rfl rfl ⟨_, (((hS.pick (A := blkA g3 47 [.int .i64 x.version, .slice x.ticks.A x.ticks.l.length x.ticks.c, .int .i64 x.lot, .int .i64 x.band, .slice x.fees.A x.fees.l.length x.fees.c, .int .i64 x.round, .int .i64 x.priority, .int .i64 x.self, .int .i64 x.layout]) (by repeat first | exact .here _ _ | assumption | apply Pick.there)).pick (A := rowA 47 9 A Y.length c (Y.flatMap RuV.cells)) (by repeat first | exact .here _ _ | assumption | apply Pick.there)).pick (A := blkA q 141 [.slice A Y.length c]) (by repeat first | exact .here _ _ | assumption | apply Pick.there))⟩ (fun w hI => q_pick_t rfl (congrArg not (not_back hg11))) ?_
            refine p_end (by kernel_rfl) ?_
            refine c_cond rfl ?_ ?_
            · intro hc14
              have hc14d := of_decide_eq_true hc14
              have f_i : (Y.getD ((i : Nat) : Int).toNat default).version = (Y.getD i default).version := rfl
              refine c_seq ?_
              refine c_region ?_
              refine t_q (q_mv (.slice _ _ _) rfl) ?_
              refine t_q (q_cast (v' := .agg x.cells.toArray) (q_load_blk Try.isAgg47 Try.sizeOf47 rfl (hS.blk (by repeat first | exact .here _ _ | assumption | apply Pick.there)) rfl) (by rfl)) ?_
              refine t_buildSlice Try.runUnderlying139 Try.sizeOf47 Try.zeroValue47 rfl rfl (by intro v hv; simp at hv; try (first | (subst hv; rfl) | (rcases hv with rfl | rfl <;> rfl))) (by decide) (by decide) hS (fun g48 w hS => ?_)
              refine t_append_own (size := 9) (bytes := 104) Try.underlying139 (info_of Try.type47) rfl rfl rfl rfl (by decide) hS (by repeat first | exact .here _ _ | assumption | apply Pick.there) (by repeat first | exact .here _ _ | assumption | apply Pick.there) rfl rfl (by first | exact allOne_bv _ | exact allOne_ints _ _ | rfl) (by unfold maxLen; omega) (by omega) (fun A49 c49 w hS => ?_)
              replace hS := (hS.pick (A := rowA 47 9 A49 _ c49 _) (by repeat first | exact .here _ _ | assumption | apply Pick.there)).recast (show _ = rowA 47 9 A49 (m + 1) c49 ((O ++ [x]).flatMap RuV.cells) from by rw [List.flatMap_append, List.flatMap_cons, List.flatMap_nil, List.append_nil]; rfl)
              refine t_q (q_as (.slice _ _ _) rfl) ?_
              refine t_nil ?_
              refine c_region ?_
              refine t_q (q_assign) ?_
              refine t_nil ?_
              refine c_region ?_
              refine t_q (q_mv (.slice _ _ _) rfl) ?_
              refine t_q (q_mv (.pointer _) rfl) ?_
              refine t_q (q_nilCheck rfl) ?_
              refine t_q (q_fieldAddr 0 Try.runUnderlying141 rfl Try.sizeOf139 (by decide) rfl rfl) ?_
              refine t_q (q_load1 Try.isAgg139 rfl (hS.cell (by repeat first | exact .here _ _ | assumption | apply Pick.there) rfl)) ?_
              refine t_q (q_mv (.int _ _) rfl) ?_
              first | refine t_index_nat Try.runUnderlying139 Try.sizeOf47 (hS.rowRdL (l := Y) (A := A) (c := c) (by repeat first | exact .here _ _ | assumption | apply Pick.there) rfl (fun _ => rfl)) rfl rfl (by omega) (fun ad15 hl15 hx15 => ?_) | refine t_index Try.runUnderlying139 Try.sizeOf47 (hS.rowRdL (l := Y) (A := A) (c := c) (by repeat first | exact .here _ _ | assumption | apply Pick.there) rfl (fun _ => rfl)) rfl rfl (by omega) (fun ad15 hl15 hx15 => ?_)
              refine t_q (q_loadN Try.isAgg47 Try.sizeOf47 rfl hl15 hx15) ?_
              refine t_buildSlice Try.runUnderlying139 Try.sizeOf47 Try.zeroValue47 rfl rfl (by intro v hv; simp at hv; try (first | (subst hv; rfl) | (rcases hv with rfl | rfl <;> rfl))) (by decide) (by decide) hS (fun g58 w hS => ?_)
              refine t_append_own (size := 9) (bytes := 104) Try.underlying139 (info_of Try.type47) rfl rfl rfl rfl (by decide) hS (by repeat first | exact .here _ _ | assumption | apply Pick.there) (by repeat first | exact .here _ _ | assumption | apply Pick.there) rfl rfl (by first | exact allOne_bv _ | exact allOne_ints _ _ | rfl) (by unfold maxLen; omega) (by omega) (fun A59 c59 w hS => ?_)
              first
                | replace hS := (hS.pick (A := rowA 47 9 A59 (m + 1) c59 _) (by repeat first | exact .here _ _ | assumption | apply Pick.there)).recast (show _ = rowA 47 9 A59 (m + 1) c59 ((O ++ [(Y.getD i default)]).flatMap RuV.cells) from by rw [List.flatMap_append, List.flatMap_cons, List.flatMap_nil, List.append_nil]; rfl)
                | replace hS := (hS.pick (A := rowA 47 9 A59 (m + 1 + 1) c59 _) (by repeat first | exact .here _ _ | assumption | apply Pick.there)).recast (show _ = rowA 47 9 A59 (m + 1 + 1) c59 (((O ++ [x]) ++ [(Y.getD i default)]).flatMap RuV.cells) from by rw [List.flatMap_append (xs := O ++ [x]), List.flatMap_cons, List.flatMap_nil, List.append_nil]; rfl)
              refine t_q (q_as (.slice _ _ _) rfl) ?_
              refine t_nil ?_
              refine c_region ?_
              refine t_q (q_mv (.int _ _) rfl) ?_
              refine t_q (q_add_i64 rfl rfl (by omega)) ?_
              refine t_q (q_as (.int _ _) rfl) ?_
              refine t_nil ?_
              first
                | (have hp : put = true := bnf (by assumption : (!put) = false)
                   exact ⟨k - 1, by omega, i + 1, put, O ++ [(Y.getD i default)], m + 1, A59, c59, rfl, rfl, rfl, by omega, by omega, (by rw [List.length_append, hm]; rfl), by omega, (fun h => by rw [hp] at h; cases h), (fun h => by rw [hyes hp, rdrop_getD (by omega : i < Y.length), List.append_assoc]; rfl), (((((hS.pick (A := rdsA ps) (by repeat first | exact .here _ _ | assumption | apply Pick.there)).pick (A := blkA g3 47 [.int .i64 x.version, .slice x.ticks.A x.ticks.l.length x.ticks.c, .int .i64 x.lot, .int .i64 x.band, .slice x.fees.A x.fees.l.length x.fees.c, .int .i64 x.round, .int .i64 x.priority, .int .i64 x.self, .int .i64 x.layout]) (by repeat first | exact .here _ _ | assumption | apply Pick.there)).pick (A := rowA 47 9 A Y.length c (Y.flatMap RuV.cells)) (by repeat first | exact .here _ _ | assumption | apply Pick.there)).pick (A := blkA q 141 [.slice A Y.length c]) (by repeat first | exact .here _ _ | assumption | apply Pick.there)).pick (A := rowA 47 9 A59 _ c59 _) (by repeat first | exact .here _ _ | assumption | apply Pick.there))⟩)
                | (have hp : put = false := bnt (by assumption : (!put) = true)
                   obtain ⟨hO, hI⟩ := hno hp
                   exact ⟨k - 1, by omega, i + 1, put, O ++ [(Y.getD i default)], m + 1, A59, c59, rfl, rfl, rfl, by omega, by omega, (by rw [List.length_append, hm]; rfl), by omega, (fun _ => ⟨by rw [hO, rtake_getD (by omega)], by rw [hI, rgI_go (by omega) (by omega), rtake_getD (by omega), List.append_assoc]; rfl⟩), (fun h => by rw [hp] at h; cases h), (((((hS.pick (A := rdsA ps) (by repeat first | exact .here _ _ | assumption | apply Pick.there)).pick (A := blkA g3 47 [.int .i64 x.version, .slice x.ticks.A x.ticks.l.length x.ticks.c, .int .i64 x.lot, .int .i64 x.band, .slice x.fees.A x.fees.l.length x.fees.c, .int .i64 x.round, .int .i64 x.priority, .int .i64 x.self, .int .i64 x.layout]) (by repeat first | exact .here _ _ | assumption | apply Pick.there)).pick (A := rowA 47 9 A Y.length c (Y.flatMap RuV.cells)) (by repeat first | exact .here _ _ | assumption | apply Pick.there)).pick (A := blkA q 141 [.slice A Y.length c]) (by repeat first | exact .here _ _ | assumption | apply Pick.there)).pick (A := rowA 47 9 A59 _ c59 _) (by repeat first | exact .here _ _ | assumption | apply Pick.there))⟩)
                | (have hp : put = false := bnt (by assumption : (!put) = true)
                   obtain ⟨hO, hI⟩ := hno hp
                   have hml : m ≤ i := by rw [hm, hO, List.length_take]; omega
                   exact ⟨k - 1, by omega, i + 1, true, (O ++ [x]) ++ [(Y.getD i default)], m + 1 + 1, A59, c59, rfl, rfl, rfl, by omega, by omega, (by rw [List.length_append, List.length_append, hm]; rfl), by omega, (fun h => by cases h), (fun h => by rw [hI, rgI_stop (by omega) (by omega), rdrop_getD (by omega : i < Y.length), hO, List.append_assoc, List.append_assoc]; rfl), (((((hS.pick (A := rdsA ps) (by repeat first | exact .here _ _ | assumption | apply Pick.there)).pick (A := blkA g3 47 [.int .i64 x.version, .slice x.ticks.A x.ticks.l.length x.ticks.c, .int .i64 x.lot, .int .i64 x.band, .slice x.fees.A x.fees.l.length x.fees.c, .int .i64 x.round, .int .i64 x.priority, .int .i64 x.self, .int .i64 x.layout]) (by repeat first | exact .here _ _ | assumption | apply Pick.there)).pick (A := rowA 47 9 A Y.length c (Y.flatMap RuV.cells)) (by repeat first | exact .here _ _ | assumption | apply Pick.there)).pick (A := blkA q 141 [.slice A Y.length c]) (by repeat first | exact .here _ _ | assumption | apply Pick.there)).pick (A := rowA 47 9 A59 _ c59 _) (by repeat first | exact .here _ _ | assumption | apply Pick.there))⟩)
            · intro hc14
              have hc14d := of_decide_eq_false hc14
              have f_i : (Y.getD ((i : Nat) : Int).toNat default).version = (Y.getD i default).version := rfl
              refine c_skip ?_
              refine c_region ?_
              refine t_q (q_mv (.slice _ _ _) rfl) ?_
              refine t_q (q_mv (.pointer _) rfl) ?_
              refine t_q (q_nilCheck rfl) ?_
              refine t_q (q_fieldAddr 0 Try.runUnderlying141 rfl Try.sizeOf139 (by decide) rfl rfl) ?_
              refine t_q (q_load1 Try.isAgg139 rfl (hS.cell (by repeat first | exact .here _ _ | assumption | apply Pick.there) rfl)) ?_
              refine t_q (q_mv (.int _ _) rfl) ?_
              first | refine t_index_nat Try.runUnderlying139 Try.sizeOf47 (hS.rowRdL (l := Y) (A := A) (c := c) (by repeat first | exact .here _ _ | assumption | apply Pick.there) rfl (fun _ => rfl)) rfl rfl (by omega) (fun ad16 hl16 hx16 => ?_) | refine t_index Try.runUnderlying139 Try.sizeOf47 (hS.rowRdL (l := Y) (A := A) (c := c) (by repeat first | exact .here _ _ | assumption | apply Pick.there) rfl (fun _ => rfl)) rfl rfl (by omega) (fun ad16 hl16 hx16 => ?_)
              refine t_q (q_loadN Try.isAgg47 Try.sizeOf47 rfl hl16 hx16) ?_
              refine t_buildSlice Try.runUnderlying139 Try.sizeOf47 Try.zeroValue47 rfl rfl (by intro v hv; simp at hv; try (first | (subst hv; rfl) | (rcases hv with rfl | rfl <;> rfl))) (by decide) (by decide) hS (fun g58 w hS => ?_)
              refine t_append_own (size := 9) (bytes := 104) Try.underlying139 (info_of Try.type47) rfl rfl rfl rfl (by decide) hS (by repeat first | exact .here _ _ | assumption | apply Pick.there) (by repeat first | exact .here _ _ | assumption | apply Pick.there) rfl rfl (by first | exact allOne_bv _ | exact allOne_ints _ _ | rfl) (by unfold maxLen; omega) (by omega) (fun A59 c59 w hS => ?_)
              first
                | replace hS := (hS.pick (A := rowA 47 9 A59 (m + 1) c59 _) (by repeat first | exact .here _ _ | assumption | apply Pick.there)).recast (show _ = rowA 47 9 A59 (m + 1) c59 ((O ++ [(Y.getD i default)]).flatMap RuV.cells) from by rw [List.flatMap_append, List.flatMap_cons, List.flatMap_nil, List.append_nil]; rfl)
                | replace hS := (hS.pick (A := rowA 47 9 A59 (m + 1 + 1) c59 _) (by repeat first | exact .here _ _ | assumption | apply Pick.there)).recast (show _ = rowA 47 9 A59 (m + 1 + 1) c59 (((O ++ [x]) ++ [(Y.getD i default)]).flatMap RuV.cells) from by rw [List.flatMap_append (xs := O ++ [x]), List.flatMap_cons, List.flatMap_nil, List.append_nil]; rfl)
              refine t_q (q_as (.slice _ _ _) rfl) ?_
              refine t_nil ?_
              refine c_region ?_
              refine t_q (q_mv (.int _ _) rfl) ?_
              refine t_q (q_add_i64 rfl rfl (by omega)) ?_
              refine t_q (q_as (.int _ _) rfl) ?_
              refine t_nil ?_
              first
                | (have hp : put = true := bnf (by assumption : (!put) = false)
                   exact ⟨k - 1, by omega, i + 1, put, O ++ [(Y.getD i default)], m + 1, A59, c59, rfl, rfl, rfl, by omega, by omega, (by rw [List.length_append, hm]; rfl), by omega, (fun h => by rw [hp] at h; cases h), (fun h => by rw [hyes hp, rdrop_getD (by omega : i < Y.length), List.append_assoc]; rfl), (((((hS.pick (A := rdsA ps) (by repeat first | exact .here _ _ | assumption | apply Pick.there)).pick (A := blkA g3 47 [.int .i64 x.version, .slice x.ticks.A x.ticks.l.length x.ticks.c, .int .i64 x.lot, .int .i64 x.band, .slice x.fees.A x.fees.l.length x.fees.c, .int .i64 x.round, .int .i64 x.priority, .int .i64 x.self, .int .i64 x.layout]) (by repeat first | exact .here _ _ | assumption | apply Pick.there)).pick (A := rowA 47 9 A Y.length c (Y.flatMap RuV.cells)) (by repeat first | exact .here _ _ | assumption | apply Pick.there)).pick (A := blkA q 141 [.slice A Y.length c]) (by repeat first | exact .here _ _ | assumption | apply Pick.there)).pick (A := rowA 47 9 A59 _ c59 _) (by repeat first | exact .here _ _ | assumption | apply Pick.there))⟩)
                | (have hp : put = false := bnt (by assumption : (!put) = true)
                   obtain ⟨hO, hI⟩ := hno hp
                   exact ⟨k - 1, by omega, i + 1, put, O ++ [(Y.getD i default)], m + 1, A59, c59, rfl, rfl, rfl, by omega, by omega, (by rw [List.length_append, hm]; rfl), by omega, (fun _ => ⟨by rw [hO, rtake_getD (by omega)], by rw [hI, rgI_go (by omega) (by omega), rtake_getD (by omega), List.append_assoc]; rfl⟩), (fun h => by rw [hp] at h; cases h), (((((hS.pick (A := rdsA ps) (by repeat first | exact .here _ _ | assumption | apply Pick.there)).pick (A := blkA g3 47 [.int .i64 x.version, .slice x.ticks.A x.ticks.l.length x.ticks.c, .int .i64 x.lot, .int .i64 x.band, .slice x.fees.A x.fees.l.length x.fees.c, .int .i64 x.round, .int .i64 x.priority, .int .i64 x.self, .int .i64 x.layout]) (by repeat first | exact .here _ _ | assumption | apply Pick.there)).pick (A := rowA 47 9 A Y.length c (Y.flatMap RuV.cells)) (by repeat first | exact .here _ _ | assumption | apply Pick.there)).pick (A := blkA q 141 [.slice A Y.length c]) (by repeat first | exact .here _ _ | assumption | apply Pick.there)).pick (A := rowA 47 9 A59 _ c59 _) (by repeat first | exact .here _ _ | assumption | apply Pick.there))⟩)
                | (have hp : put = false := bnt (by assumption : (!put) = true)
                   obtain ⟨hO, hI⟩ := hno hp
                   have hml : m ≤ i := by rw [hm, hO, List.length_take]; omega
                   exact ⟨k - 1, by omega, i + 1, true, (O ++ [x]) ++ [(Y.getD i default)], m + 1 + 1, A59, c59, rfl, rfl, rfl, by omega, by omega, (by rw [List.length_append, List.length_append, hm]; rfl), by omega, (fun h => by cases h), (fun h => by rw [hI, rgI_stop (by omega) (by omega), rdrop_getD (by omega : i < Y.length), hO, List.append_assoc, List.append_assoc]; rfl), (((((hS.pick (A := rdsA ps) (by repeat first | exact .here _ _ | assumption | apply Pick.there)).pick (A := blkA g3 47 [.int .i64 x.version, .slice x.ticks.A x.ticks.l.length x.ticks.c, .int .i64 x.lot, .int .i64 x.band, .slice x.fees.A x.fees.l.length x.fees.c, .int .i64 x.round, .int .i64 x.priority, .int .i64 x.self, .int .i64 x.layout]) (by repeat first | exact .here _ _ | assumption | apply Pick.there)).pick (A := rowA 47 9 A Y.length c (Y.flatMap RuV.cells)) (by repeat first | exact .here _ _ | assumption | apply Pick.there)).pick (A := blkA q 141 [.slice A Y.length c]) (by repeat first | exact .here _ _ | assumption | apply Pick.there)).pick (A := rowA 47 9 A59 _ c59 _) (by repeat first | exact .here _ _ | assumption | apply Pick.there))⟩)
          · intro hg11
            refine p_no hap hsel 3 rfl rfl ⟨_, (((hS.pick (A := blkA g3 47 [.int .i64 x.version, .slice x.ticks.A x.ticks.l.length x.ticks.c, .int .i64 x.lot, .int .i64 x.band, .slice x.fees.A x.fees.l.length x.fees.c, .int .i64 x.round, .int .i64 x.priority, .int .i64 x.self, .int .i64 x.layout]) (by repeat first | exact .here _ _ | assumption | apply Pick.there)).pick (A := rowA 47 9 A Y.length c (Y.flatMap RuV.cells)) (by repeat first | exact .here _ _ | assumption | apply Pick.there)).pick (A := blkA q 141 [.slice A Y.length c]) (by repeat first | exact .here _ _ | assumption | apply Pick.there))⟩ rfl rfl (by rw [(congrArg not (not_back hg11))]; decide) ?_
            refine p_no hap hsel 4 rfl rfl ⟨_, (((hS.pick (A := blkA g3 47 [.int .i64 x.version, .slice x.ticks.A x.ticks.l.length x.ticks.c, .int .i64 x.lot, .int .i64 x.band, .slice x.fees.A x.fees.l.length x.fees.c, .int .i64 x.round, .int .i64 x.priority, .int .i64 x.self, .int .i64 x.layout]) (by repeat first | exact .here _ _ | assumption | apply Pick.there)).pick (A := rowA 47 9 A Y.length c (Y.flatMap RuV.cells)) (by repeat first | exact .here _ _ | assumption | apply Pick.there)).pick (A := blkA q 141 [.slice A Y.length c]) (by repeat first | exact .here _ _ | assumption | apply Pick.there))⟩ rfl rfl (by rw [(congrArg not (not_back hg11))]; decide) ?_
            refine p_no hap hsel 5 rfl rfl ⟨_, (((hS.pick (A := blkA g3 47 [.int .i64 x.version, .slice x.ticks.A x.ticks.l.length x.ticks.c, .int .i64 x.lot, .int .i64 x.band, .slice x.fees.A x.fees.l.length x.fees.c, .int .i64 x.round, .int .i64 x.priority, .int .i64 x.self, .int .i64 x.layout]) (by repeat first | exact .here _ _ | assumption | apply Pick.there)).pick (A := rowA 47 9 A Y.length c (Y.flatMap RuV.cells)) (by repeat first | exact .here _ _ | assumption | apply Pick.there)).pick (A := blkA q 141 [.slice A Y.length c]) (by repeat first | exact .here _ _ | assumption | apply Pick.there))⟩ rfl rfl (by rw [(congrArg not (not_back hg11))]; decide) ?_
            refine p_no hap hsel 6 rfl rfl ⟨_, (((hS.pick (A := blkA g3 47 [.int .i64 x.version, .slice x.ticks.A x.ticks.l.length x.ticks.c, .int .i64 x.lot, .int .i64 x.band, .slice x.fees.A x.fees.l.length x.fees.c, .int .i64 x.round, .int .i64 x.priority, .int .i64 x.self, .int .i64 x.layout]) (by repeat first | exact .here _ _ | assumption | apply Pick.there)).pick (A := rowA 47 9 A Y.length c (Y.flatMap RuV.cells)) (by repeat first | exact .here _ _ | assumption | apply Pick.there)).pick (A := blkA q 141 [.slice A Y.length c]) (by repeat first | exact .here _ _ | assumption | apply Pick.there))⟩ rfl rfl (by rw [(congrArg not (not_back hg11))]; decide) ?_
            refine p_no hap hsel 7 rfl rfl ⟨_, (((hS.pick (A := blkA g3 47 [.int .i64 x.version, .slice x.ticks.A x.ticks.l.length x.ticks.c, .int .i64 x.lot, .int .i64 x.band, .slice x.fees.A x.fees.l.length x.fees.c, .int .i64 x.round, .int .i64 x.priority, .int .i64 x.self, .int .i64 x.layout]) (by repeat first | exact .here _ _ | assumption | apply Pick.there)).pick (A := rowA 47 9 A Y.length c (Y.flatMap RuV.cells)) (by repeat first | exact .here _ _ | assumption | apply Pick.there)).pick (A := blkA q 141 [.slice A Y.length c]) (by repeat first | exact .here _ _ | assumption | apply Pick.there))⟩ rfl rfl (by rw [(congrArg not (not_back hg11))]; decide) ?_
            refine p_no hap hsel 8 rfl rfl ⟨_, (((hS.pick (A := blkA g3 47 [.int .i64 x.version, .slice x.ticks.A x.ticks.l.length x.ticks.c, .int .i64 x.lot, .int .i64 x.band, .slice x.fees.A x.fees.l.length x.fees.c, .int .i64 x.round, .int .i64 x.priority, .int .i64 x.self, .int .i64 x.layout]) (by repeat first | exact .here _ _ | assumption | apply Pick.there)).pick (A := rowA 47 9 A Y.length c (Y.flatMap RuV.cells)) (by repeat first | exact .here _ _ | assumption | apply Pick.there)).pick (A := blkA q 141 [.slice A Y.length c]) (by repeat first | exact .here _ _ | assumption | apply Pick.there))⟩ rfl rfl (by rw [(congrArg not (not_back hg11))]; decide) ?_
            refine p_no hap hsel 9 rfl rfl ⟨_, (((hS.pick (A := blkA g3 47 [.int .i64 x.version, .slice x.ticks.A x.ticks.l.length x.ticks.c, .int .i64 x.lot, .int .i64 x.band, .slice x.fees.A x.fees.l.length x.fees.c, .int .i64 x.round, .int .i64 x.priority, .int .i64 x.self, .int .i64 x.layout]) (by repeat first | exact .here _ _ | assumption | apply Pick.there)).pick (A := rowA 47 9 A Y.length c (Y.flatMap RuV.cells)) (by repeat first | exact .here _ _ | assumption | apply Pick.there)).pick (A := blkA q 141 [.slice A Y.length c]) (by repeat first | exact .here _ _ | assumption | apply Pick.there))⟩ rfl rfl (by rw [(congrArg not (not_back hg11))]; decide) ?_
            refine p_no hap hsel 10 rfl rfl ⟨_, (((hS.pick (A := blkA g3 47 [.int .i64 x.version, .slice x.ticks.A x.ticks.l.length x.ticks.c, .int .i64 x.lot, .int .i64 x.band, .slice x.fees.A x.fees.l.length x.fees.c, .int .i64 x.round, .int .i64 x.priority, .int .i64 x.self, .int .i64 x.layout]) (by repeat first | exact .here _ _ | assumption | apply Pick.there)).pick (A := rowA 47 9 A Y.length c (Y.flatMap RuV.cells)) (by repeat first | exact .here _ _ | assumption | apply Pick.there)).pick (A := blkA q 141 [.slice A Y.length c]) (by repeat first | exact .here _ _ | assumption | apply Pick.there))⟩ rfl rfl (by rw [(congrArg not (not_back hg11))]; decide) ?_
            refine p_no hap hsel 11 rfl rfl ⟨_, (((hS.pick (A := blkA g3 47 [.int .i64 x.version, .slice x.ticks.A x.ticks.l.length x.ticks.c, .int .i64 x.lot, .int .i64 x.band, .slice x.fees.A x.fees.l.length x.fees.c, .int .i64 x.round, .int .i64 x.priority, .int .i64 x.self, .int .i64 x.layout]) (by repeat first | exact .here _ _ | assumption | apply Pick.there)).pick (A := rowA 47 9 A Y.length c (Y.flatMap RuV.cells)) (by repeat first | exact .here _ _ | assumption | apply Pick.there)).pick (A := blkA q 141 [.slice A Y.length c]) (by repeat first | exact .here _ _ | assumption | apply Pick.there))⟩ rfl rfl (by rw [(congrArg not (not_back hg11))]; decide) ?_
            refine p_no hap hsel 12 rfl rfl ⟨_, (((hS.pick (A := blkA g3 47 [.int .i64 x.version, .slice x.ticks.A x.ticks.l.length x.ticks.c, .int .i64 x.lot, .int .i64 x.band, .slice x.fees.A x.fees.l.length x.fees.c, .int .i64 x.round, .int .i64 x.priority, .int .i64 x.self, .int .i64 x.layout]) (by repeat first | exact .here _ _ | assumption | apply Pick.there)).pick (A := rowA 47 9 A Y.length c (Y.flatMap RuV.cells)) (by repeat first | exact .here _ _ | assumption | apply Pick.there)).pick (A := blkA q 141 [.slice A Y.length c]) (by repeat first | exact .here _ _ | assumption | apply Pick.there))⟩ rfl rfl (by rw [(congrArg not (not_back hg11))]; decide) ?_
            refine p_no hap hsel 13 rfl rfl ⟨_, (((hS.pick (A := blkA g3 47 [.int .i64 x.version, .slice x.ticks.A x.ticks.l.length x.ticks.c, .int .i64 x.lot, .int .i64 x.band, .slice x.fees.A x.fees.l.length x.fees.c, .int .i64 x.round, .int .i64 x.priority, .int .i64 x.self, .int .i64 x.layout]) (by repeat first | exact .here _ _ | assumption | apply Pick.there)).pick (A := rowA 47 9 A Y.length c (Y.flatMap RuV.cells)) (by repeat first | exact .here _ _ | assumption | apply Pick.there)).pick (A := blkA q 141 [.slice A Y.length c]) (by repeat first | exact .here _ _ | assumption | apply Pick.there))⟩ rfl rfl (by rw [(congrArg not (not_back hg11))]; decide) ?_
            refine p_q hap hsel 14 rfl rfl ⟨_, (((hS.pick (A := blkA g3 47 [.int .i64 x.version, .slice x.ticks.A x.ticks.l.length x.ticks.c, .int .i64 x.lot, .int .i64 x.band, .slice x.fees.A x.fees.l.length x.fees.c, .int .i64 x.round, .int .i64 x.priority, .int .i64 x.self, .int .i64 x.layout]) (by repeat first | exact .here _ _ | assumption | apply Pick.there)).pick (A := rowA 47 9 A Y.length c (Y.flatMap RuV.cells)) (by repeat first | exact .here _ _ | assumption | apply Pick.there)).pick (A := blkA q 141 [.slice A Y.length c]) (by repeat first | exact .here _ _ | assumption | apply Pick.there))⟩ (fun w hI => q_pick_f rfl (congrArg not (not_back hg11))) ?_
            refine p_end (by kernel_rfl) ?_
            refine c_cond_f rfl rfl ?_
            have f_i : (Y.getD ((i : Nat) : Int).toNat default).version = (Y.getD i default).version := rfl
            refine c_skip ?_
            refine c_region ?_
            refine t_q (q_mv (.slice _ _ _) rfl) ?_
            refine t_q (q_mv (.pointer _) rfl) ?_
            refine t_q (q_nilCheck rfl) ?_
            refine t_q (q_fieldAddr 0 Try.runUnderlying141 rfl Try.sizeOf139 (by decide) rfl rfl) ?_
            refine t_q (q_load1 Try.isAgg139 rfl (hS.cell (by repeat first | exact .here _ _ | assumption | apply Pick.there) rfl)) ?_
            refine t_q (q_mv (.int _ _) rfl) ?_
            first | refine t_index_nat Try.runUnderlying139 Try.sizeOf47 (hS.rowRdL (l := Y) (A := A) (c := c) (by repeat first | exact .here _ _ | assumption | apply Pick.there) rfl (fun _ => rfl)) rfl rfl (by omega) (fun ad17 hl17 hx17 => ?_) | refine t_index Try.runUnderlying139 Try.sizeOf47 (hS.rowRdL (l := Y) (A := A) (c := c) (by repeat first | exact .here _ _ | assumption | apply Pick.there) rfl (fun _ => rfl)) rfl rfl (by omega) (fun ad17 hl17 hx17 => ?_)
            refine t_q (q_loadN Try.isAgg47 Try.sizeOf47 rfl hl17 hx17) ?_
            refine t_buildSlice Try.runUnderlying139 Try.sizeOf47 Try.zeroValue47 rfl rfl (by intro v hv; simp at hv; try (first | (subst hv; rfl) | (rcases hv with rfl | rfl <;> rfl))) (by decide) (by decide) hS (fun g58 w hS => ?_)
            refine t_append_own (size := 9) (bytes := 104) Try.underlying139 (info_of Try.type47) rfl rfl rfl rfl (by decide) hS (by repeat first | exact .here _ _ | assumption | apply Pick.there) (by repeat first | exact .here _ _ | assumption | apply Pick.there) rfl rfl (by first | exact allOne_bv _ | exact allOne_ints _ _ | rfl) (by unfold maxLen; omega) (by omega) (fun A59 c59 w hS => ?_)
            first
              | replace hS := (hS.pick (A := rowA 47 9 A59 (m + 1) c59 _) (by repeat first | exact .here _ _ | assumption | apply Pick.there)).recast (show _ = rowA 47 9 A59 (m + 1) c59 ((O ++ [(Y.getD i default)]).flatMap RuV.cells) from by rw [List.flatMap_append, List.flatMap_cons, List.flatMap_nil, List.append_nil]; rfl)
              | replace hS := (hS.pick (A := rowA 47 9 A59 (m + 1 + 1) c59 _) (by repeat first | exact .here _ _ | assumption | apply Pick.there)).recast (show _ = rowA 47 9 A59 (m + 1 + 1) c59 (((O ++ [x]) ++ [(Y.getD i default)]).flatMap RuV.cells) from by rw [List.flatMap_append (xs := O ++ [x]), List.flatMap_cons, List.flatMap_nil, List.append_nil]; rfl)
            refine t_q (q_as (.slice _ _ _) rfl) ?_
            refine t_nil ?_
            refine c_region ?_
            refine t_q (q_mv (.int _ _) rfl) ?_
            refine t_q (q_add_i64 rfl rfl (by omega)) ?_
            refine t_q (q_as (.int _ _) rfl) ?_
            refine t_nil ?_
            first
              | (have hp : put = true := bnf (by assumption : (!put) = false)
                 exact ⟨k - 1, by omega, i + 1, put, O ++ [(Y.getD i default)], m + 1, A59, c59, rfl, rfl, rfl, by omega, by omega, (by rw [List.length_append, hm]; rfl), by omega, (fun h => by rw [hp] at h; cases h), (fun h => by rw [hyes hp, rdrop_getD (by omega : i < Y.length), List.append_assoc]; rfl), (((((hS.pick (A := rdsA ps) (by repeat first | exact .here _ _ | assumption | apply Pick.there)).pick (A := blkA g3 47 [.int .i64 x.version, .slice x.ticks.A x.ticks.l.length x.ticks.c, .int .i64 x.lot, .int .i64 x.band, .slice x.fees.A x.fees.l.length x.fees.c, .int .i64 x.round, .int .i64 x.priority, .int .i64 x.self, .int .i64 x.layout]) (by repeat first | exact .here _ _ | assumption | apply Pick.there)).pick (A := rowA 47 9 A Y.length c (Y.flatMap RuV.cells)) (by repeat first | exact .here _ _ | assumption | apply Pick.there)).pick (A := blkA q 141 [.slice A Y.length c]) (by repeat first | exact .here _ _ | assumption | apply Pick.there)).pick (A := rowA 47 9 A59 _ c59 _) (by repeat first | exact .here _ _ | assumption | apply Pick.there))⟩)
              | (have hp : put = false := bnt (by assumption : (!put) = true)
                 obtain ⟨hO, hI⟩ := hno hp
                 exact ⟨k - 1, by omega, i + 1, put, O ++ [(Y.getD i default)], m + 1, A59, c59, rfl, rfl, rfl, by omega, by omega, (by rw [List.length_append, hm]; rfl), by omega, (fun _ => ⟨by rw [hO, rtake_getD (by omega)], by rw [hI, rgI_go (by omega) (by omega), rtake_getD (by omega), List.append_assoc]; rfl⟩), (fun h => by rw [hp] at h; cases h), (((((hS.pick (A := rdsA ps) (by repeat first | exact .here _ _ | assumption | apply Pick.there)).pick (A := blkA g3 47 [.int .i64 x.version, .slice x.ticks.A x.ticks.l.length x.ticks.c, .int .i64 x.lot, .int .i64 x.band, .slice x.fees.A x.fees.l.length x.fees.c, .int .i64 x.round, .int .i64 x.priority, .int .i64 x.self, .int .i64 x.layout]) (by repeat first | exact .here _ _ | assumption | apply Pick.there)).pick (A := rowA 47 9 A Y.length c (Y.flatMap RuV.cells)) (by repeat first | exact .here _ _ | assumption | apply Pick.there)).pick (A := blkA q 141 [.slice A Y.length c]) (by repeat first | exact .here _ _ | assumption | apply Pick.there)).pick (A := rowA 47 9 A59 _ c59 _) (by repeat first | exact .here _ _ | assumption | apply Pick.there))⟩)
              | (have hp : put = false := bnt (by assumption : (!put) = true)
                 obtain ⟨hO, hI⟩ := hno hp
                 have hml : m ≤ i := by rw [hm, hO, List.length_take]; omega
                 exact ⟨k - 1, by omega, i + 1, true, (O ++ [x]) ++ [(Y.getD i default)], m + 1 + 1, A59, c59, rfl, rfl, rfl, by omega, by omega, (by rw [List.length_append, List.length_append, hm]; rfl), by omega, (fun h => by cases h), (fun h => by rw [hI, rgI_stop (by omega) (by omega), rdrop_getD (by omega : i < Y.length), hO, List.append_assoc, List.append_assoc]; rfl), (((((hS.pick (A := rdsA ps) (by repeat first | exact .here _ _ | assumption | apply Pick.there)).pick (A := blkA g3 47 [.int .i64 x.version, .slice x.ticks.A x.ticks.l.length x.ticks.c, .int .i64 x.lot, .int .i64 x.band, .slice x.fees.A x.fees.l.length x.fees.c, .int .i64 x.round, .int .i64 x.priority, .int .i64 x.self, .int .i64 x.layout]) (by repeat first | exact .here _ _ | assumption | apply Pick.there)).pick (A := rowA 47 9 A Y.length c (Y.flatMap RuV.cells)) (by repeat first | exact .here _ _ | assumption | apply Pick.there)).pick (A := blkA q 141 [.slice A Y.length c]) (by repeat first | exact .here _ _ | assumption | apply Pick.there)).pick (A := rowA 47 9 A59 _ c59 _) (by repeat first | exact .here _ _ | assumption | apply Pick.there))⟩)
        · intro hc9
          have hc9d := of_decide_eq_false hc9
          have hiY : i = Y.length := by omega
          refine c_exit ?_
          refine ite_t rfl ?_
          refine c_seq ?_
          refine c_seq ?_
          refine c_region ?_
          refine t_q (q_mv (.bool _) rfl) ?_
          refine t_q (q_not rfl) ?_
          refine t_nil ?_
          refine c_cond rfl ?_ ?_
          · intro hc19
            refine c_region ?_
            refine t_q (q_mv (.slice _ _ _) rfl) ?_
            refine t_q (q_cast (v' := .agg x.cells.toArray) (q_load_blk Try.isAgg47 Try.sizeOf47 rfl (hS.blk (by repeat first | exact .here _ _ | assumption | apply Pick.there)) rfl) (by rfl)) ?_
            refine t_buildSlice Try.runUnderlying139 Try.sizeOf47 Try.zeroValue47 rfl rfl (by intro v hv; simp at hv; try (first | (subst hv; rfl) | (rcases hv with rfl | rfl <;> rfl))) (by decide) (by decide) hS (fun g64 w hS => ?_)
            refine t_append_own (size := 9) (bytes := 104) Try.underlying139 (info_of Try.type47) rfl rfl rfl rfl (by decide) hS (by repeat first | exact .here _ _ | assumption | apply Pick.there) (by repeat first | exact .here _ _ | assumption | apply Pick.there) rfl rfl (by first | exact allOne_bv _ | exact allOne_ints _ _ | rfl) (by unfold maxLen; omega) (by omega) (fun A65 c65 w hS => ?_)
            replace hS := (hS.pick (A := rowA 47 9 A65 _ c65 _) (by repeat first | exact .here _ _ | assumption | apply Pick.there)).recast (show _ = rowA 47 9 A65 (m + 1) c65 ((O ++ [x]).flatMap RuV.cells) from by rw [List.flatMap_append, List.flatMap_cons, List.flatMap_nil, List.append_nil]; rfl)
            refine t_q (q_as (.slice _ _ _) rfl) ?_
            refine t_nil ?_
            refine c_seq ?_
            refine c_region ?_
            refine t_q (q_mv (.pointer _) rfl) ?_
            refine t_q (q_mv (.slice _ _ _) rfl) ?_
            refine t_q (q_nilCheck rfl) ?_
            refine t_q (q_fieldAddr 0 Try.runUnderlying141 rfl Try.sizeOf139 (by decide) rfl rfl) ?_
            refine t_store (v := (.slice _ _ _)) Try.sizeOf139 hS (by repeat first | exact .here _ _ | assumption | apply Pick.there) rfl rfl rfl rfl rfl rfl (fun w hS => ?_)
            replace hS := hS.recast (show blkA q 141 _ = blkA q 141 [.slice _ _ _] from rfl)
            refine t_nil ?_
            refine c_seq ?_
            refine c_region ?_
            refine t_q (q_assign) ?_
            refine t_nil ?_
            refine c_ret ?_
            refine r_one rfl rfl ?_
            first
              | (rw [e]
                 exact ⟨rfl, .inr ⟨e ▸ e0, ((((hS.pick (A := blkA g3 47 _) (by repeat first | exact .here _ _ | assumption | apply Pick.there)).drop.pick (A := rdsA ps) (by repeat first | exact .here _ _ | assumption | apply Pick.there)).pick (A := rowA 47 9 A Y.length c (Y.flatMap RuV.cells)) (by repeat first | exact .here _ _ | assumption | apply Pick.there)).pick (A := blkA q 141 [.slice A Y.length c]) (by repeat first | exact .here _ _ | assumption | apply Pick.there))⟩⟩)
              | (have hp : put = false := bnt (by assumption : (!put) = true)
                 obtain ⟨hO, hI⟩ := hno hp
                 have hL : O ++ [x] = rgI Y x := by rw [hI, hO, hiY, List.take_length, List.drop_length]; rfl
                 have hn2 : m + 1 = (rgI Y x).length := by rw [← hL, hm, List.length_append]; rfl
                 rw [hL, hn2] at hS
                 rw [e0]
                 exact ⟨rfl, .inl ⟨rfl, A65, c65, (((((hS.pick (A := rowA 47 9 A Y.length c (Y.flatMap RuV.cells)) (by repeat first | exact .here _ _ | assumption | apply Pick.there)).drop.pick (A := blkA g3 47 _) (by repeat first | exact .here _ _ | assumption | apply Pick.there)).drop.pick (A := rdsA ps) (by repeat first | exact .here _ _ | assumption | apply Pick.there)).pick (A := rowA 47 9 A65 (rgI Y x).length c65 ((rgI Y x).flatMap RuV.cells)) (by repeat first | exact .here _ _ | assumption | apply Pick.there)).pick (A := blkA q 141 [.slice A65 (rgI Y x).length c65]) (by repeat first | exact .here _ _ | assumption | apply Pick.there))⟩⟩)
              | (have hp : put = true := bnf (by assumption : (!put) = false)
                 have hL : O = rgI Y x := by rw [hyes hp, hiY, List.drop_length, List.append_nil]
                 rw [hm, hL] at hS
                 rw [e0]
                 exact ⟨rfl, .inl ⟨rfl, A5, c5, (((((hS.pick (A := rowA 47 9 A Y.length c (Y.flatMap RuV.cells)) (by repeat first | exact .here _ _ | assumption | apply Pick.there)).drop.pick (A := blkA g3 47 _) (by repeat first | exact .here _ _ | assumption | apply Pick.there)).drop.pick (A := rdsA ps) (by repeat first | exact .here _ _ | assumption | apply Pick.there)).pick (A := rowA 47 9 A5 (rgI Y x).length c5 ((rgI Y x).flatMap RuV.cells)) (by repeat first | exact .here _ _ | assumption | apply Pick.there)).pick (A := blkA q 141 [.slice A5 (rgI Y x).length c5]) (by repeat first | exact .here _ _ | assumption | apply Pick.there))⟩⟩)
          · intro hc19
            refine c_skip ?_
            refine c_seq ?_
            refine c_region ?_
            refine t_q (q_mv (.pointer _) rfl) ?_
            refine t_q (q_mv (.slice _ _ _) rfl) ?_
            refine t_q (q_nilCheck rfl) ?_
            refine t_q (q_fieldAddr 0 Try.runUnderlying141 rfl Try.sizeOf139 (by decide) rfl rfl) ?_
            refine t_store (v := (.slice _ _ _)) Try.sizeOf139 hS (by repeat first | exact .here _ _ | assumption | apply Pick.there) rfl rfl rfl rfl rfl rfl (fun w hS => ?_)
            replace hS := hS.recast (show blkA q 141 _ = blkA q 141 [.slice _ _ _] from rfl)
            refine t_nil ?_
            refine c_seq ?_
            refine c_region ?_
            refine t_q (q_assign) ?_
            refine t_nil ?_
            refine c_ret ?_
            refine r_one rfl rfl ?_
            first
              | (rw [e]
                 exact ⟨rfl, .inr ⟨e ▸ e0, ((((hS.pick (A := blkA g3 47 _) (by repeat first | exact .here _ _ | assumption | apply Pick.there)).drop.pick (A := rdsA ps) (by repeat first | exact .here _ _ | assumption | apply Pick.there)).pick (A := rowA 47 9 A Y.length c (Y.flatMap RuV.cells)) (by repeat first | exact .here _ _ | assumption | apply Pick.there)).pick (A := blkA q 141 [.slice A Y.length c]) (by repeat first | exact .here _ _ | assumption | apply Pick.there))⟩⟩)
              | (have hp : put = false := bnt (by assumption : (!put) = true)
                 obtain ⟨hO, hI⟩ := hno hp
                 have hL : O ++ [x] = rgI Y x := by rw [hI, hO, hiY, List.take_length, List.drop_length]; rfl
                 have hn2 : m + 1 = (rgI Y x).length := by rw [← hL, hm, List.length_append]; rfl
                 rw [hL, hn2] at hS
                 rw [e0]
                 exact ⟨rfl, .inl ⟨rfl, A65, c65, (((((hS.pick (A := rowA 47 9 A Y.length c (Y.flatMap RuV.cells)) (by repeat first | exact .here _ _ | assumption | apply Pick.there)).drop.pick (A := blkA g3 47 _) (by repeat first | exact .here _ _ | assumption | apply Pick.there)).drop.pick (A := rdsA ps) (by repeat first | exact .here _ _ | assumption | apply Pick.there)).pick (A := rowA 47 9 A65 (rgI Y x).length c65 ((rgI Y x).flatMap RuV.cells)) (by repeat first | exact .here _ _ | assumption | apply Pick.there)).pick (A := blkA q 141 [.slice A65 (rgI Y x).length c65]) (by repeat first | exact .here _ _ | assumption | apply Pick.there))⟩⟩)
              | (have hp : put = true := bnf (by assumption : (!put) = false)
                 have hL : O = rgI Y x := by rw [hyes hp, hiY, List.drop_length, List.append_nil]
                 rw [hm, hL] at hS
                 rw [e0]
                 exact ⟨rfl, .inl ⟨rfl, A5, c5, (((((hS.pick (A := rowA 47 9 A Y.length c (Y.flatMap RuV.cells)) (by repeat first | exact .here _ _ | assumption | apply Pick.there)).drop.pick (A := blkA g3 47 _) (by repeat first | exact .here _ _ | assumption | apply Pick.there)).drop.pick (A := rdsA ps) (by repeat first | exact .here _ _ | assumption | apply Pick.there)).pick (A := rowA 47 9 A5 (rgI Y x).length c5 ((rgI Y x).flatMap RuV.cells)) (by repeat first | exact .here _ _ | assumption | apply Pick.there)).pick (A := blkA q 141 [.slice A5 (rgI Y x).length c5]) (by repeat first | exact .here _ _ | assumption | apply Pick.there))⟩⟩)
end Go.Proofs.Ytmgobaojioaioaa
