/- Parcels taken from bytes. -/
import Derived.Test.YtlppgpidakfnlaaPb
namespace Go.Proofs.Ytlppgpidakfnlaa
open Go Go.RowKit Go.Lib
variable {W : World}
set_option maxRecDepth 100000 in
theorem popen_calls {A : Option Addr} {c : Nat} {bs : List UInt8} (hR : RdB W A bs) (hm : bs.length ≤ 1000000000) : Calls Try.prog 123 #[.slice A bs.length c] W fun e w' => e = .returned (.bool (openB bs)) ∧ St W w' [] := by
  have hS := St.init W
  refine calls_of_wpE (args := [_]) Try.func123 rfl rfl rfl ?_
  refine c_seq ?_
  refine c_region ?_
  refine t_q (q_assign) ?_
  refine t_nil ?_
  refine c_seq ?_
  refine c_seq ?_
  refine c_region ?_
  refine t_q (q_mv (.slice _ _ _) rfl) ?_
  refine t_q (q_len_slice Try.runUnderlying25 rfl) ?_
  refine t_q (q_move) ?_
  refine t_nil ?_
  refine c_block ?_
  refine c_loop [2, 4, 7, 8, 9, 10, 11, 12, 13] (fun k σ w => ∃ j : Nat, σ 7 = .int .i64 (j : Int) ∧ j ≤ bs.length ∧ bs.length - j ≤ k ∧ (∀ i, i < j → 128 ≤ (bs.getD i 0).toNat) ∧ St W w []) (bs.length) rfl (⟨0, rfl, by omega, by omega, (fun i h => absurd h (by omega)), hS⟩) ?_
  skip
  rintro k σ w ⟨j, h7, hj, hk, hall, hS⟩
  refine c_know 7 h7 ?_
  clear h7
  refine c_seq ?_
  refine c_region ?_
  refine t_q (q_lss rfl rfl) ?_
  refine t_nil ?_
  refine c_seq ?_
  refine c_cond rfl ?_ ?_
  · intro hc2
    have hc2d := of_decide_eq_true hc2
    refine c_skip ?_
    refine c_seq ?_
    refine c_block ?_
    refine c_seq ?_
    refine c_region ?_
    first | refine t_index_nat Try.runUnderlying25 Try.sizeOf5 (hR.st hS) rfl rfl (by omega) (fun ad3 hl3 hx3 => ?_) | refine t_index Try.runUnderlying25 Try.sizeOf5 (hR.st hS) rfl rfl (by omega) (fun ad3 hl3 hx3 => ?_)
    refine t_q (q_cast (v' := .int .u8 ((bs.getD j 0).toNat : Int)) (q_load1 Try.isAgg5 rfl (hx3 0 _ rfl)) (rfl)) ?_
    refine t_q (q_as (.int _ _) rfl) ?_
    refine t_nil ?_
    refine c_seq ?_
    refine c_region ?_
    refine t_q (q_mv (.int _ _) rfl) ?_
    refine t_q (q_lss rfl rfl) ?_
    refine t_nil ?_
    refine c_cond rfl ?_ ?_
    · intro hc5
      have hc5d := of_decide_eq_true hc5
      refine c_seq ?_
      refine c_region ?_
      refine t_q (q_assign) ?_
      refine t_nil ?_
      refine c_ret ?_
      refine r_one rfl rfl ?_
      first
        | exact ⟨congrArg (fun b => Ending.returned (.bool b)) (open_no (j := j) (by omega) (by omega)).symm, hS⟩
        | exact ⟨congrArg (fun b => Ending.returned (.bool b)) ((open_yes fun i hi => hall i (by omega)).trans (by rw [decide_eq_decide]; omega)).symm, hS⟩
    · intro hc5
      have hc5d := of_decide_eq_false hc5
      refine c_skip ?_
      refine c_region ?_
      refine t_q (q_add_i64 rfl rfl (by omega)) ?_
      refine t_q (q_mv (.int _ _) rfl) ?_
      refine t_nil ?_
      exact ⟨k - 1, by omega, j + 1, rfl, by omega, by omega, (fun i hi => by
        rcases Nat.lt_or_ge i j with h | h
        · exact hall i h
        · obtain rfl : i = j := by omega
          omega), hS⟩
  · intro hc2
    have hc2d := of_decide_eq_false hc2
    refine c_exit ?_
    refine ite_t rfl ?_
    refine c_seq ?_
    refine c_region ?_
    refine t_q (q_mv (.slice _ _ _) rfl) ?_
    refine t_q (q_len_slice Try.runUnderlying25 rfl) ?_
    refine t_q (q_lss rfl rfl) ?_
    refine t_q (q_as (.bool _) rfl) ?_
    refine t_nil ?_
    refine c_ret ?_
    refine r_one rfl rfl ?_
    first
      | exact ⟨congrArg (fun b => Ending.returned (.bool b)) (open_no (j := j) (by omega) (by omega)).symm, hS⟩
      | exact ⟨congrArg (fun b => Ending.returned (.bool b)) ((open_yes fun i hi => hall i (by omega)).trans (by rw [decide_eq_decide]; omega)).symm, hS⟩
set_option maxRecDepth 100000 in
theorem clone_calls {A : Option Addr} {c : Nat} {bs : List UInt8} (hR : RdB W A bs) (hm : bs.length ≤ 1000000000) : Calls Try.prog 88 #[.slice A bs.length c] W fun e w' => ∃ A' c', e = .returned (.slice A' bs.length c') ∧ St W w' [rowA 5 1 A' bs.length c' ((bs).map bv)] := by
  have hS := St.init W
  refine calls_of_wpE (args := [_]) Try.func88 rfl rfl rfl ?_
  refine c_seq ?_
  refine c_region ?_
  refine t_q (q_assign) ?_
  refine t_nil ?_
  refine c_seq ?_
  refine c_seq ?_
  refine c_region ?_
  refine t_q (q_mv (.slice _ _ _) rfl) ?_
  refine t_q (q_eql_slice_nil Try.runUnderlying25 rfl rfl) ?_
  refine t_nil ?_
  refine c_cond rfl ?_ ?_
  · intro hc2
    have hb0 : bs = [] := by
      cases bs with
      | nil => rfl
      | cons x l =>
        obtain ⟨ad, hA, _⟩ := hR (by simp)
        rw [hA] at hc2; cases hc2
    refine c_seq ?_
    refine c_region ?_
    refine t_q (q_assign) ?_
    refine t_nil ?_
    refine c_ret ?_
    refine r_one rfl rfl ?_
    first
      | (subst hb0; exact ⟨none, 0, rfl, (hS.nilrow 5 1).front1⟩)
      | exact ⟨A7, c7, congrArg (fun n => Ending.returned (Value.slice A7 n c7)) (Nat.zero_add _), hS⟩
  · intro hc2
    refine c_skip ?_
    refine c_seq ?_
    refine c_region ?_
    refine t_build_bytes [] Try.runUnderlying25 Try.sizeOf5 Try.zeroValue5 rfl rfl (by simp; try omega) (by decide) hS (fun g5 w hS => ?_)
    refine t_q (q_mv (.slice _ _ _) rfl) ?_
    refine t_append (size := 1) (bytes := 1) Try.underlying25 (info_of Try.type5) rfl rfl rfl rfl (by decide) hS (by repeat first | exact .here _ _ | assumption | apply Pick.there) (hR.st hS) rfl rfl (fun _ _ => rfl) (by unfold maxLen; omega) (by omega) (fun A7 c7 w hS => ?_)
    simp only [Nat.zero_add, List.nil_append, List.map_nil] at hS
    rw [flat_bsf] at hS
    refine t_q (q_as (.slice _ _ _) rfl) ?_
    refine t_nil ?_
    refine c_ret ?_
    refine r_one rfl rfl ?_
    first
      | (subst hb0; exact ⟨none, 0, rfl, (hS.nilrow 5 1).front1⟩)
      | exact ⟨A7, c7, congrArg (fun n => Ending.returned (Value.slice A7 n c7)) (Nat.zero_add _), hS⟩
set_option maxRecDepth 100000 in
theorem equal_calls {A B : Option Addr} {c d : Nat} {a b : List UInt8} (ha : RdB W A a) (hb : RdB W B b) : Calls Try.prog 109 #[.slice A a.length c, .slice B b.length d] W fun e w' => e = .returned (.bool (decide (a = b))) ∧ St W w' [] := by
  have hS := St.init W
  refine calls_of_wpE (args := [_, _]) Try.func109 rfl rfl rfl ?_
  refine c_seq ?_
  refine c_region ?_
  refine t_q (q_assign) ?_
  refine t_nil ?_
  refine c_seq ?_
  refine c_region ?_
  refine t_q (q_mv (.slice _ _ _) rfl) ?_
  refine t_q (q_string Try.runUnderlying25 Try.runUnderlying5 Try.runUnderlying9 rfl rfl (ha.st hS)) ?_
  refine t_q (q_mv (.slice _ _ _) rfl) ?_
  refine t_q (q_string Try.runUnderlying25 Try.runUnderlying5 Try.runUnderlying9 rfl rfl (hb.st hS)) ?_
  refine t_q (q_cast (v' := .bool (decide (a = b))) (q_eql_string rfl rfl) (by simp)) ?_
  refine t_q (q_as (.bool _) rfl) ?_
  refine t_nil ?_
  refine c_ret ?_
  refine r_one rfl rfl ?_
  exact ⟨rfl, hS⟩
theorem takeNat {w : World} {L R : List Asn} {g : Nat} {bs : List UInt8} (hS : St W w L) (pk : Pick L (rdrA W 197 g ⟨bs.drop 1, false⟩) R) : Calls Try.prog 82 #[.pointer (some ⟨g, 0, none⟩), .int .u64 18446744073709551615] w fun e w' => e = .returned (.int .u64 (szN bs : Int)) ∧ St W w' (rdrA W 197 g (szS bs) :: R) := rNat_all hS pk
theorem qtakeNat {w : World} {L R : List Asn} {g : Nat} {bs : List UInt8} (hS : St W w L) (pk : Pick L (rdrA W 145 g ⟨bs.drop 1, false⟩) R) : Calls Try.prog 75 #[.pointer (some ⟨g, 0, none⟩), .int .u64 18446744073709551615] w fun e w' => e = .returned (.int .u64 (szN bs : Int)) ∧ St W w' (rdrA W 145 g (szS bs) :: R) := qNat_all hS pk
set_option maxRecDepth 100000 in
theorem take_calls {A : Option Addr} {c : Nat} {bs : List UInt8} (hR : RdB W A bs) (hc : bs.length ≤ c ∧ bs.length ≤ 100000000) : Calls Try.prog 68 #[.slice A bs.length c] W fun e w' => ∃ A' m c', e = .returned (.tuple #[bv (tkK bs), .slice A' m c', .int .i64 (tkM bs), .int .i64 (tkE bs)]) ∧ m = (tkL bs).length ∧ St W w' [rowA 5 1 A' m c' ((tkL bs).map bv)] := by
  have hS := St.init W
  refine calls_of_wpE (args := [_]) Try.func68 rfl rfl rfl ?_
  refine c_seq ?_
  refine c_region ?_
  refine t_q (q_assign) ?_
  refine t_q (q_assign) ?_
  refine t_q (q_assign) ?_
  refine t_q (q_assign) ?_
  refine t_nil ?_
  refine c_seq ?_
  refine c_block ?_
  refine c_seq ?_
  refine c_region ?_
  refine t_q (q_mv (.slice _ _ _) rfl) ?_
  refine t_q (q_len_slice Try.runUnderlying25 rfl) ?_
  refine t_q (q_eql rfl rfl) ?_
  refine t_q (q_as (.bool _) rfl) ?_
  refine t_nil ?_
  refine c_cond rfl ?_ ?_
  · intro hc2
    have hc2d := of_decide_eq_true hc2
    have hE := tkE_1 (b := bs) (by omega)
    refine c_seq ?_
    refine c_region ?_
    refine t_q (q_assign) ?_
    refine t_q (q_assign) ?_
    refine t_q (q_assign) ?_
    refine t_q (q_assign) ?_
    refine t_nil ?_
    refine c_ret ?_
    refine r_four rfl rfl rfl rfl rfl ?_
    first
      | (obtain ⟨e1, e2, e3⟩ := tk_err hE (by decide); rw [e1, e2, e3, hE]; exact ⟨none, 0, 0, rfl, rfl, (hS.nilrow 5 1).front1⟩)
      | (obtain ⟨e1, e2, e3⟩ := tk_ok hE; rw [e1, e2, e3, hE]; exact ⟨A68, _, c68, rfl, by rw [show tkN bs - 4 - tkFrom bs = szN bs from by omega], (hS.recast (congrArg (rowA 5 1 A68 _ c68) (by rw [show tkN bs - 4 - tkFrom bs = szN bs from by omega]))).front1⟩)
  · intro hc2
    have hc2d := of_decide_eq_false hc2
    have h0 : ¬ bs.length = 0 := by omega
    refine c_seq ?_
    refine c_region ?_
    refine t_q (q_mv (.slice _ _ _) rfl) ?_
    first | refine t_index_nat Try.runUnderlying25 Try.sizeOf5 (hR.st hS) rfl rfl (by omega) (fun ad3 hl3 hx3 => ?_) | refine t_index Try.runUnderlying25 Try.sizeOf5 (hR.st hS) rfl rfl (by omega) (fun ad3 hl3 hx3 => ?_)
    refine t_q (q_cast (v' := .int .u8 ((bs.getD 0 0).toNat : Int)) (q_load1 Try.isAgg5 rfl (hx3 0 _ rfl)) (rfl)) ?_
    refine t_q (q_eql rfl rfl) ?_
    refine t_q (q_as (.bool _) rfl) ?_
    refine t_nil ?_
    refine c_cond rfl ?_ ?_
    · intro hc5
      have hc5d := of_decide_eq_true hc5
      have hE := tkE_2 (b := bs) h0 (u8_zero.1 (by omega))
      refine c_seq ?_
      refine c_region ?_
      refine t_q (q_assign) ?_
      refine t_q (q_assign) ?_
      refine t_q (q_assign) ?_
      refine t_q (q_assign) ?_
      refine t_nil ?_
      refine c_ret ?_
      refine r_four rfl rfl rfl rfl rfl ?_
      first
        | (obtain ⟨e1, e2, e3⟩ := tk_err hE (by decide); rw [e1, e2, e3, hE]; exact ⟨none, 0, 0, rfl, rfl, (hS.nilrow 5 1).front1⟩)
        | (obtain ⟨e1, e2, e3⟩ := tk_ok hE; rw [e1, e2, e3, hE]; exact ⟨A68, _, c68, rfl, by rw [show tkN bs - 4 - tkFrom bs = szN bs from by omega], (hS.recast (congrArg (rowA 5 1 A68 _ c68) (by rw [show tkN bs - 4 - tkFrom bs = szN bs from by omega]))).front1⟩)
    · intro hc5
      have hc5d := of_decide_eq_false hc5
      have h1 : ¬ bs.getD 0 0 = 0 := fun h => by have := u8_zero.2 h; omega
      refine c_seq ?_
      refine c_region ?_
      refine t_q (q_mv (.slice _ _ _) rfl) ?_
      refine t_q (q_cast (v' := .slice (if c = 1 then A else A.map (·.add (1 * 1))) (bs.drop 1).length (c - 1)) (q_slice Try.runUnderlying25 Try.sizeOf5 rfl rfl ⟨_, _, rfl, by omega, by omega, rfl⟩) (by rw [List.length_drop]; rfl)) ?_
      refine t_call Try.call123 (popen_calls ((drop_rd hR (k := 1) (c := c) (by omega) ⟨hc.1, by omega⟩).st hS) (by rw [List.length_drop]; omega)) rfl ?_
      rintro e w ⟨rfl, hT⟩
      refine ⟨_, rfl, ?_⟩
      replace hS := hS.after hT
      refine t_q (q_as (.bool _) rfl) ?_
      refine t_nil ?_
      refine c_cond rfl ?_ ?_
      · intro hc7
        have hE := tkE_3 h0 h1 hc7
        refine c_seq ?_
        refine c_region ?_
        refine t_q (q_assign) ?_
        refine t_q (q_assign) ?_
        refine t_q (q_assign) ?_
        refine t_q (q_assign) ?_
        refine t_nil ?_
        refine c_ret ?_
        refine r_four rfl rfl rfl rfl rfl ?_
        first
          | (obtain ⟨e1, e2, e3⟩ := tk_err hE (by decide); rw [e1, e2, e3, hE]; exact ⟨none, 0, 0, rfl, rfl, (hS.nilrow 5 1).front1⟩)
          | (obtain ⟨e1, e2, e3⟩ := tk_ok hE; rw [e1, e2, e3, hE]; exact ⟨A68, _, c68, rfl, by rw [show tkN bs - 4 - tkFrom bs = szN bs from by omega], (hS.recast (congrArg (rowA 5 1 A68 _ c68) (by rw [show tkN bs - 4 - tkFrom bs = szN bs from by omega]))).front1⟩)
      · intro hc7
        have h2 := hc7
        refine c_skip ?_
        refine c_seq ?_
        refine c_region ?_
        refine t_q (q_mv (.slice _ _ _) rfl) ?_
        refine t_q (q_cast (v' := .slice (if c = 1 then A else A.map (·.add (1 * 1))) (bs.drop 1).length (c - 1)) (q_slice Try.runUnderlying25 Try.sizeOf5 rfl rfl ⟨_, _, rfl, by omega, by omega, rfl⟩) (by rw [List.length_drop]; rfl)) ?_
        refine t_call Try.call81 (Open_calls hS (drop_rd hR (k := 1) (c := c) (by omega) ⟨hc.1, by omega⟩) ⟨by rw [List.length_drop]; omega, by rw [List.length_drop]; omega⟩) rfl ?_
        rintro e w ⟨g25, rfl, hS⟩
        refine ⟨_, rfl, ?_⟩
        refine t_q (q_as (.pointer _) rfl) ?_
        refine t_nil ?_
        refine c_seq ?_
        refine c_region ?_
        refine t_q (q_mv (.pointer _) rfl) ?_
        refine t_call Try.call82 (takeNat hS (by repeat first | exact .here _ _ | assumption | apply Pick.there)) rfl ?_
        rintro e w ⟨rfl, hS⟩
        refine ⟨_, rfl, ?_⟩
        refine t_q (q_as (.int _ _) rfl) ?_
        refine t_nil ?_
        refine c_seq ?_
        refine c_seq ?_
        refine c_region ?_
        refine t_q (q_mv (.pointer _) rfl) ?_
        refine t_call Try.call124 (rBad hS (by repeat first | exact .here _ _ | assumption | apply Pick.there)) rfl ?_
        rintro e w ⟨rfl, hS⟩
        refine ⟨_, rfl, ?_⟩
        refine t_nil ?_
        refine c_cond rfl ?_ ?_
        · intro hc11
          have hE := tkE_4 h0 h1 h2 hc11
          refine c_seq ?_
          refine c_region ?_
          refine t_q (q_assign) ?_
          refine t_q (q_assign) ?_
          refine t_q (q_assign) ?_
          refine t_q (q_assign) ?_
          refine t_nil ?_
          refine c_ret ?_
          refine r_four rfl rfl rfl rfl rfl ?_
          first
            | (obtain ⟨e1, e2, e3⟩ := tk_err hE (by decide); rw [e1, e2, e3, hE]; exact ⟨none, 0, 0, rfl, rfl, (hS.nilrow 5 1).front1⟩)
            | (obtain ⟨e1, e2, e3⟩ := tk_ok hE; rw [e1, e2, e3, hE]; exact ⟨A68, _, c68, rfl, by rw [show tkN bs - 4 - tkFrom bs = szN bs from by omega], (hS.recast (congrArg (rowA 5 1 A68 _ c68) (by rw [show tkN bs - 4 - tkFrom bs = szN bs from by omega]))).front1⟩)
        · intro hc11
          have h3 := hc11
          refine c_skip ?_
          refine c_seq ?_
          refine c_seq ?_
          refine c_region ?_
          refine t_q (q_mv (.int _ _) rfl) ?_
          refine t_q (q_gtr rfl rfl) ?_
          refine t_nil ?_
          refine c_cond rfl ?_ ?_
          · intro hc13
            have hc13d := of_decide_eq_true hc13
            have hE := tkE_5 h0 h1 h2 h3 (by omega)
            refine c_seq ?_
            refine c_region ?_
            refine t_q (q_assign) ?_
            refine t_q (q_assign) ?_
            refine t_q (q_assign) ?_
            refine t_q (q_assign) ?_
            refine t_nil ?_
            refine c_ret ?_
            refine r_four rfl rfl rfl rfl rfl ?_
            first
              | (obtain ⟨e1, e2, e3⟩ := tk_err hE (by decide); rw [e1, e2, e3, hE]; exact ⟨none, 0, 0, rfl, rfl, (hS.nilrow 5 1).front1⟩)
              | (obtain ⟨e1, e2, e3⟩ := tk_ok hE; rw [e1, e2, e3, hE]; exact ⟨A68, _, c68, rfl, by rw [show tkN bs - 4 - tkFrom bs = szN bs from by omega], (hS.recast (congrArg (rowA 5 1 A68 _ c68) (by rw [show tkN bs - 4 - tkFrom bs = szN bs from by omega]))).front1⟩)
          · intro hc13
            have hc13d := of_decide_eq_false hc13
            have h4 : ¬ 65536 < szN bs := by omega
            refine c_skip ?_
            refine c_seq ?_
            refine c_seq ?_
            refine c_region ?_
            refine t_q (q_mv (.pointer _) rfl) ?_
            refine t_call Try.call125 (rLeft hS (by repeat first | exact .here _ _ | assumption | apply Pick.there)) rfl ?_
            rintro e w ⟨rfl, hS⟩
            refine ⟨_, rfl, ?_⟩
            have hsl0 := sz_left bs
            refine t_q (q_mv (.int _ _) rfl) ?_
            refine t_q (q_conv_i64 Try.runUnderlying43 Try.runUnderlying3 rfl (by omega)) ?_
            refine t_q (q_add_i64 rfl rfl (by omega)) ?_
            refine t_q (q_lss rfl rfl) ?_
            refine t_nil ?_
            refine c_cond rfl ?_ ?_
            · intro hc16
              have hc16d := of_decide_eq_true hc16
              have hE := tkE_6 h0 h1 h2 h3 h4 (by omega)
              refine c_seq ?_
              refine c_region ?_
              refine t_q (q_assign) ?_
              refine t_q (q_assign) ?_
              refine t_q (q_assign) ?_
              refine t_q (q_assign) ?_
              refine t_nil ?_
              refine c_ret ?_
              refine r_four rfl rfl rfl rfl rfl ?_
              first
                | (obtain ⟨e1, e2, e3⟩ := tk_err hE (by decide); rw [e1, e2, e3, hE]; exact ⟨none, 0, 0, rfl, rfl, (hS.nilrow 5 1).front1⟩)
                | (obtain ⟨e1, e2, e3⟩ := tk_ok hE; rw [e1, e2, e3, hE]; exact ⟨A68, _, c68, rfl, by rw [show tkN bs - 4 - tkFrom bs = szN bs from by omega], (hS.recast (congrArg (rowA 5 1 A68 _ c68) (by rw [show tkN bs - 4 - tkFrom bs = szN bs from by omega]))).front1⟩)
            · intro hc16
              have hc16d := of_decide_eq_false hc16
              have h5 : ¬ (szS bs).left.length < szN bs + 4 := by omega
              have hsl := sz_left bs
              have hNle : tkN bs ≤ bs.length := by unfold tkN tkFrom; omega
              have hFle : tkFrom bs + szN bs + 4 = tkN bs := rfl
              have hFl : tkFrom bs ≤ bs.length := by omega
              refine c_skip ?_
              refine c_seq ?_
              refine c_region ?_
              refine t_q (q_mv (.slice _ _ _) rfl) ?_
              refine t_q (q_len_slice Try.runUnderlying25 rfl) ?_
              refine t_q (q_mv (.pointer _) rfl) ?_
              refine t_call Try.call125 (rLeft hS (by repeat first | exact .here _ _ | assumption | apply Pick.there)) rfl ?_
              rintro e w ⟨rfl, hS⟩
              refine ⟨_, rfl, ?_⟩
              refine t_q (q_cast (v' := .int .i64 (tkFrom bs : Int)) (q_sub_i64 rfl rfl (by omega)) (by congr 1; unfold tkFrom; omega)) ?_
              refine t_q (q_as (.int _ _) rfl) ?_
              refine t_nil ?_
              refine c_seq ?_
              refine c_region ?_
              refine t_q (q_mv (.int _ _) rfl) ?_
              refine t_q (q_mv (.int _ _) rfl) ?_
              refine t_q (q_conv_i64 Try.runUnderlying43 Try.runUnderlying3 rfl (by omega)) ?_
              refine t_q (q_add_i64 rfl rfl (by omega)) ?_
              refine t_q (q_cast (v' := .int .i64 (tkN bs : Int)) (q_add_i64 rfl rfl (by omega)) (by congr 1)) ?_
              refine t_q (q_as (.int _ _) rfl) ?_
              refine t_nil ?_
              refine c_seq ?_
              refine c_region ?_
              refine t_q (q_mv (.slice _ _ _) rfl) ?_
              refine t_q (q_mv (.int _ _) rfl) ?_
              refine t_q (q_sub_i64 rfl rfl (by omega)) ?_
              refine t_q (q_cast (v' := .slice (if c = 0 then A else A.map (·.add (0 * 1))) (bs.take (tkN bs - 4)).length (c - 0)) (q_slice Try.runUnderlying25 Try.sizeOf5 rfl ⟨_, _, rfl, by omega, by omega, rfl⟩ rfl) (by rw [List.length_take, show min (tkN bs - 4) bs.length = ((tkN bs : Int) - 4).toNat - 0 from by omega])) ?_
              refine t_call Try.call88 (clone_calls ((take_rd (k := tkN bs - 4) (c := c) hR (by omega) ⟨hc.1, by omega⟩).st hS) (by rw [List.length_take]; omega)) rfl ?_
              rintro e w ⟨A52, c52, rfl, hT⟩
              refine ⟨_, rfl, ?_⟩
              have hS : St W w (_ :: _) := hS.lift hT
              refine t_q (q_as (.slice _ _ _) rfl) ?_
              refine t_nil ?_
              refine c_seq ?_
              refine c_seq ?_
              refine c_draw ?_
              refine d_free 7 [0, 1, 2, 3, 4, 5, 6] [0, 1, 2, 3, 4, 5, 6] hS rfl (by kernel_rfl) (by kernel_rfl) (by kernel_rfl) (by kernel_rfl) (fun hap hsel w hS => ?_)
              refine p_q hap hsel 0 rfl rfl ⟨_, hS⟩ (fun w hI => q_mv (.slice _ _ _) rfl) ?_
              refine p_q hap hsel 2 rfl rfl ⟨_, hS⟩ (fun w hI => q_mv (.slice _ _ _) rfl) ?_
              refine p_q hap hsel 3 rfl rfl ⟨_, hS⟩ (fun w hI => q_mv (.int _ _) rfl) ?_
              refine p_q hap hsel 4 rfl rfl ⟨_, hS⟩ (fun w hI => (q_cast (v' := .slice (if c = 0 then A else A.map (·.add (0 * 1))) (bs.take (tkN bs)).length (c - 0)) (q_slice Try.runUnderlying25 Try.sizeOf5 rfl ⟨_, _, rfl, by omega, by omega, rfl⟩ rfl) (by rw [List.length_take, show min (tkN bs) bs.length = ((tkN bs : Int)).toNat - 0 from by omega]))) ?_
              refine p_one 1 rfl (by kernel_rfl) ?_
              refine t_call Try.call71 (seal_calls hS (by repeat first | exact .here _ _ | assumption | apply Pick.there) rfl (by rw [List.length_take]; omega)) rfl ?_
              rintro e w ⟨A54, m54, c54, rfl, hm54, hS⟩
              refine ⟨_, rfl, ?_⟩
              subst hm54
              refine t_nil ?_
              refine ⟨.inr ⟨_, hS⟩, ?_⟩
              refine p_one 5 rfl (by kernel_rfl) ?_
              refine t_call Try.call109 (equal_calls (hS.rowRd (A := A54) (c := c54) (bs := bs.take (tkN bs - 4) ++ four (crc (bs.take (tkN bs - 4)))) (by repeat first | exact .here _ _ | assumption | apply Pick.there) rfl) ((take_rd (k := tkN bs) (c := c) hR hNle ⟨hc.1, by omega⟩).st hS)) rfl ?_
              rintro e w ⟨rfl, hT⟩
              refine ⟨_, rfl, ?_⟩
              replace hS := hS.after hT
              refine t_nil ?_
              refine ⟨.inr ⟨_, hS⟩, ?_⟩
              refine p_q hap hsel 6 rfl rfl ⟨_, hS⟩ (fun w hI => q_not rfl) ?_
              refine p_end (by kernel_rfl) ?_
              refine c_cond rfl ?_ ?_
              · intro hc21
                have hE := tkE_7 h0 h1 h2 h3 h4 h5 (fun h => by have := (whole_iff (b := bs) (n := tkN bs) (by omega) hNle _).2 h; simp [this] at hc21)
                refine c_seq ?_
                refine c_region ?_
                refine t_q (q_assign) ?_
                refine t_q (q_assign) ?_
                refine t_q (q_assign) ?_
                refine t_q (q_assign) ?_
                refine t_nil ?_
                refine c_ret ?_
                refine r_four rfl rfl rfl rfl rfl ?_
                first
                  | (obtain ⟨e1, e2, e3⟩ := tk_err hE (by decide); rw [e1, e2, e3, hE]; exact ⟨none, 0, 0, rfl, rfl, (hS.nilrow 5 1).front1⟩)
                  | (obtain ⟨e1, e2, e3⟩ := tk_ok hE; rw [e1, e2, e3, hE]; exact ⟨A68, _, c68, rfl, by rw [show tkN bs - 4 - tkFrom bs = szN bs from by omega], (hS.recast (congrArg (rowA 5 1 A68 _ c68) (by rw [show tkN bs - 4 - tkFrom bs = szN bs from by omega]))).front1⟩)
              · intro hc21
                have hE := tkE_8 h0 h1 h2 h3 h4 h5 ((whole_iff (b := bs) (n := tkN bs) (by omega) hNle _).1 (by simpa using hc21))
                refine c_skip ?_
                refine c_seq ?_
                refine c_draw ?_
                refine d_free 14 [0, 1, 2, 3, 4, 5, 6, 7, 8, 9, 10, 11, 12, 13] [0, 1, 2, 3, 4, 5, 6, 7, 8, 10, 11, 9, 12, 13] hS rfl (by kernel_rfl) (by kernel_rfl) (by kernel_rfl) (by kernel_rfl) (fun hap hsel w hS => ?_)
                refine p_q hap hsel 0 rfl rfl ⟨_, hS⟩ (fun w hI => q_mv (.slice _ _ _) rfl) ?_
                refine p_index hap hsel 1 rfl rfl ⟨_, hS⟩ Try.runUnderlying25 Try.sizeOf5 (fun w hI => hR.st hI.choose_spec) rfl rfl (by omega) (fun ad22 hl22 hx22 => ?_)
                refine p_q hap hsel 2 rfl rfl ⟨_, hS⟩ (fun w hI => (q_cast (v' := .int .u8 ((bs.getD 0 0).toNat : Int)) (q_load1 Try.isAgg5 rfl ((hx22 w hI) 0 _ rfl)) (rfl))) ?_
                refine p_q hap hsel 3 rfl rfl ⟨_, hS⟩ (fun w hI => q_mv (.slice _ _ _) rfl) ?_
                refine p_q hap hsel 4 rfl rfl ⟨_, hS⟩ (fun w hI => q_mv (.int _ _) rfl) ?_
                refine p_q hap hsel 5 rfl rfl ⟨_, hS⟩ (fun w hI => q_mv (.int _ _) rfl) ?_
                refine p_q hap hsel 6 rfl rfl ⟨_, hS⟩ (fun w hI => q_sub_i64 rfl rfl (by omega)) ?_
                refine p_q hap hsel 7 rfl rfl ⟨_, hS⟩ (fun w hI => (q_cast (v' := .slice (if c = tkFrom bs then A else A.map (·.add (tkFrom bs * 1))) ((bs.drop (tkFrom bs)).take (tkN bs - 4 - tkFrom bs)).length (c - tkFrom bs)) (q_slice Try.runUnderlying25 Try.sizeOf5 rfl ⟨_, _, rfl, by omega, by omega, rfl⟩ ⟨_, _, rfl, by omega, by omega, rfl⟩) (by rw [List.length_take, List.length_drop, show min (tkN bs - 4 - tkFrom bs) (bs.length - tkFrom bs) = ((tkN bs : Int) - 4).toNat - (tkFrom bs : Int).toNat from by omega]; rfl))) ?_
                refine p_q hap hsel 9 rfl rfl ⟨_, hS⟩ (fun w hI => q_mv (.int _ _) rfl) ?_
                refine p_one 8 rfl (by kernel_rfl) ?_
                refine t_call Try.call88 (clone_calls ((cut_rd (l := tkFrom bs) (m := tkN bs - 4) (c := c) hR (by omega) (by omega) hc.1).st hS) (by rw [List.length_take, List.length_drop]; omega)) rfl ?_
                rintro e w ⟨A68, c68, rfl, hT⟩
                refine ⟨_, rfl, ?_⟩
                have hS : St W w (_ :: _) := hS.lift hT
                refine t_nil ?_
                refine ⟨.inr ⟨_, hS⟩, ?_⟩
                refine p_q hap hsel 10 rfl rfl ⟨_, hS⟩ (fun w hI => q_as (.int _ _) rfl) ?_
                refine p_q hap hsel 11 rfl rfl ⟨_, hS⟩ (fun w hI => q_as (.slice _ _ _) rfl) ?_
                refine p_q hap hsel 12 rfl rfl ⟨_, hS⟩ (fun w hI => q_as (.int _ _) rfl) ?_
                refine p_q hap hsel 13 rfl rfl ⟨_, hS⟩ (fun w hI => q_assign) ?_
                refine p_end (by kernel_rfl) ?_
                refine c_ret ?_
                refine r_four rfl rfl rfl rfl rfl ?_
                first
                  | (obtain ⟨e1, e2, e3⟩ := tk_err hE (by decide); rw [e1, e2, e3, hE]; exact ⟨none, 0, 0, rfl, rfl, (hS.nilrow 5 1).front1⟩)
                  | (obtain ⟨e1, e2, e3⟩ := tk_ok hE; rw [e1, e2, e3, hE]; exact ⟨A68, _, c68, rfl, by rw [show tkN bs - 4 - tkFrom bs = szN bs from by omega], (hS.recast (congrArg (rowA 5 1 A68 _ c68) (by rw [show tkN bs - 4 - tkFrom bs = szN bs from by omega]))).front1⟩)
set_option maxRecDepth 100000 in
theorem qtake_calls {A : Option Addr} {c : Nat} {bs : List UInt8} (hR : RdB W A bs) (hc : bs.length ≤ c ∧ bs.length ≤ 100000000) : Calls Try.prog 24 #[.slice A bs.length c] W fun e w' => ∃ A' m c', e = .returned (.tuple #[bv (tkK bs), .slice A' m c', .int .i64 (tkM bs), .int .i64 (tkE bs)]) ∧ m = (tkL bs).length ∧ St W w' [rowA 5 1 A' m c' ((tkL bs).map bv)] := by
  have hS := St.init W
  refine calls_of_wpE (args := [_]) Try.func24 rfl rfl rfl ?_
  refine c_seq ?_
  refine c_region ?_
  refine t_q (q_assign) ?_
  refine t_q (q_assign) ?_
  refine t_q (q_assign) ?_
  refine t_q (q_assign) ?_
  refine t_nil ?_
  refine c_seq ?_
  refine c_seq ?_
  refine c_region ?_
  refine t_q (q_mv (.slice _ _ _) rfl) ?_
  refine t_q (q_len_slice Try.runUnderlying25 rfl) ?_
  refine t_q (q_eql rfl rfl) ?_
  refine t_nil ?_
  refine c_cond rfl ?_ ?_
  · intro hc2
    have hc2d := of_decide_eq_true hc2
    have hE := tkE_1 (b := bs) (by omega)
    refine c_seq ?_
    refine c_region ?_
    refine t_q (q_assign) ?_
    refine t_q (q_assign) ?_
    refine t_q (q_assign) ?_
    refine t_q (q_assign) ?_
    refine t_nil ?_
    refine c_ret ?_
    refine r_four rfl rfl rfl rfl rfl ?_
    first
      | (obtain ⟨e1, e2, e3⟩ := tk_err hE (by decide); rw [e1, e2, e3, hE]; exact ⟨none, 0, 0, rfl, rfl, (hS.nilrow 5 1).front1⟩)
      | (obtain ⟨e1, e2, e3⟩ := tk_ok hE; rw [e1, e2, e3, hE]; exact ⟨A93, _, c93, congrArg (fun n => Ending.returned (.tuple #[bv (bs.getD 0 0), .slice A93 n c93, .int .i64 (tkN bs : Int), .int .i64 0])) (Nat.zero_add _), by rw [← hdr], (hS.recast (congrArg (rowA 5 1 A93 _ c93) (show _ = ((bs.drop (tkFrom bs)).take (szN bs)).map bv from by rw [← hdr]))).front1⟩)
  · intro hc2
    have hc2d := of_decide_eq_false hc2
    have h0 : ¬ bs.length = 0 := by omega
    refine c_skip ?_
    refine c_seq ?_
    refine c_seq ?_
    refine c_region ?_
    refine t_q (q_mv (.slice _ _ _) rfl) ?_
    first | refine t_index_nat Try.runUnderlying25 Try.sizeOf5 (hR.st hS) rfl rfl (by omega) (fun ad3 hl3 hx3 => ?_) | refine t_index Try.runUnderlying25 Try.sizeOf5 (hR.st hS) rfl rfl (by omega) (fun ad3 hl3 hx3 => ?_)
    refine t_q (q_cast (v' := .int .u8 ((bs.getD 0 0).toNat : Int)) (q_load1 Try.isAgg5 rfl (hx3 0 _ rfl)) (rfl)) ?_
    refine t_q (q_eql rfl rfl) ?_
    refine t_nil ?_
    refine c_cond rfl ?_ ?_
    · intro hc5
      have hc5d := of_decide_eq_true hc5
      have hE := tkE_2 (b := bs) h0 (u8_zero.1 (by omega))
      refine c_seq ?_
      refine c_region ?_
      refine t_q (q_assign) ?_
      refine t_q (q_assign) ?_
      refine t_q (q_assign) ?_
      refine t_q (q_assign) ?_
      refine t_nil ?_
      refine c_ret ?_
      refine r_four rfl rfl rfl rfl rfl ?_
      first
        | (obtain ⟨e1, e2, e3⟩ := tk_err hE (by decide); rw [e1, e2, e3, hE]; exact ⟨none, 0, 0, rfl, rfl, (hS.nilrow 5 1).front1⟩)
        | (obtain ⟨e1, e2, e3⟩ := tk_ok hE; rw [e1, e2, e3, hE]; exact ⟨A93, _, c93, congrArg (fun n => Ending.returned (.tuple #[bv (bs.getD 0 0), .slice A93 n c93, .int .i64 (tkN bs : Int), .int .i64 0])) (Nat.zero_add _), by rw [← hdr], (hS.recast (congrArg (rowA 5 1 A93 _ c93) (show _ = ((bs.drop (tkFrom bs)).take (szN bs)).map bv from by rw [← hdr]))).front1⟩)
    · intro hc5
      have hc5d := of_decide_eq_false hc5
      have h1 : ¬ bs.getD 0 0 = 0 := fun h => by have := u8_zero.2 h; omega
      refine c_skip ?_
      refine c_seq ?_
      refine c_region ?_
      refine t_q (q_mv (.slice _ _ _) rfl) ?_
      refine t_q (q_len_slice Try.runUnderlying25 rfl) ?_
      refine t_q (q_lss rfl rfl) ?_
      refine t_q (q_as (.bool _) rfl) ?_
      refine t_nil ?_
      refine c_seq ?_
      refine c_seq ?_
      refine c_region ?_
      refine t_q (q_assign) ?_
      refine t_nil ?_
      refine c_block ?_
      refine c_loop [6, 7, 21, 22, 23, 24, 25, 26, 27, 28, 29, 30, 31, 32, 33, 34] (fun k σ w => ∃ j : Nat, σ 7 = .int .i64 ((j : Int) + 1) ∧ σ 6 = .bool (opK bs j) ∧ j + 1 ≤ bs.length ∧ bs.length - j ≤ k ∧ St W w []) (bs.length) rfl (⟨0, rfl, congrArg Value.bool ((opK_zero bs).trans (by rw [decide_eq_decide]; omega)).symm, by omega, by omega, hS⟩) ?_
      skip
      rintro k σ w ⟨j, h7, h6, hj, hk, hS⟩
      refine c_know 7 h7 ?_
      refine c_know 6 h6 ?_
      clear h7 h6
      have hcb := (bs.getD (j + 1) 0).toNat_lt
      refine c_seq ?_
      refine c_seq ?_
      refine c_region ?_
      refine t_q (q_mv (.int _ _) rfl) ?_
      refine t_q (q_mv (.slice _ _ _) rfl) ?_
      refine t_q (q_len_slice Try.runUnderlying25 rfl) ?_
      refine t_q (q_lss rfl rfl) ?_
      refine t_nil ?_
      refine c_cond rfl ?_ ?_
      · intro hc8
        have hc8d := of_decide_eq_true hc8
        refine c_skip ?_
        refine c_seq ?_
        refine c_block ?_
        refine c_region ?_
        refine t_q (q_mv (.bool _) rfl) ?_
        refine t_q (q_mv (.bool _) rfl) ?_
        refine t_case 28 rfl ?_ ?_
        · intro hg10
          refine t_yes rfl rfl hg10 ?_
          refine t_q (q_mv (.slice _ _ _) rfl) ?_
          refine t_yes rfl rfl hg10 ?_
          refine t_q (q_cast (v' := .int .i64 ((j + 1 : Nat) : Int)) (q_mv (.int _ _) rfl) (by rfl)) ?_
          refine t_yes rfl rfl hg10 ?_
          first | refine t_index_nat Try.runUnderlying25 Try.sizeOf5 (hR.st hS) rfl rfl (by omega) (fun ad11 hl11 hx11 => ?_) | refine t_index Try.runUnderlying25 Try.sizeOf5 (hR.st hS) rfl rfl (by omega) (fun ad11 hl11 hx11 => ?_)
          refine t_yes rfl rfl hg10 ?_
          refine t_q (q_cast (v' := .int .u8 ((bs.getD (j + 1) 0).toNat : Int)) (q_load1 Try.isAgg5 rfl (hx11 0 _ rfl)) (rfl)) ?_
          refine t_yes rfl rfl hg10 ?_
          refine t_q (q_geq rfl rfl) ?_
          refine t_q (q_cast (v' := .bool (opK bs (j + 1))) (q_pick_t rfl hg10) (by
      first
        | exact congrArg Value.bool (show decide (((bs.getD (j + 1) 0).toNat : Int) ≥ 128) = opK bs (j + 1) from by rw [opK_snoc (by omega), ‹opK bs j = true›, Bool.true_and, decide_eq_decide]; omega)
        | exact congrArg Value.bool (show decide ((128 : Int) ≤ ((bs.getD (j + 1) 0).toNat : Int)) = opK bs (j + 1) from by rw [opK_snoc (by omega), ‹opK bs j = true›, Bool.true_and, decide_eq_decide]; omega)
        | exact congrArg Value.bool (show false = opK bs (j + 1) from by rw [opK_snoc (by omega), ‹opK bs j = false›]; rfl))) ?_
          refine t_q (q_as (.bool _) rfl) ?_
          refine t_nil ?_
          refine c_region ?_
          refine t_q (q_mv (.int _ _) rfl) ?_
          refine t_q (q_cast (v' := .int .i64 (((j + 1 : Nat) : Int) + 1)) (q_add_i64 rfl rfl (by omega)) (by congr 1)) ?_
          refine t_q (q_as (.int _ _) rfl) ?_
          refine t_nil ?_
          exact ⟨k - 1, by omega, j + 1, rfl, rfl, by omega, by omega, hS⟩
        · intro hg10
          refine t_no rfl rfl (by rw [hg10]; decide) ?_
          refine t_no rfl rfl (by rw [hg10]; decide) ?_
          refine t_no rfl rfl (by rw [hg10]; decide) ?_
          refine t_no rfl rfl (by rw [hg10]; decide) ?_
          refine t_no rfl rfl (by rw [hg10]; decide) ?_
          refine t_q (q_cast (v' := .bool (opK bs (j + 1))) (q_pick_f rfl hg10) (by
      first
        | exact congrArg Value.bool (show decide (((bs.getD (j + 1) 0).toNat : Int) ≥ 128) = opK bs (j + 1) from by rw [opK_snoc (by omega), ‹opK bs j = true›, Bool.true_and, decide_eq_decide]; omega)
        | exact congrArg Value.bool (show decide ((128 : Int) ≤ ((bs.getD (j + 1) 0).toNat : Int)) = opK bs (j + 1) from by rw [opK_snoc (by omega), ‹opK bs j = true›, Bool.true_and, decide_eq_decide]; omega)
        | exact congrArg Value.bool (show false = opK bs (j + 1) from by rw [opK_snoc (by omega), ‹opK bs j = false›]; rfl))) ?_
          refine t_q (q_as (.bool _) rfl) ?_
          refine t_nil ?_
          refine c_region ?_
          refine t_q (q_mv (.int _ _) rfl) ?_
          refine t_q (q_cast (v' := .int .i64 (((j + 1 : Nat) : Int) + 1)) (q_add_i64 rfl rfl (by omega)) (by congr 1)) ?_
          refine t_q (q_as (.int _ _) rfl) ?_
          refine t_nil ?_
          exact ⟨k - 1, by omega, j + 1, rfl, rfl, by omega, by omega, hS⟩
      · intro hc8
        have hc8d := of_decide_eq_false hc8
        obtain rfl : j = bs.length - 1 := by omega
        refine c_exit ?_
        refine ite_t rfl ?_
        refine c_seq ?_
        refine c_seq ?_
        refine c_region ?_
        refine t_q (q_mv (.bool _) rfl) ?_
        refine t_nil ?_
        refine c_cond rfl ?_ ?_
        · intro hc14
          have hE := tkE_3 h0 h1 ((opK_all (by omega)).symm.trans hc14)
          refine c_seq ?_
          refine c_region ?_
          refine t_q (q_assign) ?_
          refine t_q (q_assign) ?_
          refine t_q (q_assign) ?_
          refine t_q (q_assign) ?_
          refine t_nil ?_
          refine c_ret ?_
          refine r_four rfl rfl rfl rfl rfl ?_
          first
            | (obtain ⟨e1, e2, e3⟩ := tk_err hE (by decide); rw [e1, e2, e3, hE]; exact ⟨none, 0, 0, rfl, rfl, (hS.nilrow 5 1).front1⟩)
            | (obtain ⟨e1, e2, e3⟩ := tk_ok hE; rw [e1, e2, e3, hE]; exact ⟨A93, _, c93, congrArg (fun n => Ending.returned (.tuple #[bv (bs.getD 0 0), .slice A93 n c93, .int .i64 (tkN bs : Int), .int .i64 0])) (Nat.zero_add _), by rw [← hdr], (hS.recast (congrArg (rowA 5 1 A93 _ c93) (show _ = ((bs.drop (tkFrom bs)).take (szN bs)).map bv from by rw [← hdr]))).front1⟩)
        · intro hc14
          have h2 : openB (bs.drop 1) = false := (opK_all (by omega)).symm.trans hc14
          refine c_skip ?_
          refine c_seq ?_
          refine c_region ?_
          refine t_q (q_mv (.slice _ _ _) rfl) ?_
          refine t_q (q_cast (v' := .slice (if c = 1 then A else A.map (·.add (1 * 1))) (bs.drop 1).length (c - 1)) (q_slice Try.runUnderlying25 Try.sizeOf5 rfl rfl ⟨_, _, rfl, by omega, by omega, rfl⟩) (by rw [List.length_drop]; rfl)) ?_
          refine t_q (q_build (qs := [(0, 1), (1, 1)]) [(.slice _ _ _), (.bool _)] Try.zeroValue145 Try.runUnderlying145 ⟨rfl, Try.sizeOf25, rfl, Try.sizeOf4, trivial⟩ rfl rfl) ?_
          refine t_box (v := (.agg _)) rfl rfl hS (fun g39 w hS => ?_)
          replace hS := hS.unrdr (s := ⟨bs.drop 1, false⟩) rfl rfl (drop_rd hR (k := 1) (c := c) (by omega) ⟨hc.1, by omega⟩) ⟨by show (bs.drop 1).length ≤ _; rw [List.length_drop]; omega, by show (bs.drop 1).length ≤ _; rw [List.length_drop]; omega⟩
          refine t_q (q_as (.pointer _) rfl) ?_
          refine t_nil ?_
          refine c_seq ?_
          refine c_region ?_
          refine t_q (q_mv (.pointer _) rfl) ?_
          refine t_call Try.call75 (qtakeNat hS (by repeat first | exact .here _ _ | assumption | apply Pick.there)) rfl ?_
          rintro e w ⟨rfl, hS⟩
          refine ⟨_, rfl, ?_⟩
          refine t_q (q_as (.int _ _) rfl) ?_
          refine t_nil ?_
          refine c_seq ?_
          refine c_seq ?_
          obtain ⟨A1, c1, hR1, hc1, hS⟩ := hS.rdr
          have hsl0 := sz_left bs
          refine c_region ?_
          refine t_q (q_mv (.pointer _) rfl) ?_
          refine t_q (q_nilCheck rfl) ?_
          refine t_q (q_fieldAddr 1 Try.runUnderlying145 rfl Try.sizeOf4 (by decide) rfl rfl) ?_
          refine t_q (q_load1 Try.isAgg4 rfl (hS.cell (by repeat first | exact .here _ _ | assumption | apply Pick.there) rfl)) ?_
          refine t_nil ?_
          refine c_cond rfl ?_ ?_
          · intro hc17
            have hE := tkE_4 h0 h1 h2 hc17
            refine c_seq ?_
            refine c_region ?_
            refine t_q (q_assign) ?_
            refine t_q (q_assign) ?_
            refine t_q (q_assign) ?_
            refine t_q (q_assign) ?_
            refine t_nil ?_
            refine c_ret ?_
            refine r_four rfl rfl rfl rfl rfl ?_
            first
              | (obtain ⟨e1, e2, e3⟩ := tk_err hE (by decide); rw [e1, e2, e3, hE]; exact ⟨none, 0, 0, rfl, rfl, (hS.nilrow 5 1).front1⟩)
              | (obtain ⟨e1, e2, e3⟩ := tk_ok hE; rw [e1, e2, e3, hE]; exact ⟨A93, _, c93, congrArg (fun n => Ending.returned (.tuple #[bv (bs.getD 0 0), .slice A93 n c93, .int .i64 (tkN bs : Int), .int .i64 0])) (Nat.zero_add _), by rw [← hdr], (hS.recast (congrArg (rowA 5 1 A93 _ c93) (show _ = ((bs.drop (tkFrom bs)).take (szN bs)).map bv from by rw [← hdr]))).front1⟩)
          · intro hc17
            have h3 := hc17
            refine c_skip ?_
            refine c_seq ?_
            refine c_seq ?_
            refine c_region ?_
            refine t_q (q_mv (.int _ _) rfl) ?_
            refine t_q (q_gtr rfl rfl) ?_
            refine t_nil ?_
            refine c_cond rfl ?_ ?_
            · intro hc19
              have hc19d := of_decide_eq_true hc19
              have hE := tkE_5 h0 h1 h2 h3 (by omega)
              refine c_seq ?_
              refine c_region ?_
              refine t_q (q_assign) ?_
              refine t_q (q_assign) ?_
              refine t_q (q_assign) ?_
              refine t_q (q_assign) ?_
              refine t_nil ?_
              refine c_ret ?_
              refine r_four rfl rfl rfl rfl rfl ?_
              first
                | (obtain ⟨e1, e2, e3⟩ := tk_err hE (by decide); rw [e1, e2, e3, hE]; exact ⟨none, 0, 0, rfl, rfl, (hS.nilrow 5 1).front1⟩)
                | (obtain ⟨e1, e2, e3⟩ := tk_ok hE; rw [e1, e2, e3, hE]; exact ⟨A93, _, c93, congrArg (fun n => Ending.returned (.tuple #[bv (bs.getD 0 0), .slice A93 n c93, .int .i64 (tkN bs : Int), .int .i64 0])) (Nat.zero_add _), by rw [← hdr], (hS.recast (congrArg (rowA 5 1 A93 _ c93) (show _ = ((bs.drop (tkFrom bs)).take (szN bs)).map bv from by rw [← hdr]))).front1⟩)
            · intro hc19
              have hc19d := of_decide_eq_false hc19
              have h4 : ¬ 65536 < szN bs := by omega
              refine c_skip ?_
              refine c_seq ?_
              refine c_seq ?_
              refine c_region ?_
              refine t_q (q_mv (.pointer _) rfl) ?_
              refine t_q (q_nilCheck rfl) ?_
              refine t_q (q_fieldAddr 0 Try.runUnderlying145 rfl Try.sizeOf25 (by decide) rfl rfl) ?_
              refine t_q (q_load1 Try.isAgg25 rfl (hS.cell (by repeat first | exact .here _ _ | assumption | apply Pick.there) rfl)) ?_
              refine t_q (q_len_slice Try.runUnderlying25 rfl) ?_
              refine t_q (q_mv (.int _ _) rfl) ?_
              refine t_q (q_conv_i64 Try.runUnderlying43 Try.runUnderlying3 rfl (by omega)) ?_
              refine t_q (q_add_i64 rfl rfl (by omega)) ?_
              refine t_q (q_lss rfl rfl) ?_
              refine t_nil ?_
              refine c_cond rfl ?_ ?_
              · intro hc21
                have hc21d := of_decide_eq_true hc21
                have hE := tkE_6 h0 h1 h2 h3 h4 (by omega)
                refine c_seq ?_
                refine c_region ?_
                refine t_q (q_assign) ?_
                refine t_q (q_assign) ?_
                refine t_q (q_assign) ?_
                refine t_q (q_assign) ?_
                refine t_nil ?_
                refine c_ret ?_
                refine r_four rfl rfl rfl rfl rfl ?_
                first
                  | (obtain ⟨e1, e2, e3⟩ := tk_err hE (by decide); rw [e1, e2, e3, hE]; exact ⟨none, 0, 0, rfl, rfl, (hS.nilrow 5 1).front1⟩)
                  | (obtain ⟨e1, e2, e3⟩ := tk_ok hE; rw [e1, e2, e3, hE]; exact ⟨A93, _, c93, congrArg (fun n => Ending.returned (.tuple #[bv (bs.getD 0 0), .slice A93 n c93, .int .i64 (tkN bs : Int), .int .i64 0])) (Nat.zero_add _), by rw [← hdr], (hS.recast (congrArg (rowA 5 1 A93 _ c93) (show _ = ((bs.drop (tkFrom bs)).take (szN bs)).map bv from by rw [← hdr]))).front1⟩)
              · intro hc21
                have hc21d := of_decide_eq_false hc21
                have h5 : ¬ (szS bs).left.length < szN bs + 4 := by omega
                have hsl := sz_left bs
                have hNle : tkN bs ≤ bs.length := by unfold tkN tkFrom; omega
                have hFle : tkFrom bs + szN bs + 4 = tkN bs := rfl
                have hFl : tkFrom bs ≤ bs.length := by omega
                refine c_skip ?_
                refine c_seq ?_
                refine c_region ?_
                refine t_q (q_mv (.slice _ _ _) rfl) ?_
                refine t_q (q_len_slice Try.runUnderlying25 rfl) ?_
                refine t_q (q_mv (.pointer _) rfl) ?_
                refine t_q (q_nilCheck rfl) ?_
                refine t_q (q_fieldAddr 0 Try.runUnderlying145 rfl Try.sizeOf25 (by decide) rfl rfl) ?_
                refine t_q (q_load1 Try.isAgg25 rfl (hS.cell (by repeat first | exact .here _ _ | assumption | apply Pick.there) rfl)) ?_
                refine t_q (q_len_slice Try.runUnderlying25 rfl) ?_
                refine t_q (q_cast (v' := .int .i64 (tkFrom bs : Int)) (q_sub_i64 rfl rfl (by omega)) (by congr 1; unfold tkFrom; omega)) ?_
                refine t_q (q_mv (.int _ _) rfl) ?_
                refine t_q (q_conv_i64 Try.runUnderlying43 Try.runUnderlying3 rfl (by omega)) ?_
                refine t_q (q_add_i64 rfl rfl (by omega)) ?_
                refine t_q (q_cast (v' := .int .i64 (tkN bs : Int)) (q_add_i64 rfl rfl (by omega)) (by congr 1)) ?_
                refine t_q (q_as (.int _ _) rfl) ?_
                refine t_nil ?_
                refine c_seq ?_
                refine c_seq ?_
                refine c_draw ?_
                refine d_free 14 [0, 1, 2, 3, 4, 5, 6, 7, 8, 9, 10, 11, 12, 13] [0, 1, 2, 3, 4, 5, 6, 7, 8, 9, 10, 11, 12, 13] hS rfl (by kernel_rfl) (by kernel_rfl) (by kernel_rfl) (by kernel_rfl) (fun hap hsel w hS => ?_)
                refine p_q hap hsel 0 rfl rfl ⟨_, hS⟩ (fun w hI => q_mv (.slice _ _ _) rfl) ?_
                refine p_q hap hsel 1 rfl rfl ⟨_, hS⟩ (fun w hI => q_mv (.int _ _) rfl) ?_
                refine p_q hap hsel 2 rfl rfl ⟨_, hS⟩ (fun w hI => q_sub_i64 rfl rfl (by omega)) ?_
                refine p_q hap hsel 3 rfl rfl ⟨_, hS⟩ (fun w hI => (q_cast (v' := .slice (if c = 0 then A else A.map (·.add (0 * 1))) (bs.take (tkN bs - 4)).length (c - 0)) (q_slice Try.runUnderlying25 Try.sizeOf5 rfl ⟨_, _, rfl, by omega, by omega, rfl⟩ rfl) (by rw [List.length_take, show min (tkN bs - 4) bs.length = ((tkN bs : Int) - 4).toNat - 0 from by omega]))) ?_
                refine p_q hap hsel 7 rfl rfl ⟨_, hS⟩ (fun w hI => q_mv (.slice _ _ _) rfl) ?_
                refine p_q hap hsel 8 rfl rfl ⟨_, hS⟩ (fun w hI => q_mv (.int _ _) rfl) ?_
                refine p_q hap hsel 9 rfl rfl ⟨_, hS⟩ (fun w hI => q_sub_i64 rfl rfl (by omega)) ?_
                refine p_q hap hsel 10 rfl rfl ⟨_, hS⟩ (fun w hI => q_mv (.int _ _) rfl) ?_
                refine p_q hap hsel 11 rfl rfl ⟨_, hS⟩ (fun w hI => (q_cast (v' := .slice (if c = tkN bs - 4 then A else A.map (·.add ((tkN bs - 4) * 1))) ((bs.drop (tkN bs - 4)).take 4).length (c - (tkN bs - 4))) (q_slice Try.runUnderlying25 Try.sizeOf5 rfl ⟨_, _, rfl, by omega, by omega, rfl⟩ ⟨_, _, rfl, by omega, by omega, rfl⟩) (by rw [List.length_take, List.length_drop, show min 4 (bs.length - (tkN bs - 4)) = (tkN bs : Int).toNat - ((tkN bs : Int) - 4).toNat from by omega, show ((tkN bs : Int) - 4).toNat = tkN bs - 4 from by omega]))) ?_
                refine p_q hap hsel 12 rfl rfl ⟨_, hS⟩ (fun w hI => q_string Try.runUnderlying25 Try.runUnderlying5 Try.runUnderlying9 rfl rfl ((show RdB _ _ ((bs.drop (tkN bs - 4)).take 4) from by have h := cut_rd (l := tkN bs - 4) (m := tkN bs) (c := c) hR (by omega) hNle hc.1; rw [show tkN bs - (tkN bs - 4) = 4 from by omega] at h; exact h.st hI.choose_spec))) ?_
                refine p_one 4 rfl (by kernel_rfl) ?_
                refine t_call Try.call77 (qsum_calls ((take_rd (k := tkN bs - 4) (c := c) hR (by omega) ⟨hc.1, by omega⟩).st hS) (by rw [List.length_take]; omega)) rfl ?_
                rintro e w ⟨rfl, hT⟩
                refine ⟨_, rfl, ?_⟩
                replace hS := hS.after hT
                refine t_nil ?_
                refine ⟨.inr ⟨_, hS⟩, ?_⟩
                refine p_one 5 rfl (by kernel_rfl) ?_
                refine t_call Try.call76 (four_calls hS (crc_lt _)) rfl ?_
                rintro e w ⟨A74, m74, c74, rfl, hm74, hS⟩
                refine ⟨_, rfl, ?_⟩
                refine t_nil ?_
                refine ⟨.inr ⟨_, hS⟩, ?_⟩
                refine p_one 6 rfl (by kernel_rfl) ?_
                refine t_q (q_string Try.runUnderlying25 Try.runUnderlying5 Try.runUnderlying9 rfl hm74 (hS.rowRd (A := A74) (n := m74) (c := c74) (bs := four (crc (bs.take (tkN bs - 4)))) (by repeat first | exact .here _ _ | assumption | apply Pick.there) hm74)) ?_
                refine t_nil ?_
                refine ⟨.inr ⟨_, hS⟩, ?_⟩
                refine p_q hap hsel 13 rfl rfl ⟨_, hS⟩ (fun w hI => q_neq_string rfl rfl) ?_
                refine p_end (by kernel_rfl) ?_
                refine c_cond rfl ?_ ?_
                · intro hc25
                  have hc25d := of_decide_eq_true hc25
                  have hE := tkE_7 h0 h1 h2 h3 h4 h5 (fun h => by rw [h] at hc25; simp at hc25)
                  refine c_seq ?_
                  refine c_region ?_
                  refine t_q (q_assign) ?_
                  refine t_q (q_assign) ?_
                  refine t_q (q_assign) ?_
                  refine t_q (q_assign) ?_
                  refine t_nil ?_
                  refine c_ret ?_
                  refine r_four rfl rfl rfl rfl rfl ?_
                  first
                    | (obtain ⟨e1, e2, e3⟩ := tk_err hE (by decide); rw [e1, e2, e3, hE]; exact ⟨none, 0, 0, rfl, rfl, (hS.nilrow 5 1).front1⟩)
                    | (obtain ⟨e1, e2, e3⟩ := tk_ok hE; rw [e1, e2, e3, hE]; exact ⟨A93, _, c93, congrArg (fun n => Ending.returned (.tuple #[bv (bs.getD 0 0), .slice A93 n c93, .int .i64 (tkN bs : Int), .int .i64 0])) (Nat.zero_add _), by rw [← hdr], (hS.recast (congrArg (rowA 5 1 A93 _ c93) (show _ = ((bs.drop (tkFrom bs)).take (szN bs)).map bv from by rw [← hdr]))).front1⟩)
                · intro hc25
                  have hc25d := of_decide_eq_false hc25
                  have hE := tkE_8 h0 h1 h2 h3 h4 h5 (by simpa using hc25)
                  have hdr := sz_drop h3 h0
                  have htl : ((szS bs).left.take (szN bs)).length ≤ 65536 := by rw [List.length_take]; omega
                  refine c_skip ?_
                  refine c_seq ?_
                  refine c_draw ?_
                  refine d_keep (blkA g39 145 [.slice A1 (szS bs).left.length c1, .bool (szS bs).bad]) 16 [0, 1, 2, 3, 4, 5, 6, 7, 8, 9, 10, 11, 12, 13, 14, 15] [0, 1, 2, 3, 4, 5, 6, 7, 8, 9, 10, 12, 13, 11, 14, 15] hS rfl (by kernel_rfl) (by kernel_rfl) (by kernel_rfl) (by kernel_rfl) (fun hap hsel w hS => ?_)
                  refine p_q hap hsel 0 rfl rfl ⟨_, hS.pick (by repeat first | exact .here _ _ | assumption | apply Pick.there)⟩ (fun w hI => q_mv (.slice _ _ _) rfl) ?_
                  refine p_index hap hsel 1 rfl rfl ⟨_, hS.pick (by repeat first | exact .here _ _ | assumption | apply Pick.there)⟩ Try.runUnderlying25 Try.sizeOf5 (fun w hI => hR.st hI.choose_spec) rfl rfl (by omega) (fun ad26 hl26 hx26 => ?_)
                  refine p_q hap hsel 2 rfl rfl ⟨_, hS.pick (by repeat first | exact .here _ _ | assumption | apply Pick.there)⟩ (fun w hI => (q_cast (v' := .int .u8 ((bs.getD 0 0).toNat : Int)) (q_load1 Try.isAgg5 rfl ((hx26 w hI) 0 _ rfl)) (rfl))) ?_
                  refine p_q hap hsel 4 rfl rfl ⟨_, hS.pick (by repeat first | exact .here _ _ | assumption | apply Pick.there)⟩ (fun w hI => q_mv (.pointer _) rfl) ?_
                  refine p_q hap hsel 5 rfl rfl ⟨_, hS.pick (by repeat first | exact .here _ _ | assumption | apply Pick.there)⟩ (fun w hI => q_nilCheck rfl) ?_
                  refine p_q hap hsel 6 rfl rfl ⟨_, hS.pick (by repeat first | exact .here _ _ | assumption | apply Pick.there)⟩ (fun w hI => q_fieldAddr 0 Try.runUnderlying145 rfl Try.sizeOf25 (by decide) rfl rfl) ?_
                  refine p_q hap hsel 7 rfl rfl ⟨_, hS.pick (by repeat first | exact .here _ _ | assumption | apply Pick.there)⟩ (fun w hI => q_load1 Try.isAgg25 rfl (hI.choose_spec.cell (by repeat first | exact .here _ _ | assumption | apply Pick.there) rfl)) ?_
                  refine p_q hap hsel 8 rfl rfl ⟨_, hS.pick (by repeat first | exact .here _ _ | assumption | apply Pick.there)⟩ (fun w hI => q_mv (.int _ _) rfl) ?_
                  refine p_q hap hsel 9 rfl rfl ⟨_, hS.pick (by repeat first | exact .here _ _ | assumption | apply Pick.there)⟩ (fun w hI => (q_cast (v' := .slice (if c1 = 0 then A1 else A1.map (·.add (0 * 1))) ((szS bs).left.take (szN bs)).length (c1 - 0)) (q_slice Try.runUnderlying25 Try.sizeOf5 rfl ⟨_, _, rfl, by omega, by omega, rfl⟩ rfl) (by rw [List.length_take, show min (szN bs) (szS bs).left.length = (szN bs : Int).toNat - 0 from by omega]))) ?_
                  refine p_q hap hsel 11 rfl rfl ⟨_, hS.pick (by repeat first | exact .here _ _ | assumption | apply Pick.there)⟩ (fun w hI => q_mv (.int _ _) rfl) ?_
                  refine p_one 3 rfl (by kernel_rfl) ?_
                  refine t_build_bytes [] Try.runUnderlying25 Try.sizeOf5 Try.zeroValue5 rfl rfl (by simp; try omega) (by decide) hS (fun g86 w hS => ?_)
                  refine t_nil ?_
                  refine ⟨.inr ⟨_, hS.pick (by repeat first | exact .here _ _ | assumption | apply Pick.there)⟩, ?_⟩
                  refine p_one 10 rfl (by kernel_rfl) ?_
                  refine t_append (size := 1) (bytes := 1) Try.underlying25 (info_of Try.type5) rfl rfl rfl rfl (by decide) hS (by repeat first | exact .here _ _ | assumption | apply Pick.there) ((take_rd (k := szN bs) (c := c1) (hR1.st hS) (by omega) hc1)) rfl rfl (fun _ _ => rfl) (by unfold maxLen; omega) (by omega) (fun A93 c93 w hS => ?_)
                  simp only [Nat.zero_add, List.nil_append, List.map_nil] at hS
                  rw [flat_bsf] at hS
                  refine t_nil ?_
                  refine ⟨.inr ⟨_, hS.pick (by repeat first | exact .here _ _ | assumption | apply Pick.there)⟩, ?_⟩
                  refine p_q hap hsel 12 rfl rfl ⟨_, hS.pick (by repeat first | exact .here _ _ | assumption | apply Pick.there)⟩ (fun w hI => q_as (.int _ _) rfl) ?_
                  refine p_q hap hsel 13 rfl rfl ⟨_, hS.pick (by repeat first | exact .here _ _ | assumption | apply Pick.there)⟩ (fun w hI => q_as (.slice _ _ _) rfl) ?_
                  refine p_q hap hsel 14 rfl rfl ⟨_, hS.pick (by repeat first | exact .here _ _ | assumption | apply Pick.there)⟩ (fun w hI => q_as (.int _ _) rfl) ?_
                  refine p_q hap hsel 15 rfl rfl ⟨_, hS.pick (by repeat first | exact .here _ _ | assumption | apply Pick.there)⟩ (fun w hI => q_assign) ?_
                  refine p_end (by kernel_rfl) ?_
                  refine c_ret ?_
                  refine r_four rfl rfl rfl rfl rfl ?_
                  first
                    | (obtain ⟨e1, e2, e3⟩ := tk_err hE (by decide); rw [e1, e2, e3, hE]; exact ⟨none, 0, 0, rfl, rfl, (hS.nilrow 5 1).front1⟩)
                    | (obtain ⟨e1, e2, e3⟩ := tk_ok hE; rw [e1, e2, e3, hE]; exact ⟨A93, _, c93, congrArg (fun n => Ending.returned (.tuple #[bv (bs.getD 0 0), .slice A93 n c93, .int .i64 (tkN bs : Int), .int .i64 0])) (Nat.zero_add _), by rw [← hdr], (hS.recast (congrArg (rowA 5 1 A93 _ c93) (show _ = ((bs.drop (tkFrom bs)).take (szN bs)).map bv from by rw [← hdr]))).front1⟩)
end Go.Proofs.Ytlppgpidakfnlaa
