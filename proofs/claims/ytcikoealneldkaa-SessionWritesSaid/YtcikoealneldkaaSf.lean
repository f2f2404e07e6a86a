/- Tables of sessions: the document's own, written and read. -/
import Derived.Test.YtcikoealneldkaaSe
namespace Go.Proofs.Ytcikoealneldkaa
open Go Go.RowKit Go.Lib
variable {W : World}
theorem rcs_zero : [.int .u64 0, .slice none 0 0, .int .u64 0, .slice none 0 0, .int .u64 0, .slice none 0 0, .int .u64 0, .slice none 0 0, .int .u64 0, .slice none 0 0, .int .u64 0, .slice none 0 0, .int .u64 0, .slice none 0 0, .int .u64 0, .slice none 0 0, .int .u64 0, .slice none 0 0] = rcs T0 (fun _ => (none, 0)) := rfl
theorem St.ref_zero {w : World} {R : List Asn} {g : Nat} (h : St W w (blkA g 168 [.int .u64 0, .slice none 0 0, .int .u64 0, .slice none 0 0, .int .u64 0, .slice none 0 0, .int .u64 0, .slice none 0 0, .int .u64 0, .slice none 0 0, .int .u64 0, .slice none 0 0, .int .u64 0, .slice none 0 0, .int .u64 0, .slice none 0 0, .int .u64 0, .slice none 0 0] :: R)) : St W w (refA g T0 :: R) := by
  have h1 := (h.rds0.nilrow 130 12).rds_add (f := evf []) (fun hj => absurd hj (Nat.lt_irrefl 0))
  have h2 := h1.rds_sub (l' := rps T0 (fun _ => (none, 0))) fun p hp => by
    obtain ⟨i, _, rfl⟩ := List.mem_map.1 hp
    exact List.mem_cons_self
  rw [rcs_zero] at h2
  exact St.unref (h2.pick (.there (.here _ _)))
attribute [local irreducible] blkA rowA rdrA mapA mapS rdsA tabA refA wrA Sk.good Sk.cl Sk.rq Sk.s1 Sk.s2 evS rcs
set_option maxRecDepth 100000 in
theorem qsput_calls {w : World} {L R : List Asn} {g : Nat} {T : Tb} (hS : St W w L) (pk : Pick L (refA g T) R) (hT : TGood T) :
  Calls Try.prog 122 #[.pointer (some ⟨g, 0, none⟩)] w fun e w' => ∃ A' m c', e = .returned (.slice A' m c') ∧ m = (sesB T).length ∧ St W w' (rowA 5 1 A' m c' ((sesB T).map bv) :: refA g T :: R) := by
  replace hS := hS.pick pk
  clear pk
  obtain ⟨sl, hS⟩ := hS.ref
  have hcl := cntK_le T 8
  have hl0 := enc_ten (n := cntK T 8) (by omega)
  refine calls_of_wpE (args := [_]) Try.func122 rfl rfl rfl ?_
  refine c_seq ?_
  refine c_region ?_
  refine t_q (q_assign) ?_
  refine t_nil ?_
  refine c_seq ?_
  refine c_region ?_
  refine t_q (q_assign) ?_
  refine t_nil ?_
  refine c_seq ?_
  refine c_region ?_
  refine t_q (q_assign) ?_
  refine t_nil ?_
  refine c_seq ?_
  refine c_seq ?_
  refine c_region ?_
  refine t_q (q_assign) ?_
  refine t_nil ?_
  refine c_block ?_
  refine c_loop [3, 4, 5, 6, 7, 8, 9, 10, 11, 12, 13, 14, 15, 16, 17, 18, 19, 20, 21, 22, 23, 24, 25, 26, 27, 28, 29, 30, 31, 32, 33, 34, 35, 36, 37, 38, 39, 40, 41, 42, 43, 44] (fun k σ w => ∃ (i : Nat) (A' : Option Addr) (m c' : Nat), σ 5 = .int .i64 ((i : Int) + 1) ∧ σ 3 = .int .u64 (cntK T i : Int) ∧ σ 4 = .slice A' m c' ∧ i ≤ 8 ∧ 8 - i ≤ k ∧ m = (sesP T i).length ∧ St W w (rowA 5 1 A' m c' ((sesP T i).map bv) :: blkA g 168 (rcs T sl) :: rdsA (rps T sl) :: R)) (8) rfl (⟨0, none, 0, 0, rfl, rfl, rfl, by omega, by omega, rfl, hS.nilrow 5 1⟩) ?_
  skip
  rintro k σ w ⟨i, A', m, c', h5, h3, h4, hi, hk, hmm, hS⟩
  refine c_know 5 h5 ?_
  refine c_know 3 h3 ?_
  refine c_know 4 h4 ?_
  clear h5 h3 h4
  have hpl := sesP_len hT i hi
  have hcn := cntK_le T i
  have hrg := hT.rng ((i : Int) + 1)
  have hevi := hT.evs ((i : Int) + 1)
  have hevl := hT.len ((i : Int) + 1)
  have hebl := evsB_length hevi hevl
  have z1 := enc_ten (n := (((i : Int) + 1)).toNat) (by omega)
  have z2 := enc_ten (n := (T ((i : Int) + 1)).1.toNat) (by omega)
  refine c_seq ?_
  refine c_seq ?_
  refine c_region ?_
  refine t_q (q_mv (.int _ _) rfl) ?_
  refine t_q (q_leq rfl rfl) ?_
  refine t_nil ?_
  refine c_cond rfl ?_ ?_
  · intro hc2
    have hc2d := of_decide_eq_true hc2
    refine c_skip ?_
    refine c_seq ?_
    refine c_block ?_
    refine c_seq ?_
    refine c_region ?_
    refine t_q (q_mv (.pointer _) rfl) ?_
    refine t_q (q_mv (.int _ _) rfl) ?_
    refine t_q (q_nilCheck rfl) ?_
    refine t_q (q_fieldAddr 0 Try.runUnderlying168 rfl Try.sizeOf166 (by decide) rfl rfl) ?_
    first | refine t_q (q_arr_nat Try.runUnderlying166 Try.sizeOf165 rfl rfl (by omega)) ?_ | refine t_q (q_arr Try.runUnderlying166 Try.sizeOf165 rfl rfl (by omega)) ?_
    refine t_q (q_fieldAddr 0 Try.runUnderlying165 rfl Try.sizeOf24 (by decide) rfl rfl) ?_
    refine t_q (q_load1 Try.isAgg24 rfl (hS.cell (by repeat first | exact .here _ _ | assumption | apply Pick.there) (rcs_req (c := ((i : Int) + 1)) (by omega)))) ?_
    refine t_q (q_gtr rfl rfl) ?_
    refine t_nil ?_
    refine c_cond rfl ?_ ?_
    · intro hc5
      have hc5d := of_decide_eq_true hc5
      have hpos : 0 < (T ((i : Int) + 1)).1 := by omega
      have hcn1 : cntK T (i + 1) = cntK T i + 1 := by rw [cntK, if_pos hpos]
      refine c_seq ?_
      refine c_region ?_
      refine t_q (q_mv (.int _ _) rfl) ?_
      refine t_q (q_add_u64 rfl rfl (by omega)) ?_
      refine t_q (q_as (.int _ _) rfl) ?_
      refine t_nil ?_
      refine c_seq ?_
      refine c_region ?_
      refine t_q (q_mv (.slice _ _ _) rfl) ?_
      refine t_q (q_mv (.int _ _) rfl) ?_
      first | refine t_q (q_conv_u64 Try.runUnderlying3 Try.runUnderlying24 rfl (by omega)) ?_ | refine t_q (q_convm_u64 Try.runUnderlying3 Try.runUnderlying24 rfl) ?_
      refine t_call Try.call43 (qwNat hS (by omega) (by omega)) rfl ?_
      rintro e w ⟨A23, n23, c23, rfl, hn23, hS⟩
      refine ⟨_, rfl, ?_⟩
      refine t_append_own (size := 1) (bytes := 1) Try.underlying48 (info_of Try.type5) rfl rfl rfl rfl (by decide) hS (.here _ _) (by repeat first | exact .here _ _ | assumption | apply Pick.there) rfl rfl (by first | exact allOne_bv _ | exact allOne_ints _ _ | rfl) (by unfold maxLen; omega) (by omega) (fun A24 c24 w hS => ?_)
      refine t_q (q_as (.slice _ _ _) rfl) ?_
      refine t_nil ?_
      refine c_seq ?_
      refine c_region ?_
      refine t_q (q_mv (.slice _ _ _) rfl) ?_
      refine t_q (q_mv (.pointer _) rfl) ?_
      refine t_q (q_mv (.int _ _) rfl) ?_
      refine t_q (q_nilCheck rfl) ?_
      refine t_q (q_fieldAddr 0 Try.runUnderlying168 rfl Try.sizeOf166 (by decide) rfl rfl) ?_
      first | refine t_q (q_arr_nat Try.runUnderlying166 Try.sizeOf165 rfl rfl (by omega)) ?_ | refine t_q (q_arr Try.runUnderlying166 Try.sizeOf165 rfl rfl (by omega)) ?_
      refine t_q (q_fieldAddr 0 Try.runUnderlying165 rfl Try.sizeOf24 (by decide) rfl rfl) ?_
      refine t_q (q_load1 Try.isAgg24 rfl (hS.cell (by repeat first | exact .here _ _ | assumption | apply Pick.there) (rcs_req (c := ((i : Int) + 1)) (by omega)))) ?_
      refine t_call Try.call43 (qwNat hS (by omega) (by omega)) rfl ?_
      rintro e w ⟨A33, n33, c33, rfl, hn33, hS⟩
      refine ⟨_, rfl, ?_⟩
      refine t_append_own (size := 1) (bytes := 1) Try.underlying48 (info_of Try.type5) rfl rfl rfl rfl (by decide) hS (.here _ _) (by repeat first | exact .here _ _ | assumption | apply Pick.there) rfl rfl (by first | exact allOne_bv _ | exact allOne_ints _ _ | rfl) (by unfold maxLen; omega) (by omega) (fun A34 c34 w hS => ?_)
      refine t_q (q_as (.slice _ _ _) rfl) ?_
      refine t_nil ?_
      refine c_region ?_
      refine t_q (q_mv (.slice _ _ _) rfl) ?_
      refine t_q (q_mv (.pointer _) rfl) ?_
      refine t_q (q_mv (.int _ _) rfl) ?_
      refine t_q (q_nilCheck rfl) ?_
      refine t_q (q_fieldAddr 0 Try.runUnderlying168 rfl Try.sizeOf166 (by decide) rfl rfl) ?_
      first | refine t_q (q_arr_nat Try.runUnderlying166 Try.sizeOf165 rfl rfl (by omega)) ?_ | refine t_q (q_arr Try.runUnderlying166 Try.sizeOf165 rfl rfl (by omega)) ?_
      refine t_q (q_fieldAddr 1 Try.runUnderlying165 rfl Try.sizeOf70 (by decide) rfl rfl) ?_
      refine t_q (q_load1 Try.isAgg70 rfl (hS.cell (by repeat first | exact .here _ _ | assumption | apply Pick.there) (rcs_evs (c := ((i : Int) + 1)) (by omega)))) ?_
      refine t_call Try.call99 (qeput_calls (rps_rd hS (by repeat first | exact .here _ _ | assumption | apply Pick.there) (by omega)) hevi (Nat.le_trans hevl (by decide))) rfl ?_
      rintro e w ⟨A43, m43, c43, rfl, hn43, hT43⟩
      refine ⟨_, rfl, ?_⟩
      have hS : St W w (_ :: _) := hS.lift hT43
      refine t_append_own (size := 1) (bytes := 1) Try.underlying48 (info_of Try.type5) rfl rfl rfl rfl (by decide) hS (.here _ _) (by repeat first | exact .here _ _ | assumption | apply Pick.there) rfl rfl (by first | exact allOne_bv _ | exact allOne_ints _ _ | rfl) (by unfold maxLen; omega) (by omega) (fun A44 c44 w hS => ?_)
      refine t_q (q_as (.slice _ _ _) rfl) ?_
      refine t_nil ?_
      skip
      refine c_region ?_
      refine t_q (q_mv (.int _ _) rfl) ?_
      refine t_q (q_cast (v' := .int .i64 (((i + 1 : Nat) : Int) + 1)) (q_add_i64 rfl rfl (by omega)) (by congr 1)) ?_
      refine t_q (q_as (.int _ _) rfl) ?_
      refine t_nil ?_
      first
        | (refine ⟨k - 1, by omega, i + 1, A44, _, c44, rfl, (by rw [hcn1]; rfl), rfl, by omega, by omega, ?_, ((((hS.pick (A := rdsA _) (by repeat first | exact .here _ _ | assumption | apply Pick.there)).pick (A := blkA g 168 _) (by repeat first | exact .here _ _ | assumption | apply Pick.there)).pick (A := rowA 5 1 A44 _ c44 _) (by repeat first | exact .here _ _ | assumption | apply Pick.there))).recast (congrArg (rowA 5 1 A44 _ c44) ?_)⟩
           · rw [sesP, if_pos hpos, List.length_append, hmm, hn23, hn33, hn43]; simp only [itB, List.length_append]; omega
           · rw [sesP, if_pos hpos]; simp only [itB, List.map_append, List.append_assoc])
        | (refine ⟨k - 1, by omega, i + 1, A', m, c', rfl, (by rw [hcn1]; rfl), rfl, by omega, by omega, ?_, hS.recast (congrArg (rowA 5 1 A' m c') ?_)⟩
           · rw [sesP, if_neg hpos, List.append_nil]; exact hmm
           · rw [sesP, if_neg hpos, List.append_nil])
    · intro hc5
      have hc5d := of_decide_eq_false hc5
      have hpos : ¬ 0 < (T ((i : Int) + 1)).1 := by omega
      have hcn1 : cntK T (i + 1) = cntK T i := by rw [cntK, if_neg hpos, Nat.add_zero]
      refine c_skip ?_
      skip
      refine c_region ?_
      refine t_q (q_mv (.int _ _) rfl) ?_
      refine t_q (q_cast (v' := .int .i64 (((i + 1 : Nat) : Int) + 1)) (q_add_i64 rfl rfl (by omega)) (by congr 1)) ?_
      refine t_q (q_as (.int _ _) rfl) ?_
      refine t_nil ?_
      first
        | (refine ⟨k - 1, by omega, i + 1, A44, _, c44, rfl, (by rw [hcn1]; rfl), rfl, by omega, by omega, ?_, ((((hS.pick (A := rdsA _) (by repeat first | exact .here _ _ | assumption | apply Pick.there)).pick (A := blkA g 168 _) (by repeat first | exact .here _ _ | assumption | apply Pick.there)).pick (A := rowA 5 1 A44 _ c44 _) (by repeat first | exact .here _ _ | assumption | apply Pick.there))).recast (congrArg (rowA 5 1 A44 _ c44) ?_)⟩
           · rw [sesP, if_pos hpos, List.length_append, hmm, hn23, hn33, hn43]; simp only [itB, List.length_append]; omega
           · rw [sesP, if_pos hpos]; simp only [itB, List.map_append, List.append_assoc])
        | (refine ⟨k - 1, by omega, i + 1, A', m, c', rfl, (by rw [hcn1]; rfl), rfl, by omega, by omega, ?_, hS.recast (congrArg (rowA 5 1 A' m c') ?_)⟩
           · rw [sesP, if_neg hpos, List.append_nil]; exact hmm
           · rw [sesP, if_neg hpos, List.append_nil])
  · intro hc2
    have hc2d := of_decide_eq_false hc2
    obtain rfl : i = 8 := by omega
    refine c_exit ?_
    refine ite_t rfl ?_
    refine c_seq ?_
    refine c_region ?_
    refine t_q (q_mv (.int _ _) rfl) ?_
    refine t_call Try.call43 (qwNat hS (by omega) (by omega)) rfl ?_
    rintro e w ⟨A46, n46, c46, rfl, hn46, hS⟩
    refine ⟨_, rfl, ?_⟩
    rw [Int.toNat_natCast] at hS hn46
    refine t_q (q_mv (.slice _ _ _) rfl) ?_
    refine t_append_own (size := 1) (bytes := 1) Try.underlying48 (info_of Try.type5) rfl rfl rfl rfl (by decide) hS (.there (.here _ _)) (by repeat first | exact .here _ _ | assumption | apply Pick.there) rfl rfl (by first | exact allOne_bv _ | exact allOne_ints _ _ | rfl) (by unfold maxLen; omega) (by omega) (fun A48 c48 w hS => ?_)
    refine t_q (q_as (.slice _ _ _) rfl) ?_
    refine t_nil ?_
    refine c_ret ?_
    refine r_one rfl rfl ?_
    exact ⟨_, _, _, rfl, (by rw [hn46, hmm, sesB, List.length_append]), (((((hS.pick (A := rdsA _) (by repeat first | exact .here _ _ | assumption | apply Pick.there)).pick (A := blkA g 168 _) (by repeat first | exact .here _ _ | assumption | apply Pick.there))).unref).pick (A := rowA 5 1 A48 _ c48 _) (by repeat first | exact .here _ _ | assumption | apply Pick.there)).recast (congrArg (rowA 5 1 A48 _ c48) (by rw [sesB, List.map_append]))⟩
set_option maxHeartbeats 2000000 in
set_option maxRecDepth 100000 in
theorem qsread_calls {w : World} {L R : List Asn} {g : Nat} {s : Rs} (hS : St W w L) (pk : Pick L (rdrA W 81 g s) R) :
  Calls Try.prog 117 #[.pointer (some ⟨g, 0, none⟩)] w fun e w' => ∃ p, e = .returned (.tuple #[.pointer p, .bool (sOk s)]) ∧ ((sOk s = true ∧ ∃ gt, p = some ⟨gt, 0, none⟩ ∧ St W w' (rdrA W 81 g (sS s) :: refA gt (sT s) :: R)) ∨ (sOk s = false ∧ p = none ∧ St W w' (rdrA W 81 g s.fail :: R))) := by
  replace hS := hS.pick pk
  clear pk
  have hN := sN_le s
  refine calls_of_wpE (args := [_]) Try.func117 rfl rfl rfl ?_
  refine c_seq ?_
  refine c_region ?_
  refine t_q (q_assign) ?_
  refine t_q (q_assign) ?_
  refine t_nil ?_
  refine c_seq ?_
  refine c_region ?_
  refine t_q (q_build (qs := [(0, 18)]) [(.int _ _), (.slice _ _ _), (.int _ _), (.slice _ _ _), (.int _ _), (.slice _ _ _), (.int _ _), (.slice _ _ _), (.int _ _), (.slice _ _ _), (.int _ _), (.slice _ _ _), (.int _ _), (.slice _ _ _), (.int _ _), (.slice _ _ _), (.int _ _), (.slice _ _ _)] Try.zeroValue168 Try.runUnderlying168 ⟨rfl, Try.sizeOf166, trivial⟩ rfl rfl) ?_
  refine t_box (v := (.agg _)) rfl rfl hS (fun g14 w hS => ?_)
  refine t_q (q_as (.pointer _) rfl) ?_
  refine t_nil ?_
  refine c_seq ?_
  refine c_region ?_
  refine t_q (q_assign) ?_
  refine t_nil ?_
  refine c_seq ?_
  refine c_region ?_
  refine t_q (q_assign) ?_
  refine t_nil ?_
  refine c_seq ?_
  refine c_region ?_
  refine t_q (q_mv (.pointer _) rfl) ?_
  refine t_call Try.call60 (qN8 hS (by repeat first | exact .here _ _ | assumption | apply Pick.there)) rfl ?_
  rintro e w ⟨rfl, hS⟩
  refine ⟨_, rfl, ?_⟩
  refine t_q (q_as (.int _ _) rfl) ?_
  refine t_nil ?_
  refine c_seq ?_
  refine c_seq ?_
  refine c_region ?_
  refine t_q (q_assign) ?_
  refine t_nil ?_
  refine c_block ?_
  refine c_loop [5, 6, 8, 9, 10, 11, 12, 17, 18, 19, 20, 21, 22, 23, 24, 25, 26, 27, 28, 29, 30, 31, 32, 33, 34, 35, 36, 37, 38, 39, 40, 41, 42, 43, 44, 45, 46, 47, 48, 49, 50, 51, 52, 53] (fun k σ w => ∃ (i : Nat) (b : Bool) (last : Int) (x : Rs) (T : Tb), σ 8 = .int .u64 (i : Int) ∧ σ 6 = .bool b ∧ σ 5 = .int .u64 last ∧ i ≤ sN s ∧ sN s - i ≤ k ∧ ((b = true ∧ sAll s i = true ∧ x = (sk s i).s ∧ last = (sk s i).last ∧ T = (sk s i).T) ∨ (b = false ∧ sOk s = false)) ∧ St W w (rdrA W 81 g x :: refA g14 T :: R)) (sN s) rfl (⟨0, true, 0, (sk s 0).s, T0, rfl, rfl, rfl, by omega, by omega, .inl ⟨rfl, rfl, rfl, rfl, rfl⟩, (((hS.pick (A := blkA g14 168 _) (by repeat first | exact .here _ _ | assumption | apply Pick.there)).ref_zero.pick (A := refA g14 T0) (by repeat first | exact .here _ _ | assumption | apply Pick.there)).pick (A := rdrA W 81 g _) (by repeat first | exact .here _ _ | assumption | apply Pick.there))⟩) ?_
  skip
  rintro k σ w ⟨i, b, last, x, T, h8, h6, h5, hi, hk, hb, hS⟩
  refine c_know 8 h8 ?_
  refine c_know 6 h6 ?_
  refine c_know 5 h5 ?_
  clear h8 h6 h5
  refine c_seq ?_
  refine c_seq ?_
  refine c_region ?_
  refine t_q (q_mv (.int _ _) rfl) ?_
  refine t_q (q_mv (.int _ _) rfl) ?_
  refine t_q (q_lss rfl rfl) ?_
  refine t_q (q_mv (.bool _) rfl) ?_
  refine t_case 20 rfl ?_ ?_
  · intro hg3
    have hg3d := of_decide_eq_true hg3
    refine t_yes rfl rfl hg3 ?_
    refine t_q (q_mv (.bool _) rfl) ?_
    refine t_q (q_pick_t rfl hg3) ?_
    refine t_nil ?_
    refine c_cond rfl ?_ ?_
    · intro hc5
      obtain ⟨hall, rfl, rfl, rfl⟩ : sAll s i = true ∧ x = (sk s i).s ∧ last = (sk s i).last ∧ T = (sk s i).T := by
        rcases hb with ⟨_, h⟩ | ⟨hb1, _⟩
        · exact h
        · exact absurd (show b = true by assumption) (by rw [hb1]; decide)
      clear hb
      refine c_skip ?_
      refine c_seq ?_
      refine c_block ?_
      refine c_seq ?_
      refine c_region ?_
      refine t_q (q_mv (.pointer _) rfl) ?_
      refine t_call Try.call60 (qCl (q := (sk s i)) hS (by repeat first | exact .here _ _ | assumption | apply Pick.there)) rfl ?_
      rintro e w ⟨rfl, hS⟩
      refine ⟨_, rfl, ?_⟩
      have hclr := (sk s i).cl_rng
      have hko := sk_ok s i hall
      refine t_q (q_as (.int _ _) rfl) ?_
      refine t_nil ?_
      refine c_seq ?_
      refine c_region ?_
      refine t_q (q_mv (.pointer _) rfl) ?_
      refine t_call Try.call60 (qRq (q := (sk s i)) hS (by repeat first | exact .here _ _ | assumption | apply Pick.there)) rfl ?_
      rintro e w ⟨rfl, hS⟩
      refine ⟨_, rfl, ?_⟩
      have hrqr := (sk s i).rq_rng
      refine t_q (q_as (.int _ _) rfl) ?_
      refine t_nil ?_
      refine c_seq ?_
      refine c_region ?_
      refine t_q (q_mv (.pointer _) rfl) ?_
      refine t_call Try.call102 (qeread_calls hS (by repeat first | exact .here _ _ | assumption | apply Pick.there)) rfl ?_
      rintro e w ⟨A31, m31, c31, rfl, hm31, hS⟩
      refine ⟨_, rfl, ?_⟩
      refine t_q (q_mv (.tuple _) rfl) ?_
      refine t_q (q_extract rfl rfl) ?_
      refine t_q (q_extract rfl rfl) ?_
      refine t_q (q_as (.slice _ _ _) rfl) ?_
      refine t_q (q_as (.bool _) rfl) ?_
      refine t_nil ?_
      refine c_seq ?_
      refine c_region ?_
      refine t_q (q_mv (.bool _) rfl) ?_
      refine t_q (q_mv (.bool _) rfl) ?_
      refine t_case 35 rfl ?_ ?_
      · intro hg11
        refine t_yes rfl rfl hg11 ?_
        refine t_q (q_mv (.int _ _) rfl) ?_
        refine t_yes rfl rfl hg11 ?_
        refine t_q (q_mv (.int _ _) rfl) ?_
        refine t_yes rfl rfl hg11 ?_
        refine t_q (q_gtr rfl rfl) ?_
        refine t_q (q_pick_t rfl hg11) ?_
        refine t_q (q_mv (.bool _) rfl) ?_
        refine t_case 40 rfl ?_ ?_
        · intro hg13
          have hg13d := of_decide_eq_true hg13
          refine t_yes rfl rfl hg13 ?_
          refine t_q (q_mv (.int _ _) rfl) ?_
          refine t_yes rfl rfl hg13 ?_
          refine t_q (q_gtr rfl rfl) ?_
          refine t_q (q_pick_t rfl hg13) ?_
          refine t_q (q_as (.bool _) rfl) ?_
          refine t_nil ?_
          refine c_seq ?_
          refine c_region ?_
          refine t_q (q_mv (.bool _) rfl) ?_
          refine t_nil ?_
          refine c_cond rfl ?_ ?_
          · intro hc15
            have hc15d := of_decide_eq_true hc15
            have hgood : (sk s i).good = true := Sk.good_iff.2 ⟨by assumption, by omega, by first | omega | exact of_decide_eq_true hc15⟩
            refine c_seq ?_
            obtain ⟨sl, hS⟩ := (hS.pick (A := refA g14 _) (by repeat first | exact .here _ _ | assumption | apply Pick.there)).ref
            refine c_region ?_
            refine t_q (q_mv (.pointer _) rfl) ?_
            refine t_q (q_mv (.int _ _) rfl) ?_
            refine t_q (q_mv (.int _ _) rfl) ?_
            refine t_q (q_mv (.slice _ _ _) rfl) ?_
            refine t_q (q_build (qs := [(0, 1), (1, 1)]) [(.int _ _), (.slice _ _ _)] Try.zeroValue165 Try.runUnderlying165 ⟨rfl, Try.sizeOf24, rfl, Try.sizeOf70, trivial⟩ rfl rfl) ?_
            refine t_q (q_nilCheck rfl) ?_
            refine t_q (q_fieldAddr 0 Try.runUnderlying168 rfl Try.sizeOf166 (by decide) rfl rfl) ?_
            first | refine t_q (q_arr_nat Try.runUnderlying166 Try.sizeOf165 rfl rfl (by omega)) ?_ | refine t_q (q_arr Try.runUnderlying166 Try.sizeOf165 rfl rfl (by omega)) ?_
            refine t_store (v := (.agg _)) Try.sizeOf165 hS (by repeat first | exact .here _ _ | assumption | apply Pick.there) rfl rfl rfl rfl rfl (Nat.ble_eq_true_of_le (by rw [rcs_len]; show 0 + (sk s i).cl.toNat * 2 + 2 ≤ 18; omega)) (fun w hS => ?_)
            refine t_nil ?_
            refine c_region ?_
            refine t_q (q_mv (.int _ _) rfl) ?_
            refine t_q (q_as (.int _ _) rfl) ?_
            refine t_nil ?_
            refine c_region ?_
            refine t_q (q_mv (.int _ _) rfl) ?_
            refine t_q (q_add_u64 rfl rfl (by omega)) ?_
            refine t_q (q_as (.int _ _) rfl) ?_
            refine t_nil ?_
            first
              | (replace hS := ((((hS.pick (A := rdsA _) (by repeat first | exact .here _ _ | assumption | apply Pick.there)).pick (A := rowA 130 12 A31 _ c31 _) (by repeat first | exact .here _ _ | assumption | apply Pick.there)).pick (A := blkA g14 168 _) (by repeat first | exact .here _ _ | assumption | apply Pick.there))).ref_set hm31 (by omega)
                 refine ⟨k - 1, by omega, i + 1, _, _, _, _, rfl, rfl, rfl, by omega, by omega, .inl ⟨(show _ = true by assumption), (by rw [sAll_snoc, hall, hgood]; rfl), rfl, rfl, rfl⟩, ((hS.pick (A := refA g14 _) (by repeat first | exact .here _ _ | assumption | apply Pick.there)).pick (A := rdrA W 81 g _) (by repeat first | exact .here _ _ | assumption | apply Pick.there))⟩)
              | (replace hS := (hS.pick (A := rowA 130 12 A31 _ c31 _) (by repeat first | exact .here _ _ | assumption | apply Pick.there)).drop
                 exact ⟨k - 1, by omega, i + 1, _, _, _, _, rfl, rfl, rfl, by omega, by omega, .inr ⟨(show _ = false by first | assumption | rfl), sOk_f2 (by omega) hbad⟩, ((hS.pick (A := refA g14 _) (by repeat first | exact .here _ _ | assumption | apply Pick.there)).pick (A := rdrA W 81 g _) (by repeat first | exact .here _ _ | assumption | apply Pick.there))⟩)
          · intro hc15
            have hc15d := of_decide_eq_false hc15
            have hbad : (sk s i).good = false := by first | exact good_f1 (by assumption) | exact good_f2 (by omega) | exact good_f3 (by omega) | (have := of_decide_eq_false hc15; exact good_f3 (by omega))
            refine c_skip ?_
            refine c_region ?_
            refine t_q (q_mv (.int _ _) rfl) ?_
            refine t_q (q_add_u64 rfl rfl (by omega)) ?_
            refine t_q (q_as (.int _ _) rfl) ?_
            refine t_nil ?_
            first
              | (replace hS := ((((hS.pick (A := rdsA _) (by repeat first | exact .here _ _ | assumption | apply Pick.there)).pick (A := rowA 130 12 A31 _ c31 _) (by repeat first | exact .here _ _ | assumption | apply Pick.there)).pick (A := blkA g14 168 _) (by repeat first | exact .here _ _ | assumption | apply Pick.there))).ref_set hm31 (by omega)
                 refine ⟨k - 1, by omega, i + 1, _, _, _, _, rfl, rfl, rfl, by omega, by omega, .inl ⟨(show _ = true by assumption), (by rw [sAll_snoc, hall, hgood]; rfl), rfl, rfl, rfl⟩, ((hS.pick (A := refA g14 _) (by repeat first | exact .here _ _ | assumption | apply Pick.there)).pick (A := rdrA W 81 g _) (by repeat first | exact .here _ _ | assumption | apply Pick.there))⟩)
              | (replace hS := (hS.pick (A := rowA 130 12 A31 _ c31 _) (by repeat first | exact .here _ _ | assumption | apply Pick.there)).drop
                 exact ⟨k - 1, by omega, i + 1, _, _, _, _, rfl, rfl, rfl, by omega, by omega, .inr ⟨(show _ = false by first | assumption | rfl), sOk_f2 (by omega) hbad⟩, ((hS.pick (A := refA g14 _) (by repeat first | exact .here _ _ | assumption | apply Pick.there)).pick (A := rdrA W 81 g _) (by repeat first | exact .here _ _ | assumption | apply Pick.there))⟩)
        · intro hg13
          have hg13d := of_decide_eq_false hg13
          refine t_no rfl rfl (by rw [hg13]; decide) ?_
          refine t_no rfl rfl (by rw [hg13]; decide) ?_
          refine t_q (q_pick_f rfl hg13) ?_
          refine t_q (q_as (.bool _) rfl) ?_
          refine t_nil ?_
          refine c_seq ?_
          refine c_region ?_
          refine t_q (q_mv (.bool _) rfl) ?_
          refine t_nil ?_
          refine c_cond_f rfl rfl ?_
          have hbad : (sk s i).good = false := by first | exact good_f1 (by assumption) | exact good_f2 (by omega) | exact good_f3 (by omega) | (have := of_decide_eq_false rfl; exact good_f3 (by omega))
          refine c_skip ?_
          refine c_region ?_
          refine t_q (q_mv (.int _ _) rfl) ?_
          refine t_q (q_add_u64 rfl rfl (by omega)) ?_
          refine t_q (q_as (.int _ _) rfl) ?_
          refine t_nil ?_
          first
            | (replace hS := ((((hS.pick (A := rdsA _) (by repeat first | exact .here _ _ | assumption | apply Pick.there)).pick (A := rowA 130 12 A31 _ c31 _) (by repeat first | exact .here _ _ | assumption | apply Pick.there)).pick (A := blkA g14 168 _) (by repeat first | exact .here _ _ | assumption | apply Pick.there))).ref_set hm31 (by omega)
               refine ⟨k - 1, by omega, i + 1, _, _, _, _, rfl, rfl, rfl, by omega, by omega, .inl ⟨(show _ = true by assumption), (by rw [sAll_snoc, hall, hgood]; rfl), rfl, rfl, rfl⟩, ((hS.pick (A := refA g14 _) (by repeat first | exact .here _ _ | assumption | apply Pick.there)).pick (A := rdrA W 81 g _) (by repeat first | exact .here _ _ | assumption | apply Pick.there))⟩)
            | (replace hS := (hS.pick (A := rowA 130 12 A31 _ c31 _) (by repeat first | exact .here _ _ | assumption | apply Pick.there)).drop
               exact ⟨k - 1, by omega, i + 1, _, _, _, _, rfl, rfl, rfl, by omega, by omega, .inr ⟨(show _ = false by first | assumption | rfl), sOk_f2 (by omega) hbad⟩, ((hS.pick (A := refA g14 _) (by repeat first | exact .here _ _ | assumption | apply Pick.there)).pick (A := rdrA W 81 g _) (by repeat first | exact .here _ _ | assumption | apply Pick.there))⟩)
      · intro hg11
        refine t_no rfl rfl (by rw [hg11]; decide) ?_
        refine t_no rfl rfl (by rw [hg11]; decide) ?_
        refine t_no rfl rfl (by rw [hg11]; decide) ?_
        refine t_q (q_pick_f rfl hg11) ?_
        refine t_q (q_mv (.bool _) rfl) ?_
        refine t_no rfl rfl (by decide) ?_
        refine t_no rfl rfl (by decide) ?_
        refine t_q (q_pick_f rfl rfl) ?_
        refine t_q (q_as (.bool _) rfl) ?_
        refine t_nil ?_
        refine c_seq ?_
        refine c_region ?_
        refine t_q (q_mv (.bool _) rfl) ?_
        refine t_nil ?_
        refine c_cond_f rfl rfl ?_
        have hbad : (sk s i).good = false := by first | exact good_f1 (by assumption) | exact good_f2 (by omega) | exact good_f3 (by omega) | (have := of_decide_eq_false rfl; exact good_f3 (by omega))
        refine c_skip ?_
        refine c_region ?_
        refine t_q (q_mv (.int _ _) rfl) ?_
        refine t_q (q_add_u64 rfl rfl (by omega)) ?_
        refine t_q (q_as (.int _ _) rfl) ?_
        refine t_nil ?_
        first
          | (replace hS := ((((hS.pick (A := rdsA _) (by repeat first | exact .here _ _ | assumption | apply Pick.there)).pick (A := rowA 130 12 A31 _ c31 _) (by repeat first | exact .here _ _ | assumption | apply Pick.there)).pick (A := blkA g14 168 _) (by repeat first | exact .here _ _ | assumption | apply Pick.there))).ref_set hm31 (by omega)
             refine ⟨k - 1, by omega, i + 1, _, _, _, _, rfl, rfl, rfl, by omega, by omega, .inl ⟨(show _ = true by assumption), (by rw [sAll_snoc, hall, hgood]; rfl), rfl, rfl, rfl⟩, ((hS.pick (A := refA g14 _) (by repeat first | exact .here _ _ | assumption | apply Pick.there)).pick (A := rdrA W 81 g _) (by repeat first | exact .here _ _ | assumption | apply Pick.there))⟩)
          | (replace hS := (hS.pick (A := rowA 130 12 A31 _ c31 _) (by repeat first | exact .here _ _ | assumption | apply Pick.there)).drop
             exact ⟨k - 1, by omega, i + 1, _, _, _, _, rfl, rfl, rfl, by omega, by omega, .inr ⟨(show _ = false by first | assumption | rfl), sOk_f2 (by omega) hbad⟩, ((hS.pick (A := refA g14 _) (by repeat first | exact .here _ _ | assumption | apply Pick.there)).pick (A := rdrA W 81 g _) (by repeat first | exact .here _ _ | assumption | apply Pick.there))⟩)
    · intro hc5
      have hend : i = sN s ∨ b = false := by first | exact .inl (by omega) | exact .inr (by assumption)
      refine c_exit ?_
      refine ite_t rfl ?_
      refine c_seq ?_
      refine c_seq ?_
      obtain ⟨Ar, cr, hRr, hcr, hS⟩ := hS.rdr
      refine c_region ?_
      refine t_q (q_mv (.pointer _) rfl) ?_
      refine t_q (q_nilCheck rfl) ?_
      refine t_q (q_fieldAddr 1 Try.runUnderlying81 rfl Try.sizeOf4 (by decide) rfl rfl) ?_
      refine t_q (q_load1 Try.isAgg4 rfl (hS.cell (by repeat first | exact .here _ _ | assumption | apply Pick.there) rfl)) ?_
      refine t_q (q_mv (.bool _) rfl) ?_
      refine t_case 58 rfl ?_ ?_
      · intro hg18
        refine t_no rfl rfl (by rw [hg18]; decide) ?_
        refine t_no rfl rfl (by rw [hg18]; decide) ?_
        refine t_q (q_pick_t rfl hg18) ?_
        refine t_nil ?_
        refine c_cond_t rfl rfl ?_
        have hfin : sOk s = false := by
          rcases hb with ⟨hb1, hall, rfl, rfl, rfl⟩ | ⟨_, h⟩
          · rcases hend with rfl | h2
            · first
                | exact sOk_f1 (by assumption)
                | exact absurd (show b = false by simpa using rfl) (by rw [hb1]; decide)
            · rw [hb1] at h2; cases h2
          · exact h
        refine c_seq ?_
        refine c_region ?_
        refine t_q (q_mv (.pointer _) rfl) ?_
        refine t_call Try.call68 (qFail (hS.unrdr rfl rfl hRr hcr) (.here _ _)) rfl ?_
        rintro e w ⟨rfl, hS⟩
        refine ⟨_, rfl, ?_⟩
        refine t_nil ?_
        refine c_seq ?_
        refine c_region ?_
        refine t_q (q_assign) ?_
        refine t_q (q_assign) ?_
        refine t_nil ?_
        refine c_ret ?_
        refine r_two rfl rfl rfl ?_
        first
          | (obtain ⟨h1, rfl, rfl⟩ := hfin
             obtain ⟨e1, e2, _, _⟩ := sOk_yes h1
             rw [h1, e1, e2]
             exact ⟨_, rfl, .inl ⟨rfl, g14, rfl, hS.unrdr rfl rfl hRr hcr⟩⟩)
          | (rw [hfin]
             exact ⟨none, rfl, .inr ⟨rfl, rfl, (hS.pick (A := refA g14 _) (by repeat first | exact .here _ _ | assumption | apply Pick.there)).drop⟩⟩)
      · intro hg18
        refine t_yes rfl rfl hg18 ?_
        refine t_q (q_mv (.bool _) rfl) ?_
        refine t_yes rfl rfl hg18 ?_
        refine t_q (q_not rfl) ?_
        refine t_q (q_pick_f rfl hg18) ?_
        refine t_nil ?_
        refine c_cond_t rfl (congrArg not hc5) ?_
        have hfin : sOk s = false := by
          rcases hb with ⟨hb1, hall, rfl, rfl, rfl⟩ | ⟨_, h⟩
          · rcases hend with rfl | h2
            · first
                | exact sOk_f1 (by assumption)
                | exact absurd (show b = false by simpa using (congrArg not hc5)) (by rw [hb1]; decide)
            · rw [hb1] at h2; cases h2
          · exact h
        refine c_seq ?_
        refine c_region ?_
        refine t_q (q_mv (.pointer _) rfl) ?_
        refine t_call Try.call68 (qFail (hS.unrdr rfl rfl hRr hcr) (.here _ _)) rfl ?_
        rintro e w ⟨rfl, hS⟩
        refine ⟨_, rfl, ?_⟩
        refine t_nil ?_
        refine c_seq ?_
        refine c_region ?_
        refine t_q (q_assign) ?_
        refine t_q (q_assign) ?_
        refine t_nil ?_
        refine c_ret ?_
        refine r_two rfl rfl rfl ?_
        first
          | (obtain ⟨h1, rfl, rfl⟩ := hfin
             obtain ⟨e1, e2, _, _⟩ := sOk_yes h1
             rw [h1, e1, e2]
             exact ⟨_, rfl, .inl ⟨rfl, g14, rfl, hS.unrdr rfl rfl hRr hcr⟩⟩)
          | (rw [hfin]
             exact ⟨none, rfl, .inr ⟨rfl, rfl, (hS.pick (A := refA g14 _) (by repeat first | exact .here _ _ | assumption | apply Pick.there)).drop⟩⟩)
  · intro hg3
    have hg3d := of_decide_eq_false hg3
    refine t_no rfl rfl (by rw [hg3]; decide) ?_
    refine t_q (q_pick_f rfl hg3) ?_
    refine t_nil ?_
    refine c_cond_f rfl rfl ?_
    have hend : i = sN s ∨ b = false := by first | exact .inl (by omega) | exact .inr (by assumption)
    refine c_exit ?_
    refine ite_t rfl ?_
    refine c_seq ?_
    refine c_seq ?_
    obtain ⟨Ar, cr, hRr, hcr, hS⟩ := hS.rdr
    refine c_region ?_
    refine t_q (q_mv (.pointer _) rfl) ?_
    refine t_q (q_nilCheck rfl) ?_
    refine t_q (q_fieldAddr 1 Try.runUnderlying81 rfl Try.sizeOf4 (by decide) rfl rfl) ?_
    refine t_q (q_load1 Try.isAgg4 rfl (hS.cell (by repeat first | exact .here _ _ | assumption | apply Pick.there) rfl)) ?_
    refine t_q (q_mv (.bool _) rfl) ?_
    refine t_case 58 rfl ?_ ?_
    · intro hg22
      refine t_no rfl rfl (by rw [hg22]; decide) ?_
      refine t_no rfl rfl (by rw [hg22]; decide) ?_
      refine t_q (q_pick_t rfl hg22) ?_
      refine t_nil ?_
      refine c_cond_t rfl rfl ?_
      have hfin : sOk s = false := by
        rcases hb with ⟨hb1, hall, rfl, rfl, rfl⟩ | ⟨_, h⟩
        · rcases hend with rfl | h2
          · first
              | exact sOk_f1 (by assumption)
              | exact absurd (show b = false by simpa using rfl) (by rw [hb1]; decide)
          · rw [hb1] at h2; cases h2
        · exact h
      refine c_seq ?_
      refine c_region ?_
      refine t_q (q_mv (.pointer _) rfl) ?_
      refine t_call Try.call68 (qFail (hS.unrdr rfl rfl hRr hcr) (.here _ _)) rfl ?_
      rintro e w ⟨rfl, hS⟩
      refine ⟨_, rfl, ?_⟩
      refine t_nil ?_
      refine c_seq ?_
      refine c_region ?_
      refine t_q (q_assign) ?_
      refine t_q (q_assign) ?_
      refine t_nil ?_
      refine c_ret ?_
      refine r_two rfl rfl rfl ?_
      first
        | (obtain ⟨h1, rfl, rfl⟩ := hfin
           obtain ⟨e1, e2, _, _⟩ := sOk_yes h1
           rw [h1, e1, e2]
           exact ⟨_, rfl, .inl ⟨rfl, g14, rfl, hS.unrdr rfl rfl hRr hcr⟩⟩)
        | (rw [hfin]
           exact ⟨none, rfl, .inr ⟨rfl, rfl, (hS.pick (A := refA g14 _) (by repeat first | exact .here _ _ | assumption | apply Pick.there)).drop⟩⟩)
    · intro hg22
      refine t_yes rfl rfl hg22 ?_
      refine t_q (q_mv (.bool _) rfl) ?_
      refine t_yes rfl rfl hg22 ?_
      refine t_q (q_not rfl) ?_
      refine t_q (q_pick_f rfl hg22) ?_
      refine t_nil ?_
      refine c_cond rfl ?_ ?_
      · intro hc25
        have hfin : sOk s = false := by
          rcases hb with ⟨hb1, hall, rfl, rfl, rfl⟩ | ⟨_, h⟩
          · rcases hend with rfl | h2
            · first
                | exact sOk_f1 (by assumption)
                | exact absurd (show b = false by simpa using hc25) (by rw [hb1]; decide)
            · rw [hb1] at h2; cases h2
          · exact h
        refine c_seq ?_
        refine c_region ?_
        refine t_q (q_mv (.pointer _) rfl) ?_
        refine t_call Try.call68 (qFail (hS.unrdr rfl rfl hRr hcr) (.here _ _)) rfl ?_
        rintro e w ⟨rfl, hS⟩
        refine ⟨_, rfl, ?_⟩
        refine t_nil ?_
        refine c_seq ?_
        refine c_region ?_
        refine t_q (q_assign) ?_
        refine t_q (q_assign) ?_
        refine t_nil ?_
        refine c_ret ?_
        refine r_two rfl rfl rfl ?_
        first
          | (obtain ⟨h1, rfl, rfl⟩ := hfin
             obtain ⟨e1, e2, _, _⟩ := sOk_yes h1
             rw [h1, e1, e2]
             exact ⟨_, rfl, .inl ⟨rfl, g14, rfl, hS.unrdr rfl rfl hRr hcr⟩⟩)
          | (rw [hfin]
             exact ⟨none, rfl, .inr ⟨rfl, rfl, (hS.pick (A := refA g14 _) (by repeat first | exact .here _ _ | assumption | apply Pick.there)).drop⟩⟩)
      · intro hc25
        have hfin : sOk s = true ∧ x = (sk s (sN s)).s ∧ T = (sk s (sN s)).T := by
          rcases hb with ⟨hb1, hall, rfl, rfl, rfl⟩ | ⟨hb1, _⟩
          · rcases hend with rfl | h2
            · exact ⟨sOk_t (by assumption) hall, rfl, rfl⟩
            · rw [hb1] at h2; cases h2
          · exact absurd (show b = true by simpa using hc25) (by rw [hb1]; decide)
        refine c_skip ?_
        refine c_seq ?_
        refine c_region ?_
        refine t_q (q_mv (.pointer _) rfl) ?_
        refine t_q (q_as (.pointer _) rfl) ?_
        refine t_q (q_assign) ?_
        refine t_nil ?_
        refine c_ret ?_
        refine r_two rfl rfl rfl ?_
        first
          | (obtain ⟨h1, rfl, rfl⟩ := hfin
             obtain ⟨e1, e2, _, _⟩ := sOk_yes h1
             rw [h1, e1, e2]
             exact ⟨_, rfl, .inl ⟨rfl, g14, rfl, hS.unrdr rfl rfl hRr hcr⟩⟩)
          | (rw [hfin]
             exact ⟨none, rfl, .inr ⟨rfl, rfl, (hS.pick (A := refA g14 _) (by repeat first | exact .here _ _ | assumption | apply Pick.there)).drop⟩⟩)
end Go.Proofs.Ytcikoealneldkaa
