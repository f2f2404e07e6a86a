/- What any two files have is the document's; what is opened of them is the newest one: the walk. -/
import Derived.Test.YtlppgpidakfnlaaAu
namespace Go.Proofs.Ytlppgpidakfnlaa
open Go Go.RowKit Go.Lib
variable {W : World}
/-- behind two files that were written: what is opened of them -/
theorem ap_gone {d : Dk} {i c : Int} {F : Nat → List UInt8 × Nat} (hg : d.gone = false) (hf : d.fuse < 0) : (apD d i c F).gone = false ∧ (apD d i c F).fuse = d.fuse := by
  obtain ⟨b1, b2, _, _⟩ := blow_ok hg hf
  unfold apD
  split
  · exact ⟨hg, rfl⟩
  · exact ⟨b1, b2⟩
theorem apE_zero {F : Nat → List UInt8 × Nat} {i m : Nat} (h : (F i).1.length + m ≤ 1048576) : apE F i m = 0 := by unfold apE; rw [if_neg (by omega)]
def tlD (a b : List UInt8) (n : Int) : Dk := if n < 31 then apD (apD D0 n (apE D0.F n.toNat a.length) (apF D0.F n.toNat a)) (n + 1) (apE (apD D0 n (apE D0.F n.toNat a.length) (apF D0.F n.toNat a)).F (n + 1).toNat b.length) (apF (apD D0 n (apE D0.F n.toNat a.length) (apF D0.F n.toNat a)).F (n + 1).toNat b) else apD D0 n (apE D0.F n.toNat a.length) (apF D0.F n.toNat a)
theorem tlD_ok {a b : List UInt8} {n : Int} : DGood (tlD a b n) ∧ (tlD a b n).gone = false ∧ (tlD a b n).fuse = -1 ∧ (tlD a b n).calls ≤ 2 := by
  have h1 : DGood (apD D0 n (apE D0.F n.toNat a.length) (apF D0.F n.toNat a)) := DGood.zero.ap
  obtain ⟨g1, f1⟩ := ap_gone (i := n) (c := apE D0.F n.toNat a.length) (F := apF D0.F n.toNat a) D0_ok.2.1 D0_ok.2.2
  have c1 : (apD D0 n (apE D0.F n.toNat a.length) (apF D0.F n.toNat a)).calls ≤ D0.calls + 1 := ap_cal
  have c0 : D0.calls = 0 := rfl
  have f0 : D0.fuse = -1 := rfl
  unfold tlD
  split
  · obtain ⟨g2, f2⟩ := ap_gone (i := n + 1) (c := apE (apD D0 n (apE D0.F n.toNat a.length) (apF D0.F n.toNat a)).F (n + 1).toNat b.length) (F := apF (apD D0 n (apE D0.F n.toNat a.length) (apF D0.F n.toNat a)).F (n + 1).toNat b) g1 (by omega)
    have c2 := ap_cal (d := apD D0 n (apE D0.F n.toNat a.length) (apF D0.F n.toNat a)) (i := n + 1) (c := apE (apD D0 n (apE D0.F n.toNat a.length) (apF D0.F n.toNat a)).F (n + 1).toNat b.length) (F := apF (apD D0 n (apE D0.F n.toNat a.length) (apF D0.F n.toNat a)).F (n + 1).toNat b)
    exact ⟨h1.ap, g2, by omega, by omega⟩
  · exact ⟨h1, g1, by omega, by omega⟩
theorem tlD_F {a b : List UInt8} {n : Nat} (hn : n ≤ 30) (ha : a.length ≤ 5000) (hb : b.length ≤ 5000) : ((tlD a b (n : Int)).F n).1 = a ∧ ((tlD a b (n : Int)).F (n + 1)).1 = b := by
  have e0 : apE D0.F n a.length = 0 := by unfold apE; rw [if_neg]; show ¬ 1048576 < 0 + a.length; omega
  obtain ⟨_, F1, g1, u1⟩ := ap_run (d := D0) (i := (n : Int)) (c := apE D0.F n a.length) (F := apF D0.F n a) e0 rfl D0_ok.2.2 (by omega)
  have k1 : (apF D0.F n a) n = (a, 0) := by unfold apF; rw [updF_at]; rfl
  have k2 : (apF D0.F n a) (n + 1) = ([], 0) := by unfold apF; rw [updF_ne (by omega)]; rfl
  unfold tlD
  rw [if_pos (by omega), show ((n : Int)).toNat = n by omega, show ((n : Int) + 1).toNat = n + 1 by omega]
  have e1 : apE (apD D0 (n : Int) (apE D0.F n a.length) (apF D0.F n a)).F (n + 1) b.length = 0 := apE_zero (by
    rw [F1, k2]
    show 0 + b.length ≤ _
    omega)
  obtain ⟨_, F2, _, _⟩ := ap_run (d := apD D0 (n : Int) (apE D0.F n a.length) (apF D0.F n a)) (i := (n : Int) + 1) (c := apE (apD D0 (n : Int) (apE D0.F n a.length) (apF D0.F n a)).F (n + 1) b.length) (F := apF (apD D0 (n : Int) (apE D0.F n a.length) (apF D0.F n a)).F (n + 1) b) e1 g1 (by rw [u1]; exact D0_ok.2.2) (by omega)
  rw [F2]
  unfold apF
  rw [updF_ne (by omega), updF_at]
  refine ⟨?_, ?_⟩
  · have h := congrFun F1 n
    unfold apF at h k1
    rw [h, k1]
  · have h := congrFun F1 (n + 1)
    unfold apF at h k2
    show (_ ++ b) = b
    rw [h, k2]
    rfl
/-- what counts, of any two files -/
theorem opC_any {d : Dk} {n : Nat} : ((tel (d.F n).1).isSome = true ∧ ((tel (d.F (n + 1)).1).isSome = false ∨ (telS (d.F (n + 1)).1).i ≤ (telS (d.F n).1).i) ∧ opC d n 2 = (0, telS (d.F n).1)) ∨
    ((tel (d.F (n + 1)).1).isSome = true ∧ ((tel (d.F n).1).isSome = false ∨ (telS (d.F n).1).i < (telS (d.F (n + 1)).1).i) ∧ opC d n 2 = (1, telS (d.F (n + 1)).1)) ∨
    ((tel (d.F n).1).isSome = false ∧ (tel (d.F (n + 1)).1).isSome = false ∧ opC d n 2 = (-1, sn0)) := by
  cases h0 : tel (d.F n).1 with
  | none =>
    cases h1 : tel (d.F (n + 1)).1 with
    | none => exact .inr (.inr ⟨rfl, rfl, opC_nn h0 h1⟩)
    | some b => exact .inr (.inl ⟨rfl, .inl rfl, by rw [opC_ns h0 h1, telS_some h1]⟩)
  | some a =>
    cases h1 : tel (d.F (n + 1)).1 with
    | none => exact .inl ⟨rfl, .inl rfl, by rw [opC_sn h0 h1, telS_some h0]⟩
    | some b =>
      rcases Nat.lt_or_ge a.i b.i with h | h
      · exact .inr (.inl ⟨rfl, .inr (by rw [telS_some h0, telS_some h1]; exact h), by rw [opC_lt h0 h1 h, telS_some h1]⟩)
      · exact .inl ⟨rfl, .inr (by rw [telS_some h0, telS_some h1]; exact h), by rw [opC_ge h0 h1 h, telS_some h0]⟩
theorem tl_len {bs : List UInt8} : (telS bs).b.length ≤ 524288 := by
  unfold telS
  cases h : tel bs with
  | none => exact Nat.zero_le _
  | some s =>
    show s.b.length ≤ _
    unfold tel at h
    split at h
    · cases h2 : telP (bs.drop (tkN bs)) (telN bs) with
      | none => rw [h2] at h; cases h
      | some b =>
        rw [h2] at h
        injection h with h
        subst h
        have key : ∀ (m left : Nat) (bs b : List UInt8), left ≤ m → telP bs left = some b → b.length = left := by
          intro m
          induction m with
          | zero =>
            intro left bs b hl hh
            obtain rfl : left = 0 := by omega
            rw [telP_0] at hh
            injection hh with hh
            subst hh; rfl
          | succ m ih =>
            intro left bs b hl hh
            by_cases h0 : left = 0
            · subst h0
              rw [telP_0] at hh
              injection hh with hh
              subst hh; rfl
            · by_cases hp : tkE bs = 0 ∧ tkK bs = 6 ∧ (tkL bs).length = min left 1024
              · rw [telP_yes h0 hp] at hh
                cases hq : telP (bs.drop (tkN bs)) (left - (tkL bs).length) with
                | none => rw [hq] at hh; cases hh
                | some c =>
                  rw [hq] at hh
                  injection hh with hh
                  subst hh
                  have := ih _ _ _ (by omega) hq
                  rw [List.length_append]
                  omega
              · rw [telP_no h0 hp] at hh; cases hh
        have := key (telN bs) (telN bs) _ b (Nat.le_refl _) h2
        have h3 := telN_le bs
        show b.length ≤ _
        omega
    · cases h
attribute [local irreducible] blkA rowA rdrA rdO dskA arA
set_option maxHeartbeats 4000000 in
set_option maxRecDepth 100000 in
theorem ArchiveTells_in {Aa Ab : Option Addr} {ca cb : Nat} {a b : List UInt8} {n : Nat} (ha : RdB W Aa a) (hb : RdB W Ab b) (hac : a.length ≤ ca) (hbc : b.length ≤ cb) (hab : a.length ≤ 9223372036854775807 ∧ b.length ≤ 9223372036854775807) (hn : n ≤ 30) : Calls Try.prog 8 #[.slice Aa a.length ca, .slice Ab b.length cb, .int .i64 (n : Int)] W fun e w' => e = .returned (.bool true) ∧ St W w' [] := by
  have hS := St.init W
  refine calls_of_wpE (args := [_, _, _]) Try.func8 rfl rfl rfl ?_
  refine c_seq ?_
  refine c_region ?_
  refine t_q (q_assign) ?_
  refine t_nil ?_
  refine c_seq ?_
  refine c_seq ?_
  refine c_region ?_
  refine t_q (q_mv (.slice _ _ _) rfl) ?_
  refine t_q (q_len_slice Try.runUnderlying25 rfl) ?_
  refine t_q (q_gtr rfl rfl) ?_
  refine t_q (q_mv (.bool _) rfl) ?_
  refine t_case 21 rfl ?_ ?_
  · intro hg2
    have hg2d := of_decide_eq_true hg2
    refine t_no rfl rfl (by rw [hg2]; decide) ?_
    refine t_no rfl rfl (by rw [hg2]; decide) ?_
    refine t_no rfl rfl (by rw [hg2]; decide) ?_
    refine t_q (q_pick_t rfl hg2) ?_
    refine t_nil ?_
    refine c_cond_t rfl rfl ?_
    refine c_seq ?_
    refine c_region ?_
    refine t_call Try.call26 (alives_calls) rfl ?_
    rintro e w ⟨rfl, hT⟩
    refine ⟨_, rfl, ?_⟩
    replace hS := hS.after hT
    refine t_q (q_as (.bool _) rfl) ?_
    refine t_nil ?_
    refine c_ret ?_
    refine r_one rfl rfl ?_
    exact ⟨rfl, hS.nil⟩
  · intro hg2
    have hg2d := of_decide_eq_false hg2
    refine t_yes rfl rfl hg2 ?_
    refine t_q (q_mv (.slice _ _ _) rfl) ?_
    refine t_yes rfl rfl hg2 ?_
    refine t_q (q_len_slice Try.runUnderlying25 rfl) ?_
    refine t_yes rfl rfl hg2 ?_
    refine t_q (q_gtr rfl rfl) ?_
    refine t_q (q_pick_f rfl hg2) ?_
    refine t_nil ?_
    refine c_cond rfl ?_ ?_
    · intro hc5
      have hc5d := of_decide_eq_true hc5
      refine c_seq ?_
      refine c_region ?_
      refine t_call Try.call26 (alives_calls) rfl ?_
      rintro e w ⟨rfl, hT⟩
      refine ⟨_, rfl, ?_⟩
      replace hS := hS.after hT
      refine t_q (q_as (.bool _) rfl) ?_
      refine t_nil ?_
      refine c_ret ?_
      refine r_one rfl rfl ?_
      exact ⟨rfl, hS.nil⟩
    · intro hc5
      have hc5d := of_decide_eq_false hc5
      refine c_skip ?_
      refine c_seq ?_
      refine c_region ?_
      refine t_q (q_mv (.slice _ _ _) rfl) ?_
      refine t_call Try.call29 (atell_calls (bs := a) (Rd.st ha hS) ⟨hac, by omega⟩) rfl ?_
      rintro e w ⟨A29, c29, rfl, hT⟩
      refine ⟨_, rfl, ?_⟩
      have hS : St W w (_ :: _) := hS.lift hT
      refine t_q (q_mv (.tuple _) rfl) ?_
      refine t_q (q_extract rfl rfl) ?_
      refine t_q (q_extract rfl rfl) ?_
      refine t_alloc Try.zeroValue45 rfl hS (fun g7 w hS => ?_)
      refine t_store (v := (.agg _)) Try.sizeOf45 hS (by repeat first | exact .here _ _ | assumption | apply Pick.there) rfl rfl rfl rfl rfl rfl (fun w hS => ?_)
      replace hS := hS.recast (show blkA g7 45 _ = blkA g7 45 [.int .u64 ((telS a).i : Int), .int .u64 ((telS a).t : Int), .slice A29 (telS a).b.length c29] from rfl)
      refine t_q (q_as (.bool _) rfl) ?_
      refine t_nil ?_
      refine c_seq ?_
      refine c_region ?_
      refine t_q (q_mv (.slice _ _ _) rfl) ?_
      refine t_call Try.call38 (qatell_calls (bs := a) (Rd.st ha hS) ⟨hac, by omega⟩) rfl ?_
      rintro e w ⟨A34, c34, rfl, hT⟩
      refine ⟨_, rfl, ?_⟩
      have hS : St W w (_ :: _) := hS.lift hT
      refine t_q (q_mv (.tuple _) rfl) ?_
      refine t_q (q_extract rfl rfl) ?_
      refine t_q (q_extract rfl rfl) ?_
      refine t_alloc Try.zeroValue50 rfl hS (fun g9 w hS => ?_)
      refine t_store (v := (.agg _)) Try.sizeOf50 hS (by repeat first | exact .here _ _ | assumption | apply Pick.there) rfl rfl rfl rfl rfl rfl (fun w hS => ?_)
      replace hS := hS.recast (show blkA g9 50 _ = blkA g9 50 [.int .u64 ((telS a).i : Int), .int .u64 ((telS a).t : Int), .slice A34 (telS a).b.length c34] from rfl)
      refine t_q (q_as (.bool _) rfl) ?_
      refine t_nil ?_
      refine c_seq ?_
      refine c_region ?_
      refine t_q (q_mv (.slice _ _ _) rfl) ?_
      refine t_call Try.call38 (qatell_calls (bs := b) (Rd.st hb hS) ⟨hbc, by omega⟩) rfl ?_
      rintro e w ⟨A39, c39, rfl, hT⟩
      refine ⟨_, rfl, ?_⟩
      have hS : St W w (_ :: _) := hS.lift hT
      refine t_q (q_mv (.tuple _) rfl) ?_
      refine t_q (q_extract rfl rfl) ?_
      refine t_q (q_extract rfl rfl) ?_
      refine t_alloc Try.zeroValue50 rfl hS (fun g11 w hS => ?_)
      refine t_store (v := (.agg _)) Try.sizeOf50 hS (by repeat first | exact .here _ _ | assumption | apply Pick.there) rfl rfl rfl rfl rfl rfl (fun w hS => ?_)
      replace hS := hS.recast (show blkA g11 50 _ = blkA g11 50 [.int .u64 ((telS b).i : Int), .int .u64 ((telS b).t : Int), .slice A39 (telS b).b.length c39] from rfl)
      refine t_q (q_as (.bool _) rfl) ?_
      refine t_nil ?_
      refine c_seq ?_
      refine c_seq ?_
      refine c_region ?_
      refine t_q (q_mv (.bool _) rfl) ?_
      refine t_q (q_mv (.bool _) rfl) ?_
      refine t_q (q_cast (v' := .bool false) (q_neq_bool Try.runUnderlying4 rfl rfl) (by simp)) ?_
      refine t_q (q_mv (.bool _) rfl) ?_
      refine t_yes rfl rfl rfl ?_
      refine t_q (q_load_blk Try.isAgg45 Try.sizeOf45 rfl (hS.blk (by repeat first | exact .here _ _ | assumption | apply Pick.there)) rfl) ?_
      refine t_yes rfl rfl rfl ?_
      refine t_q (q_load_blk Try.isAgg50 Try.sizeOf50 rfl (hS.blk (by repeat first | exact .here _ _ | assumption | apply Pick.there)) rfl) ?_
      refine t_yes rfl rfl rfl ?_
      refine t_call Try.call30 (asame_calls (a := (telS a).b) (b := (telS a).b) (hS.rowRd (A := A29) (c := c29) (bs := (telS a).b) (by repeat first | exact .here _ _ | assumption | apply Pick.there) rfl) (hS.rowRd (A := A34) (c := c34) (bs := (telS a).b) (by repeat first | exact .here _ _ | assumption | apply Pick.there) rfl)) rfl ?_
      rintro e w ⟨rfl, hT⟩
      refine ⟨_, rfl, ?_⟩
      replace hS := hS.after hT
      rw [show decide (((telS a).i : Int) = ((telS a).i : Int) ∧ ((telS a).t : Int) = ((telS a).t : Int) ∧ (telS a).b = (telS a).b) = true from decide_eq_true ⟨rfl, rfl, rfl⟩]
      refine t_yes rfl rfl rfl ?_
      refine t_q (q_cast (v' := .bool false) (q_not rfl) (by rfl)) ?_
      refine t_q (q_pick_f rfl rfl) ?_
      refine t_nil ?_
      refine c_cond_f rfl rfl ?_
      refine c_skip ?_
      refine c_seq ?_
      refine c_region ?_
      refine t_call Try.call32 (dnew_calls hS) rfl ?_
      rintro e w ⟨gd, rfl, hS⟩
      refine ⟨_, rfl, ?_⟩
      refine t_q (q_as (.pointer _) rfl) ?_
      refine t_nil ?_
      refine c_seq ?_
      refine c_region ?_
      refine t_q (q_mv (.pointer _) rfl) ?_
      refine t_q (q_mv (.int _ _) rfl) ?_
      refine t_q (q_mv (.slice _ _ _) rfl) ?_
      refine t_call Try.call39 (app_calls (d := D0) (i := (n : Int)) (ys := a) hS (by repeat first | exact .here _ _ | assumption | apply Pick.there) DGood.zero (by decide) (fun w h => Rd.st ha h) rfl (by omega)) rfl ?_
      rintro e w ⟨rfl, hS⟩
      refine ⟨_, rfl, ?_⟩
      refine t_nil ?_
      refine c_seq ?_
      refine c_seq ?_
      refine c_region ?_
      refine t_q (q_mv (.int _ _) rfl) ?_
      refine t_q (q_lss rfl rfl) ?_
      refine t_nil ?_
      refine c_cond rfl ?_ ?_
      · intro hc21
        have hc21d := of_decide_eq_true hc21
        refine c_region ?_
        refine t_q (q_mv (.pointer _) rfl) ?_
        refine t_q (q_mv (.int _ _) rfl) ?_
        refine t_q (q_cast (v' := .int .i64 ((n + 1 : Nat) : Int)) (q_add_i64 rfl rfl (by omega)) (by congr 1)) ?_
        refine t_q (q_mv (.slice _ _ _) rfl) ?_
        refine t_call Try.call39 (app_calls (i := ((n + 1 : Nat) : Int)) (ys := b) hS (by repeat first | exact .here _ _ | assumption | apply Pick.there) DGood.zero.ap (by have h : (apD D0 (n : Int) (apE D0.F ((n : Int)).toNat a.length) (apF D0.F ((n : Int)).toNat a)).calls ≤ D0.calls + 1 := ap_cal; have h0 : D0.calls = 0 := rfl; omega) (fun w h => Rd.st hb h) rfl (by omega)) rfl ?_
        rintro e w ⟨rfl, hS⟩
        refine ⟨_, rfl, ?_⟩
        replace hS := hS.recast (show _ = dskA gd (tlD a b (n : Int)) from congrArg (dskA gd) (by unfold tlD; rw [if_pos (by omega)]; rfl))
        refine t_nil ?_
        refine c_seq ?_
        refine c_region ?_
        refine t_q (q_mv (.pointer _) rfl) ?_
        refine t_q (q_mv (.int _ _) rfl) ?_
        refine t_call Try.call33 (open_calls (d := tlD a b (n : Int)) (n := n) ((hS.pick (A := dskA gd _) (by repeat first | exact .here _ _ | assumption | apply Pick.there))) hn tlD_ok.1 tlD_ok.2.1 (by have := (tlD_ok (a := a) (b := b) (n := (n : Int))).2.2.1; omega) (by have := (tlD_ok (a := a) (b := b) (n := (n : Int))).2.2.2; omega)) rfl ?_
        rintro e w ⟨ga, rfl, hS⟩
        refine ⟨_, rfl, ?_⟩
        obtain ⟨AO, hAO⟩ : ∃ y : Ar, y = ⟨(n : Int), (opC (tlD a b (n : Int)) n 2).1, (opC (tlD a b (n : Int)) n 2).2, false⟩ := ⟨_, rfl⟩
        rw [← hAO] at hS
        obtain ⟨hFa, hFb⟩ := tlD_F (a := a) (b := b) hn (by omega) (by omega)
        obtain ⟨hGo, _, _, _⟩ := opD_ok (n := n) (c := (opC (tlD a b (n : Int)) n 2).1) (tlD_ok (a := a) (b := b) (n := (n : Int))).1 tlD_ok.2.1 (by have := (tlD_ok (a := a) (b := b) (n := (n : Int))).2.2.1; omega) 2
        obtain ⟨hf0, hf1⟩ := opD_F (n := n) (c := (opC (tlD a b (n : Int)) n 2).1) (tlD_ok (a := a) (b := b) (n := (n : Int))).1 tlD_ok.2.1 (by have := (tlD_ok (a := a) (b := b) (n := (n : Int))).2.2.1; omega) hn
        have hany := opC_any (d := tlD a b (n : Int)) (n := n)
        rw [hFa, hFb] at hany
        have hth : decide (0 ≤ AO.cn) = ((tel a).isSome || (tel b).isSome) := by
          rw [hAO]
          rcases hany with ⟨h1, _, h2⟩ | ⟨h1, _, h2⟩ | ⟨h0, h1, h2⟩ <;> rw [h2]
          · rw [h1]; rfl
          · rw [h1, Bool.or_true]; rfl
          · rw [h0, h1]; rfl
        have hAl : AO.s.b.length ≤ 524288 := by
          rw [hAO]
          rcases hany with ⟨h1, _, h2⟩ | ⟨h1, _, h2⟩ | ⟨h0, h1, h2⟩ <;> rw [h2]
          · exact tl_len
          · exact tl_len
          · exact Nat.zero_le _
        refine t_q (q_mv (.tuple _) rfl) ?_
        refine t_q (q_extract rfl rfl) ?_
        refine t_q (q_extract rfl rfl) ?_
        refine t_q (q_as (.pointer _) rfl) ?_
        refine t_q (q_as (.int _ _) rfl) ?_
        refine t_nil ?_
        refine c_seq ?_
        refine c_seq ?_
        refine c_region ?_
        refine t_q (q_mv (.int _ _) rfl) ?_
        refine t_q (q_lss rfl rfl) ?_
        refine t_q (q_mv (.bool _) rfl) ?_
        refine t_case 71 rfl ?_ ?_
        · intro hg27
          have hg27d := of_decide_eq_true hg27
          refine t_no rfl rfl (by rw [hg27]; decide) ?_
          refine t_no rfl rfl (by rw [hg27]; decide) ?_
          refine t_q (q_pick_t rfl hg27) ?_
          refine t_nil ?_
          refine c_cond_t rfl rfl ?_
          exfalso; omega
        · intro hg27
          have hg27d := of_decide_eq_false hg27
          refine t_yes rfl rfl hg27 ?_
          refine t_q (q_mv (.int _ _) rfl) ?_
          refine t_yes rfl rfl hg27 ?_
          refine t_q (q_gtr rfl rfl) ?_
          refine t_q (q_pick_f rfl hg27) ?_
          refine t_nil ?_
          refine c_cond rfl ?_ ?_
          · intro hc29
            have hc29d := of_decide_eq_true hc29
            exfalso; omega
          · intro hc29
            have hc29d := of_decide_eq_false hc29
            refine c_skip ?_
            refine c_seq ?_
            refine c_region ?_
            refine t_q (q_mv (.pointer _) rfl) ?_
            refine t_call Try.call36 (newest_calls hS (by repeat first | exact .here _ _ | assumption | apply Pick.there) (by omega)) rfl ?_
            rintro e w ⟨A86, c86, rfl, hS⟩
            refine ⟨_, rfl, ?_⟩
            refine t_q (q_mv (.tuple _) rfl) ?_
            refine t_q (q_extract rfl rfl) ?_
            refine t_q (q_extract rfl rfl) ?_
            refine t_alloc Try.zeroValue45 rfl hS (fun g16 w hS => ?_)
            refine t_store (v := (.agg _)) Try.sizeOf45 hS (by repeat first | exact .here _ _ | assumption | apply Pick.there) rfl rfl rfl rfl rfl rfl (fun w hS => ?_)
            replace hS := hS.recast (show blkA g16 45 _ = blkA g16 45 [.int .u64 ((nwS AO).i : Int), .int .u64 ((nwS AO).t : Int), .slice A86 (nwS AO).b.length c86] from rfl)
            refine t_q (q_as (.bool _) rfl) ?_
            refine t_nil ?_
            refine c_seq ?_
            refine c_seq ?_
            refine c_region ?_
            refine t_q (q_mv (.int _ _) rfl) ?_
            refine t_q (q_cast (v' := .bool false) (q_neq rfl rfl) (by rfl)) ?_
            refine t_q (q_mv (.bool _) rfl) ?_
            refine t_yes rfl rfl rfl ?_
            refine t_q (q_mv (.bool _) rfl) ?_
            refine t_yes rfl rfl rfl ?_
            refine t_q (q_mv (.bool _) rfl) ?_
            refine t_yes rfl rfl rfl ?_
            refine t_q (q_mv (.bool _) rfl) ?_
            refine t_case 94 rfl ?_ ?_
            · intro hg34
              refine t_no rfl rfl (by rw [hg34]; decide) ?_
              refine t_yes rfl rfl rfl ?_
              refine t_q (q_pick_t rfl hg34) ?_
              refine t_yes rfl rfl rfl ?_
              refine t_q (q_cast (v' := .bool false) (q_neq_bool Try.runUnderlying4 rfl rfl) (by first | (rw [hth]; simp [*]; done) | (rw [hth]; simp_all; done))) ?_
              refine t_q (q_pick_f rfl rfl) ?_
              refine t_nil ?_
              refine c_cond_f rfl rfl ?_
              refine c_skip ?_
              refine c_seq ?_
              refine c_seq ?_
              refine c_region ?_
              refine t_q (q_mv (.bool _) rfl) ?_
              refine t_q (q_not rfl) ?_
              refine t_nil ?_
              refine c_cond rfl ?_ ?_
              · intro hc36
                have hO : opC (tlD a b (n : Int)) n 2 = (-1, sn0) := by
                  rcases hany with ⟨h1, _, h2⟩ | ⟨h1, _, h2⟩ | ⟨h0, h1, h2⟩
                  · exfalso; have h := not_back hc36; rw [hth, h1] at h; cases h
                  · exfalso; have h := not_back hc36; rw [hth, h1, Bool.or_true] at h; cases h
                  · exact h2
                rw [hO] at hf0 hf1
                have hz0 : ((opD (tlD a b (n : Int)) n (opC (tlD a b (n : Int)) n 2).1 2).F n).1.length = 0 := by rw [hO, hf0]; exact congrArg List.length (opV_no _)
                have hz1 : ((opD (tlD a b (n : Int)) n (opC (tlD a b (n : Int)) n 2).1 2).F (n + 1)).1.length = 0 := by rw [hO, hf1]; exact congrArg List.length (opV_no _)
                refine c_seq ?_
                refine c_region ?_
                refine t_q (q_mv (.pointer _) rfl) ?_
                refine t_q (q_mv (.int _ _) rfl) ?_
                refine t_call Try.call40 (size_n (i := n) hS (by repeat first | exact .here _ _ | assumption | apply Pick.there) hGo (by omega)) rfl ?_
                rintro e w ⟨rfl, hS⟩
                refine ⟨_, rfl, ?_⟩
                refine t_q (q_mv (.pointer _) rfl) ?_
                refine t_q (q_mv (.int _ _) rfl) ?_
                refine t_q (q_cast (v' := .int .i64 ((n + 1 : Nat) : Int)) (q_add_i64 rfl rfl (by omega)) (by congr 1)) ?_
                refine t_call Try.call40 (size_n (i := n + 1) hS (by repeat first | exact .here _ _ | assumption | apply Pick.there) hGo (by omega)) rfl ?_
                rintro e w ⟨rfl, hS⟩
                refine ⟨_, rfl, ?_⟩
                refine t_q (q_add_i64 rfl rfl (by omega)) ?_
                refine t_q (q_cast (v' := .bool true) (q_eql rfl rfl) (by rw [hz0, hz1]; rfl)) ?_
                refine t_q (q_mv (.bool _) rfl) ?_
                refine t_yes rfl rfl rfl ?_
                refine t_call Try.call26 (alives_calls) rfl ?_
                rintro e w ⟨rfl, hT⟩
                refine ⟨_, rfl, ?_⟩
                replace hS := hS.after hT
                refine t_q (q_pick_t rfl rfl) ?_
                refine t_q (q_as (.bool _) rfl) ?_
                refine t_nil ?_
                refine c_ret ?_
                refine r_one rfl rfl ?_
                exact ⟨rfl, hS.nil⟩
              · intro hc36
                refine c_skip ?_
                refine c_seq ?_
                refine c_seq ?_
                refine c_region ?_
                refine t_q (q_mv (.bool _) rfl) ?_
                refine t_q (q_mv (.bool _) rfl) ?_
                refine t_yes rfl rfl hg34 ?_
                refine t_q (q_mv (.bool _) rfl) ?_
                refine t_yes rfl rfl hg34 ?_
                refine t_q (q_not rfl) ?_
                refine t_yes rfl rfl hg34 ?_
                refine t_q (q_mv (.bool _) rfl) ?_
                refine t_case 117 rfl ?_ ?_
                · intro hg41
                  refine t_no rfl rfl (by rw [(congrArg not (not_back hg41))]; decide) ?_
                  refine t_no rfl rfl (by rw [(congrArg not (not_back hg41))]; decide) ?_
                  refine t_no rfl rfl (by rw [(congrArg not (not_back hg41))]; decide) ?_
                  refine t_no rfl rfl (by rw [(congrArg not (not_back hg41))]; decide) ?_
                  refine t_no rfl rfl (by rw [(congrArg not (not_back hg41))]; decide) ?_
                  refine t_yes rfl rfl hg34 ?_
                  refine t_q (q_pick_t rfl (congrArg not (not_back hg41))) ?_
                  refine t_q (q_pick_t rfl hg34) ?_
                  refine t_nil ?_
                  refine c_cond_t rfl rfl ?_
                  have hO : opC (tlD a b (n : Int)) n 2 = (0, (telS a)) := by
                    rcases hany with ⟨h1, _, h2⟩ | ⟨h1, h3, h2⟩ | ⟨h0, h1, h2⟩
                    · exact h2
                    · exfalso
                      rcases h3 with h3 | h3
                      · simp_all
                      · first
                          | omega
                          | (simp_all; done)
                    · exfalso; simp_all
                  have hA0 : nwS AO = (telS a) := by rw [hAO, hO]; rfl
                  rw [hO] at hf0 hf1
                  have hz1 : ((opD (tlD a b (n : Int)) n (opC (tlD a b (n : Int)) n 2).1 2).F (n + 1)).1.length = 0 := by rw [hO, hf1]; exact congrArg List.length (opV_no _)
                  have hy0 : ((opD (tlD a b (n : Int)) n (opC (tlD a b (n : Int)) n 2).1 2).F n).2 = ((opD (tlD a b (n : Int)) n (opC (tlD a b (n : Int)) n 2).1 2).F n).1.length := by rw [hO, hf0]; rfl
                  refine c_seq ?_
                  refine c_region ?_
                  refine t_q (q_load_blk Try.isAgg45 Try.sizeOf45 rfl (hS.blk (by repeat first | exact .here _ _ | assumption | apply Pick.there)) rfl) ?_
                  refine t_q (q_load_blk Try.isAgg50 Try.sizeOf50 rfl (hS.blk (by repeat first | exact .here _ _ | assumption | apply Pick.there)) rfl) ?_
                  refine t_call Try.call30 (asame_calls (a := (nwS AO).b) (b := (telS a).b) (hS.rowRd (A := A86) (c := c86) (bs := (nwS AO).b) (by repeat first | exact .here _ _ | assumption | apply Pick.there) rfl) (hS.rowRd (A := A34) (c := c34) (bs := (telS a).b) (by repeat first | exact .here _ _ | assumption | apply Pick.there) rfl)) rfl ?_
                  rintro e w ⟨rfl, hT⟩
                  refine ⟨_, rfl, ?_⟩
                  replace hS := hS.after hT
                  rw [hA0]
                  rw [show decide (((telS a).i : Int) = ((telS a).i : Int) ∧ ((telS a).t : Int) = ((telS a).t : Int) ∧ (telS a).b = (telS a).b) = true from decide_eq_true ⟨rfl, rfl, rfl⟩]
                  refine t_q (q_mv (.bool _) rfl) ?_
                  refine t_yes rfl rfl rfl ?_
                  refine t_q (q_mv (.pointer _) rfl) ?_
                  refine t_yes rfl rfl rfl ?_
                  refine t_q (q_mv (.int _ _) rfl) ?_
                  refine t_yes rfl rfl rfl ?_
                  refine t_q (q_cast (v' := .int .i64 ((n + 1 : Nat) : Int)) (q_add_i64 rfl rfl (by omega)) (by congr 1)) ?_
                  refine t_yes rfl rfl rfl ?_
                  refine t_call Try.call40 (size_n (i := n + 1) hS (by repeat first | exact .here _ _ | assumption | apply Pick.there) hGo (by omega)) rfl ?_
                  rintro e w ⟨rfl, hS⟩
                  refine ⟨_, rfl, ?_⟩
                  refine t_yes rfl rfl rfl ?_
                  refine t_q (q_cast (v' := .bool true) (q_eql rfl rfl) (by rw [hz1]; rfl)) ?_
                  refine t_q (q_pick_t rfl rfl) ?_
                  refine t_q (q_mv (.bool _) rfl) ?_
                  refine t_yes rfl rfl rfl ?_
                  refine t_q (q_mv (.pointer _) rfl) ?_
                  refine t_yes rfl rfl rfl ?_
                  refine t_q (q_mv (.int _ _) rfl) ?_
                  refine t_yes rfl rfl rfl ?_
                  refine t_call Try.call41 (sync_n (i := n) hS (by repeat first | exact .here _ _ | assumption | apply Pick.there) hGo (by omega)) rfl ?_
                  rintro e w ⟨rfl, hS⟩
                  refine ⟨_, rfl, ?_⟩
                  refine t_yes rfl rfl rfl ?_
                  refine t_q (q_mv (.pointer _) rfl) ?_
                  refine t_yes rfl rfl rfl ?_
                  refine t_q (q_mv (.int _ _) rfl) ?_
                  refine t_yes rfl rfl rfl ?_
                  refine t_call Try.call40 (size_n (i := n) hS (by repeat first | exact .here _ _ | assumption | apply Pick.there) hGo (by omega)) rfl ?_
                  rintro e w ⟨rfl, hS⟩
                  refine ⟨_, rfl, ?_⟩
                  refine t_yes rfl rfl rfl ?_
                  refine t_q (q_cast (v' := .bool true) (q_eql rfl rfl) (by rw [hy0]; simp)) ?_
                  refine t_q (q_pick_t rfl rfl) ?_
                  refine t_q (q_mv (.bool _) rfl) ?_
                  refine t_yes rfl rfl rfl ?_
                  refine t_call Try.call26 (alives_calls) rfl ?_
                  rintro e w ⟨rfl, hT⟩
                  refine ⟨_, rfl, ?_⟩
                  replace hS := hS.after hT
                  refine t_q (q_pick_t rfl rfl) ?_
                  refine t_q (q_as (.bool _) rfl) ?_
                  refine t_nil ?_
                  refine c_ret ?_
                  refine r_one rfl rfl ?_
                  exact ⟨rfl, hS.nil⟩
                · intro hg41
                  refine t_yes rfl rfl (congrArg not (not_back hg41)) ?_
                  refine t_q (q_fieldAddr 0 Try.runUnderlying50 rfl Try.sizeOf43 (by decide) rfl rfl) ?_
                  refine t_yes rfl rfl (congrArg not (not_back hg41)) ?_
                  refine t_q (q_load1 Try.isAgg43 rfl (hS.cell (by repeat first | exact .here _ _ | assumption | apply Pick.there) rfl)) ?_
                  refine t_yes rfl rfl (congrArg not (not_back hg41)) ?_
                  refine t_q (q_fieldAddr 0 Try.runUnderlying50 rfl Try.sizeOf43 (by decide) rfl rfl) ?_
                  refine t_yes rfl rfl (congrArg not (not_back hg41)) ?_
                  refine t_q (q_load1 Try.isAgg43 rfl (hS.cell (by repeat first | exact .here _ _ | assumption | apply Pick.there) rfl)) ?_
                  refine t_yes rfl rfl (congrArg not (not_back hg41)) ?_
                  refine t_q (q_geq rfl rfl) ?_
                  refine t_yes rfl rfl hg34 ?_
                  refine t_q (q_pick_f rfl (congrArg not (not_back hg41))) ?_
                  refine t_q (q_pick_t rfl hg34) ?_
                  refine t_nil ?_
                  refine c_cond rfl ?_ ?_
                  · intro hc50
                    have hc50d := of_decide_eq_true hc50
                    have hO : opC (tlD a b (n : Int)) n 2 = (0, (telS a)) := by
                      rcases hany with ⟨h1, _, h2⟩ | ⟨h1, h3, h2⟩ | ⟨h0, h1, h2⟩
                      · exact h2
                      · exfalso
                        rcases h3 with h3 | h3
                        · simp_all
                        · first
                            | omega
                            | (simp_all; done)
                      · exfalso; simp_all
                    have hA0 : nwS AO = (telS a) := by rw [hAO, hO]; rfl
                    rw [hO] at hf0 hf1
                    have hz1 : ((opD (tlD a b (n : Int)) n (opC (tlD a b (n : Int)) n 2).1 2).F (n + 1)).1.length = 0 := by rw [hO, hf1]; exact congrArg List.length (opV_no _)
                    have hy0 : ((opD (tlD a b (n : Int)) n (opC (tlD a b (n : Int)) n 2).1 2).F n).2 = ((opD (tlD a b (n : Int)) n (opC (tlD a b (n : Int)) n 2).1 2).F n).1.length := by rw [hO, hf0]; rfl
                    refine c_seq ?_
                    refine c_region ?_
                    refine t_q (q_load_blk Try.isAgg45 Try.sizeOf45 rfl (hS.blk (by repeat first | exact .here _ _ | assumption | apply Pick.there)) rfl) ?_
                    refine t_q (q_load_blk Try.isAgg50 Try.sizeOf50 rfl (hS.blk (by repeat first | exact .here _ _ | assumption | apply Pick.there)) rfl) ?_
                    refine t_call Try.call30 (asame_calls (a := (nwS AO).b) (b := (telS a).b) (hS.rowRd (A := A86) (c := c86) (bs := (nwS AO).b) (by repeat first | exact .here _ _ | assumption | apply Pick.there) rfl) (hS.rowRd (A := A34) (c := c34) (bs := (telS a).b) (by repeat first | exact .here _ _ | assumption | apply Pick.there) rfl)) rfl ?_
                    rintro e w ⟨rfl, hT⟩
                    refine ⟨_, rfl, ?_⟩
                    replace hS := hS.after hT
                    rw [hA0]
                    rw [show decide (((telS a).i : Int) = ((telS a).i : Int) ∧ ((telS a).t : Int) = ((telS a).t : Int) ∧ (telS a).b = (telS a).b) = true from decide_eq_true ⟨rfl, rfl, rfl⟩]
                    refine t_q (q_mv (.bool _) rfl) ?_
                    refine t_yes rfl rfl rfl ?_
                    refine t_q (q_mv (.pointer _) rfl) ?_
                    refine t_yes rfl rfl rfl ?_
                    refine t_q (q_mv (.int _ _) rfl) ?_
                    refine t_yes rfl rfl rfl ?_
                    refine t_q (q_cast (v' := .int .i64 ((n + 1 : Nat) : Int)) (q_add_i64 rfl rfl (by omega)) (by congr 1)) ?_
                    refine t_yes rfl rfl rfl ?_
                    refine t_call Try.call40 (size_n (i := n + 1) hS (by repeat first | exact .here _ _ | assumption | apply Pick.there) hGo (by omega)) rfl ?_
                    rintro e w ⟨rfl, hS⟩
                    refine ⟨_, rfl, ?_⟩
                    refine t_yes rfl rfl rfl ?_
                    refine t_q (q_cast (v' := .bool true) (q_eql rfl rfl) (by rw [hz1]; rfl)) ?_
                    refine t_q (q_pick_t rfl rfl) ?_
                    refine t_q (q_mv (.bool _) rfl) ?_
                    refine t_yes rfl rfl rfl ?_
                    refine t_q (q_mv (.pointer _) rfl) ?_
                    refine t_yes rfl rfl rfl ?_
                    refine t_q (q_mv (.int _ _) rfl) ?_
                    refine t_yes rfl rfl rfl ?_
                    refine t_call Try.call41 (sync_n (i := n) hS (by repeat first | exact .here _ _ | assumption | apply Pick.there) hGo (by omega)) rfl ?_
                    rintro e w ⟨rfl, hS⟩
                    refine ⟨_, rfl, ?_⟩
                    refine t_yes rfl rfl rfl ?_
                    refine t_q (q_mv (.pointer _) rfl) ?_
                    refine t_yes rfl rfl rfl ?_
                    refine t_q (q_mv (.int _ _) rfl) ?_
                    refine t_yes rfl rfl rfl ?_
                    refine t_call Try.call40 (size_n (i := n) hS (by repeat first | exact .here _ _ | assumption | apply Pick.there) hGo (by omega)) rfl ?_
                    rintro e w ⟨rfl, hS⟩
                    refine ⟨_, rfl, ?_⟩
                    refine t_yes rfl rfl rfl ?_
                    refine t_q (q_cast (v' := .bool true) (q_eql rfl rfl) (by rw [hy0]; simp)) ?_
                    refine t_q (q_pick_t rfl rfl) ?_
                    refine t_q (q_mv (.bool _) rfl) ?_
                    refine t_yes rfl rfl rfl ?_
                    refine t_call Try.call26 (alives_calls) rfl ?_
                    rintro e w ⟨rfl, hT⟩
                    refine ⟨_, rfl, ?_⟩
                    replace hS := hS.after hT
                    refine t_q (q_pick_t rfl rfl) ?_
                    refine t_q (q_as (.bool _) rfl) ?_
                    refine t_nil ?_
                    refine c_ret ?_
                    refine r_one rfl rfl ?_
                    exact ⟨rfl, hS.nil⟩
                  · intro hc50
                    have hc50d := of_decide_eq_false hc50
                    have hO : opC (tlD a b (n : Int)) n 2 = (1, (telS b)) := by
                      rcases hany with ⟨h1, h3, h2⟩ | ⟨h1, h3, h2⟩ | ⟨h0, h1, h2⟩
                      · exfalso
                        rcases h3 with h3 | h3
                        · simp_all
                        · first
                            | omega
                            | (simp_all; done)
                      · exact h2
                      · exfalso; simp_all
                    have hA1 : nwS AO = (telS b) := by rw [hAO, hO]; rfl
                    rw [hO] at hf0 hf1
                    have hz0 : ((opD (tlD a b (n : Int)) n (opC (tlD a b (n : Int)) n 2).1 2).F n).1.length = 0 := by rw [hO, hf0]; exact congrArg List.length (opV_no _)
                    have hy1 : ((opD (tlD a b (n : Int)) n (opC (tlD a b (n : Int)) n 2).1 2).F (n + 1)).2 = ((opD (tlD a b (n : Int)) n (opC (tlD a b (n : Int)) n 2).1 2).F (n + 1)).1.length := by rw [hO, hf1]; rfl
                    refine c_skip ?_
                    refine c_seq ?_
                    refine c_region ?_
                    refine t_q (q_load_blk Try.isAgg45 Try.sizeOf45 rfl (hS.blk (by repeat first | exact .here _ _ | assumption | apply Pick.there)) rfl) ?_
                    refine t_q (q_load_blk Try.isAgg50 Try.sizeOf50 rfl (hS.blk (by repeat first | exact .here _ _ | assumption | apply Pick.there)) rfl) ?_
                    refine t_call Try.call30 (asame_calls (a := (nwS AO).b) (b := (telS b).b) (hS.rowRd (A := A86) (c := c86) (bs := (nwS AO).b) (by repeat first | exact .here _ _ | assumption | apply Pick.there) rfl) (hS.rowRd (A := A39) (c := c39) (bs := (telS b).b) (by repeat first | exact .here _ _ | assumption | apply Pick.there) rfl)) rfl ?_
                    rintro e w ⟨rfl, hT⟩
                    refine ⟨_, rfl, ?_⟩
                    replace hS := hS.after hT
                    rw [hA1]
                    rw [show decide (((telS b).i : Int) = ((telS b).i : Int) ∧ ((telS b).t : Int) = ((telS b).t : Int) ∧ (telS b).b = (telS b).b) = true from decide_eq_true ⟨rfl, rfl, rfl⟩]
                    refine t_q (q_mv (.bool _) rfl) ?_
                    refine t_yes rfl rfl rfl ?_
                    refine t_q (q_mv (.pointer _) rfl) ?_
                    refine t_yes rfl rfl rfl ?_
                    refine t_q (q_mv (.int _ _) rfl) ?_
                    refine t_yes rfl rfl rfl ?_
                    refine t_call Try.call40 (size_n (i := n) hS (by repeat first | exact .here _ _ | assumption | apply Pick.there) hGo (by omega)) rfl ?_
                    rintro e w ⟨rfl, hS⟩
                    refine ⟨_, rfl, ?_⟩
                    refine t_yes rfl rfl rfl ?_
                    refine t_q (q_cast (v' := .bool true) (q_eql rfl rfl) (by rw [hz0]; rfl)) ?_
                    refine t_q (q_pick_t rfl rfl) ?_
                    refine t_q (q_mv (.bool _) rfl) ?_
                    refine t_yes rfl rfl rfl ?_
                    refine t_q (q_mv (.pointer _) rfl) ?_
                    refine t_yes rfl rfl rfl ?_
                    refine t_q (q_mv (.int _ _) rfl) ?_
                    refine t_yes rfl rfl rfl ?_
                    refine t_q (q_cast (v' := .int .i64 ((n + 1 : Nat) : Int)) (q_add_i64 rfl rfl (by omega)) (by congr 1)) ?_
                    refine t_yes rfl rfl rfl ?_
                    refine t_call Try.call41 (sync_n (i := n + 1) hS (by repeat first | exact .here _ _ | assumption | apply Pick.there) hGo (by omega)) rfl ?_
                    rintro e w ⟨rfl, hS⟩
                    refine ⟨_, rfl, ?_⟩
                    refine t_yes rfl rfl rfl ?_
                    refine t_q (q_mv (.pointer _) rfl) ?_
                    refine t_yes rfl rfl rfl ?_
                    refine t_q (q_mv (.int _ _) rfl) ?_
                    refine t_yes rfl rfl rfl ?_
                    refine t_q (q_cast (v' := .int .i64 ((n + 1 : Nat) : Int)) (q_add_i64 rfl rfl (by omega)) (by congr 1)) ?_
                    refine t_yes rfl rfl rfl ?_
                    refine t_call Try.call40 (size_n (i := n + 1) hS (by repeat first | exact .here _ _ | assumption | apply Pick.there) hGo (by omega)) rfl ?_
                    rintro e w ⟨rfl, hS⟩
                    refine ⟨_, rfl, ?_⟩
                    refine t_yes rfl rfl rfl ?_
                    refine t_q (q_cast (v' := .bool true) (q_eql rfl rfl) (by rw [hy1]; simp)) ?_
                    refine t_q (q_pick_t rfl rfl) ?_
                    refine t_q (q_mv (.bool _) rfl) ?_
                    refine t_yes rfl rfl rfl ?_
                    refine t_call Try.call26 (alives_calls) rfl ?_
                    rintro e w ⟨rfl, hT⟩
                    refine ⟨_, rfl, ?_⟩
                    replace hS := hS.after hT
                    refine t_q (q_pick_t rfl rfl) ?_
                    refine t_q (q_as (.bool _) rfl) ?_
                    refine t_nil ?_
                    refine c_ret ?_
                    refine r_one rfl rfl ?_
                    exact ⟨rfl, hS.nil⟩
            · intro hg34
              refine t_yes rfl rfl hg34 ?_
              refine t_q (q_mv (.bool _) rfl) ?_
              refine t_yes rfl rfl rfl ?_
              refine t_q (q_pick_f rfl hg34) ?_
              refine t_yes rfl rfl rfl ?_
              refine t_q (q_cast (v' := .bool false) (q_neq_bool Try.runUnderlying4 rfl rfl) (by first | (rw [hth]; simp [*]; done) | (rw [hth]; simp_all; done))) ?_
              refine t_q (q_pick_f rfl rfl) ?_
              refine t_nil ?_
              refine c_cond_f rfl rfl ?_
              refine c_skip ?_
              refine c_seq ?_
              refine c_seq ?_
              refine c_region ?_
              refine t_q (q_mv (.bool _) rfl) ?_
              refine t_q (q_not rfl) ?_
              refine t_nil ?_
              refine c_cond rfl ?_ ?_
              · intro hc66
                have hO : opC (tlD a b (n : Int)) n 2 = (-1, sn0) := by
                  rcases hany with ⟨h1, _, h2⟩ | ⟨h1, _, h2⟩ | ⟨h0, h1, h2⟩
                  · exfalso; have h := not_back hc66; rw [hth, h1] at h; cases h
                  · exfalso; have h := not_back hc66; rw [hth, h1, Bool.or_true] at h; cases h
                  · exact h2
                rw [hO] at hf0 hf1
                have hz0 : ((opD (tlD a b (n : Int)) n (opC (tlD a b (n : Int)) n 2).1 2).F n).1.length = 0 := by rw [hO, hf0]; exact congrArg List.length (opV_no _)
                have hz1 : ((opD (tlD a b (n : Int)) n (opC (tlD a b (n : Int)) n 2).1 2).F (n + 1)).1.length = 0 := by rw [hO, hf1]; exact congrArg List.length (opV_no _)
                refine c_seq ?_
                refine c_region ?_
                refine t_q (q_mv (.pointer _) rfl) ?_
                refine t_q (q_mv (.int _ _) rfl) ?_
                refine t_call Try.call40 (size_n (i := n) hS (by repeat first | exact .here _ _ | assumption | apply Pick.there) hGo (by omega)) rfl ?_
                rintro e w ⟨rfl, hS⟩
                refine ⟨_, rfl, ?_⟩
                refine t_q (q_mv (.pointer _) rfl) ?_
                refine t_q (q_mv (.int _ _) rfl) ?_
                refine t_q (q_cast (v' := .int .i64 ((n + 1 : Nat) : Int)) (q_add_i64 rfl rfl (by omega)) (by congr 1)) ?_
                refine t_call Try.call40 (size_n (i := n + 1) hS (by repeat first | exact .here _ _ | assumption | apply Pick.there) hGo (by omega)) rfl ?_
                rintro e w ⟨rfl, hS⟩
                refine ⟨_, rfl, ?_⟩
                refine t_q (q_add_i64 rfl rfl (by omega)) ?_
                refine t_q (q_cast (v' := .bool true) (q_eql rfl rfl) (by rw [hz0, hz1]; rfl)) ?_
                refine t_q (q_mv (.bool _) rfl) ?_
                refine t_yes rfl rfl rfl ?_
                refine t_call Try.call26 (alives_calls) rfl ?_
                rintro e w ⟨rfl, hT⟩
                refine ⟨_, rfl, ?_⟩
                replace hS := hS.after hT
                refine t_q (q_pick_t rfl rfl) ?_
                refine t_q (q_as (.bool _) rfl) ?_
                refine t_nil ?_
                refine c_ret ?_
                refine r_one rfl rfl ?_
                exact ⟨rfl, hS.nil⟩
              · intro hc66
                refine c_skip ?_
                refine c_seq ?_
                refine c_seq ?_
                refine c_region ?_
                refine t_q (q_mv (.bool _) rfl) ?_
                refine t_q (q_mv (.bool _) rfl) ?_
                refine t_no rfl rfl (by rw [hg34]; decide) ?_
                refine t_no rfl rfl (by rw [hg34]; decide) ?_
                refine t_no rfl rfl (by rw [hg34]; decide) ?_
                refine t_nu rfl rfl ?_
                refine t_nu rfl rfl ?_
                refine t_nu rfl rfl ?_
                refine t_nu rfl rfl ?_
                refine t_nu rfl rfl ?_
                refine t_no rfl rfl (by rw [hg34]; decide) ?_
                refine t_q (q_pick_f rfl hg34) ?_
                refine t_nil ?_
                refine c_cond_f rfl rfl ?_
                have hO : opC (tlD a b (n : Int)) n 2 = (1, (telS b)) := by
                  rcases hany with ⟨h1, h3, h2⟩ | ⟨h1, h3, h2⟩ | ⟨h0, h1, h2⟩
                  · exfalso
                    rcases h3 with h3 | h3
                    · simp_all
                    · first
                        | omega
                        | (simp_all; done)
                  · exact h2
                  · exfalso; simp_all
                have hA1 : nwS AO = (telS b) := by rw [hAO, hO]; rfl
                rw [hO] at hf0 hf1
                have hz0 : ((opD (tlD a b (n : Int)) n (opC (tlD a b (n : Int)) n 2).1 2).F n).1.length = 0 := by rw [hO, hf0]; exact congrArg List.length (opV_no _)
                have hy1 : ((opD (tlD a b (n : Int)) n (opC (tlD a b (n : Int)) n 2).1 2).F (n + 1)).2 = ((opD (tlD a b (n : Int)) n (opC (tlD a b (n : Int)) n 2).1 2).F (n + 1)).1.length := by rw [hO, hf1]; rfl
                refine c_skip ?_
                refine c_seq ?_
                refine c_region ?_
                refine t_q (q_load_blk Try.isAgg45 Try.sizeOf45 rfl (hS.blk (by repeat first | exact .here _ _ | assumption | apply Pick.there)) rfl) ?_
                refine t_q (q_load_blk Try.isAgg50 Try.sizeOf50 rfl (hS.blk (by repeat first | exact .here _ _ | assumption | apply Pick.there)) rfl) ?_
                refine t_call Try.call30 (asame_calls (a := (nwS AO).b) (b := (telS b).b) (hS.rowRd (A := A86) (c := c86) (bs := (nwS AO).b) (by repeat first | exact .here _ _ | assumption | apply Pick.there) rfl) (hS.rowRd (A := A39) (c := c39) (bs := (telS b).b) (by repeat first | exact .here _ _ | assumption | apply Pick.there) rfl)) rfl ?_
                rintro e w ⟨rfl, hT⟩
                refine ⟨_, rfl, ?_⟩
                replace hS := hS.after hT
                rw [hA1]
                rw [show decide (((telS b).i : Int) = ((telS b).i : Int) ∧ ((telS b).t : Int) = ((telS b).t : Int) ∧ (telS b).b = (telS b).b) = true from decide_eq_true ⟨rfl, rfl, rfl⟩]
                refine t_q (q_mv (.bool _) rfl) ?_
                refine t_yes rfl rfl rfl ?_
                refine t_q (q_mv (.pointer _) rfl) ?_
                refine t_yes rfl rfl rfl ?_
                refine t_q (q_mv (.int _ _) rfl) ?_
                refine t_yes rfl rfl rfl ?_
                refine t_call Try.call40 (size_n (i := n) hS (by repeat first | exact .here _ _ | assumption | apply Pick.there) hGo (by omega)) rfl ?_
                rintro e w ⟨rfl, hS⟩
                refine ⟨_, rfl, ?_⟩
                refine t_yes rfl rfl rfl ?_
                refine t_q (q_cast (v' := .bool true) (q_eql rfl rfl) (by rw [hz0]; rfl)) ?_
                refine t_q (q_pick_t rfl rfl) ?_
                refine t_q (q_mv (.bool _) rfl) ?_
                refine t_yes rfl rfl rfl ?_
                refine t_q (q_mv (.pointer _) rfl) ?_
                refine t_yes rfl rfl rfl ?_
                refine t_q (q_mv (.int _ _) rfl) ?_
                refine t_yes rfl rfl rfl ?_
                refine t_q (q_cast (v' := .int .i64 ((n + 1 : Nat) : Int)) (q_add_i64 rfl rfl (by omega)) (by congr 1)) ?_
                refine t_yes rfl rfl rfl ?_
                refine t_call Try.call41 (sync_n (i := n + 1) hS (by repeat first | exact .here _ _ | assumption | apply Pick.there) hGo (by omega)) rfl ?_
                rintro e w ⟨rfl, hS⟩
                refine ⟨_, rfl, ?_⟩
                refine t_yes rfl rfl rfl ?_
                refine t_q (q_mv (.pointer _) rfl) ?_
                refine t_yes rfl rfl rfl ?_
                refine t_q (q_mv (.int _ _) rfl) ?_
                refine t_yes rfl rfl rfl ?_
                refine t_q (q_cast (v' := .int .i64 ((n + 1 : Nat) : Int)) (q_add_i64 rfl rfl (by omega)) (by congr 1)) ?_
                refine t_yes rfl rfl rfl ?_
                refine t_call Try.call40 (size_n (i := n + 1) hS (by repeat first | exact .here _ _ | assumption | apply Pick.there) hGo (by omega)) rfl ?_
                rintro e w ⟨rfl, hS⟩
                refine ⟨_, rfl, ?_⟩
                refine t_yes rfl rfl rfl ?_
                refine t_q (q_cast (v' := .bool true) (q_eql rfl rfl) (by rw [hy1]; simp)) ?_
                refine t_q (q_pick_t rfl rfl) ?_
                refine t_q (q_mv (.bool _) rfl) ?_
                refine t_yes rfl rfl rfl ?_
                refine t_call Try.call26 (alives_calls) rfl ?_
                rintro e w ⟨rfl, hT⟩
                refine ⟨_, rfl, ?_⟩
                replace hS := hS.after hT
                refine t_q (q_pick_t rfl rfl) ?_
                refine t_q (q_as (.bool _) rfl) ?_
                refine t_nil ?_
                refine c_ret ?_
                refine r_one rfl rfl ?_
                exact ⟨rfl, hS.nil⟩
      · intro hc21
        have hc21d := of_decide_eq_false hc21
        exfalso; omega
set_option maxHeartbeats 4000000 in
set_option maxRecDepth 100000 in
theorem ArchiveTells_out {Aa Ab : Option Addr} {ca cb : Nat} {a b : List UInt8} {n : Int} (ha : RdB W Aa a) (hb : RdB W Ab b) (hac : a.length ≤ ca) (hbc : b.length ≤ cb) (hab : a.length ≤ 9223372036854775807 ∧ b.length ≤ 9223372036854775807) (hn : n < 0 ∨ 30 < n) (hn2 : -9223372036854775808 ≤ n ∧ n ≤ 9223372036854775807) : Calls Try.prog 8 #[.slice Aa a.length ca, .slice Ab b.length cb, .int .i64 n] W fun e w' => e = .returned (.bool true) ∧ St W w' [] := by
  have hS := St.init W
  refine calls_of_wpE (args := [_, _, _]) Try.func8 rfl rfl rfl ?_
  refine c_seq ?_
  refine c_region ?_
  refine t_q (q_assign) ?_
  refine t_nil ?_
  refine c_seq ?_
  refine c_seq ?_
  refine c_region ?_
  refine t_q (q_mv (.slice _ _ _) rfl) ?_
  refine t_q (q_len_slice Try.runUnderlying25 rfl) ?_
  refine t_q (q_gtr rfl rfl) ?_
  refine t_q (q_mv (.bool _) rfl) ?_
  refine t_case 21 rfl ?_ ?_
  · intro hg2
    have hg2d := of_decide_eq_true hg2
    refine t_no rfl rfl (by rw [hg2]; decide) ?_
    refine t_no rfl rfl (by rw [hg2]; decide) ?_
    refine t_no rfl rfl (by rw [hg2]; decide) ?_
    refine t_q (q_pick_t rfl hg2) ?_
    refine t_nil ?_
    refine c_cond_t rfl rfl ?_
    refine c_seq ?_
    refine c_region ?_
    refine t_call Try.call26 (alives_calls) rfl ?_
    rintro e w ⟨rfl, hT⟩
    refine ⟨_, rfl, ?_⟩
    replace hS := hS.after hT
    refine t_q (q_as (.bool _) rfl) ?_
    refine t_nil ?_
    refine c_ret ?_
    refine r_one rfl rfl ?_
    exact ⟨rfl, hS.nil⟩
  · intro hg2
    have hg2d := of_decide_eq_false hg2
    refine t_yes rfl rfl hg2 ?_
    refine t_q (q_mv (.slice _ _ _) rfl) ?_
    refine t_yes rfl rfl hg2 ?_
    refine t_q (q_len_slice Try.runUnderlying25 rfl) ?_
    refine t_yes rfl rfl hg2 ?_
    refine t_q (q_gtr rfl rfl) ?_
    refine t_q (q_pick_f rfl hg2) ?_
    refine t_nil ?_
    refine c_cond rfl ?_ ?_
    · intro hc5
      have hc5d := of_decide_eq_true hc5
      refine c_seq ?_
      refine c_region ?_
      refine t_call Try.call26 (alives_calls) rfl ?_
      rintro e w ⟨rfl, hT⟩
      refine ⟨_, rfl, ?_⟩
      replace hS := hS.after hT
      refine t_q (q_as (.bool _) rfl) ?_
      refine t_nil ?_
      refine c_ret ?_
      refine r_one rfl rfl ?_
      exact ⟨rfl, hS.nil⟩
    · intro hc5
      have hc5d := of_decide_eq_false hc5
      refine c_skip ?_
      refine c_seq ?_
      refine c_region ?_
      refine t_q (q_mv (.slice _ _ _) rfl) ?_
      refine t_call Try.call29 (atell_calls (bs := a) (Rd.st ha hS) ⟨hac, by omega⟩) rfl ?_
      rintro e w ⟨A29, c29, rfl, hT⟩
      refine ⟨_, rfl, ?_⟩
      have hS : St W w (_ :: _) := hS.lift hT
      refine t_q (q_mv (.tuple _) rfl) ?_
      refine t_q (q_extract rfl rfl) ?_
      refine t_q (q_extract rfl rfl) ?_
      refine t_alloc Try.zeroValue45 rfl hS (fun g7 w hS => ?_)
      refine t_store (v := (.agg _)) Try.sizeOf45 hS (by repeat first | exact .here _ _ | assumption | apply Pick.there) rfl rfl rfl rfl rfl rfl (fun w hS => ?_)
      replace hS := hS.recast (show blkA g7 45 _ = blkA g7 45 [.int .u64 ((telS a).i : Int), .int .u64 ((telS a).t : Int), .slice A29 (telS a).b.length c29] from rfl)
      refine t_q (q_as (.bool _) rfl) ?_
      refine t_nil ?_
      refine c_seq ?_
      refine c_region ?_
      refine t_q (q_mv (.slice _ _ _) rfl) ?_
      refine t_call Try.call38 (qatell_calls (bs := a) (Rd.st ha hS) ⟨hac, by omega⟩) rfl ?_
      rintro e w ⟨A34, c34, rfl, hT⟩
      refine ⟨_, rfl, ?_⟩
      have hS : St W w (_ :: _) := hS.lift hT
      refine t_q (q_mv (.tuple _) rfl) ?_
      refine t_q (q_extract rfl rfl) ?_
      refine t_q (q_extract rfl rfl) ?_
      refine t_alloc Try.zeroValue50 rfl hS (fun g9 w hS => ?_)
      refine t_store (v := (.agg _)) Try.sizeOf50 hS (by repeat first | exact .here _ _ | assumption | apply Pick.there) rfl rfl rfl rfl rfl rfl (fun w hS => ?_)
      replace hS := hS.recast (show blkA g9 50 _ = blkA g9 50 [.int .u64 ((telS a).i : Int), .int .u64 ((telS a).t : Int), .slice A34 (telS a).b.length c34] from rfl)
      refine t_q (q_as (.bool _) rfl) ?_
      refine t_nil ?_
      refine c_seq ?_
      refine c_region ?_
      refine t_q (q_mv (.slice _ _ _) rfl) ?_
      refine t_call Try.call38 (qatell_calls (bs := b) (Rd.st hb hS) ⟨hbc, by omega⟩) rfl ?_
      rintro e w ⟨A39, c39, rfl, hT⟩
      refine ⟨_, rfl, ?_⟩
      have hS : St W w (_ :: _) := hS.lift hT
      refine t_q (q_mv (.tuple _) rfl) ?_
      refine t_q (q_extract rfl rfl) ?_
      refine t_q (q_extract rfl rfl) ?_
      refine t_alloc Try.zeroValue50 rfl hS (fun g11 w hS => ?_)
      refine t_store (v := (.agg _)) Try.sizeOf50 hS (by repeat first | exact .here _ _ | assumption | apply Pick.there) rfl rfl rfl rfl rfl rfl (fun w hS => ?_)
      replace hS := hS.recast (show blkA g11 50 _ = blkA g11 50 [.int .u64 ((telS b).i : Int), .int .u64 ((telS b).t : Int), .slice A39 (telS b).b.length c39] from rfl)
      refine t_q (q_as (.bool _) rfl) ?_
      refine t_nil ?_
      refine c_seq ?_
      refine c_seq ?_
      refine c_region ?_
      refine t_q (q_mv (.bool _) rfl) ?_
      refine t_q (q_mv (.bool _) rfl) ?_
      refine t_q (q_cast (v' := .bool false) (q_neq_bool Try.runUnderlying4 rfl rfl) (by simp)) ?_
      refine t_q (q_mv (.bool _) rfl) ?_
      refine t_yes rfl rfl rfl ?_
      refine t_q (q_load_blk Try.isAgg45 Try.sizeOf45 rfl (hS.blk (by repeat first | exact .here _ _ | assumption | apply Pick.there)) rfl) ?_
      refine t_yes rfl rfl rfl ?_
      refine t_q (q_load_blk Try.isAgg50 Try.sizeOf50 rfl (hS.blk (by repeat first | exact .here _ _ | assumption | apply Pick.there)) rfl) ?_
      refine t_yes rfl rfl rfl ?_
      refine t_call Try.call30 (asame_calls (a := (telS a).b) (b := (telS a).b) (hS.rowRd (A := A29) (c := c29) (bs := (telS a).b) (by repeat first | exact .here _ _ | assumption | apply Pick.there) rfl) (hS.rowRd (A := A34) (c := c34) (bs := (telS a).b) (by repeat first | exact .here _ _ | assumption | apply Pick.there) rfl)) rfl ?_
      rintro e w ⟨rfl, hT⟩
      refine ⟨_, rfl, ?_⟩
      replace hS := hS.after hT
      rw [show decide (((telS a).i : Int) = ((telS a).i : Int) ∧ ((telS a).t : Int) = ((telS a).t : Int) ∧ (telS a).b = (telS a).b) = true from decide_eq_true ⟨rfl, rfl, rfl⟩]
      refine t_yes rfl rfl rfl ?_
      refine t_q (q_cast (v' := .bool false) (q_not rfl) (by rfl)) ?_
      refine t_q (q_pick_f rfl rfl) ?_
      refine t_nil ?_
      refine c_cond_f rfl rfl ?_
      refine c_skip ?_
      refine c_seq ?_
      refine c_region ?_
      refine t_call Try.call32 (dnew_calls hS) rfl ?_
      rintro e w ⟨gd, rfl, hS⟩
      refine ⟨_, rfl, ?_⟩
      refine t_q (q_as (.pointer _) rfl) ?_
      refine t_nil ?_
      refine c_seq ?_
      refine c_region ?_
      refine t_q (q_mv (.pointer _) rfl) ?_
      refine t_q (q_mv (.int _ _) rfl) ?_
      refine t_q (q_mv (.slice _ _ _) rfl) ?_
      refine t_call Try.call39 (app_calls (d := D0) (i := n) (ys := a) hS (by repeat first | exact .here _ _ | assumption | apply Pick.there) DGood.zero (by decide) (fun w h => Rd.st ha h) rfl (by omega)) rfl ?_
      rintro e w ⟨rfl, hS⟩
      refine ⟨_, rfl, ?_⟩
      refine t_nil ?_
      refine c_seq ?_
      refine c_seq ?_
      refine c_region ?_
      refine t_q (q_mv (.int _ _) rfl) ?_
      refine t_q (q_lss rfl rfl) ?_
      refine t_nil ?_
      refine c_cond rfl ?_ ?_
      · intro hc21
        have hc21d := of_decide_eq_true hc21
        have hgn : (tlD a b n).gone = false := tlD_ok.2.1
        unfold tlD at hgn
        rw [if_pos (by omega)] at hgn
        refine c_region ?_
        refine t_q (q_mv (.pointer _) rfl) ?_
        refine t_q (q_mv (.int _ _) rfl) ?_
        refine t_q (q_add_i64 rfl rfl (by omega)) ?_
        refine t_q (q_mv (.slice _ _ _) rfl) ?_
        refine t_call Try.call39 (app_calls (i := n + 1) (ys := b) hS (by repeat first | exact .here _ _ | assumption | apply Pick.there) DGood.zero.ap (by have h : (apD D0 n (apE D0.F n.toNat a.length) (apF D0.F n.toNat a)).calls ≤ D0.calls + 1 := ap_cal; have h0 : D0.calls = 0 := rfl; omega) (fun w h => Rd.st hb h) rfl (by omega)) rfl ?_
        rintro e w ⟨rfl, hS⟩
        refine ⟨_, rfl, ?_⟩
        refine t_nil ?_
        refine c_seq ?_
        refine c_region ?_
        refine t_q (q_mv (.pointer _) rfl) ?_
        refine t_q (q_mv (.int _ _) rfl) ?_
        refine t_call Try.call33 (open_arg (n := n) ((hS.pick (A := dskA gd _) (by repeat first | exact .here _ _ | assumption | apply Pick.there))) (.here _ _) hgn hn) rfl ?_
        rintro e w ⟨rfl, hS⟩
        refine ⟨_, rfl, ?_⟩
        refine t_q (q_mv (.tuple _) rfl) ?_
        refine t_q (q_extract rfl rfl) ?_
        refine t_q (q_extract rfl rfl) ?_
        refine t_q (q_as (.pointer _) rfl) ?_
        refine t_q (q_as (.int _ _) rfl) ?_
        refine t_nil ?_
        refine c_seq ?_
        refine c_seq ?_
        refine c_region ?_
        refine t_q (q_mv (.int _ _) rfl) ?_
        refine t_q (q_lss rfl rfl) ?_
        refine t_q (q_mv (.bool _) rfl) ?_
        refine t_case 71 rfl ?_ ?_
        · intro hg27
          have hg27d := of_decide_eq_true hg27
          refine t_no rfl rfl (by rw [hg27]; decide) ?_
          refine t_no rfl rfl (by rw [hg27]; decide) ?_
          refine t_q (q_pick_t rfl hg27) ?_
          refine t_nil ?_
          refine c_cond_t rfl rfl ?_
          refine c_seq ?_
          refine c_region ?_
          refine t_q (q_mv (.pointer _) rfl) ?_
          refine t_q (q_cast (v' := .bool true) (q_eql_ptr_nil Try.runUnderlying60 rfl rfl) (by rfl)) ?_
          refine t_q (q_mv (.bool _) rfl) ?_
          refine t_yes rfl rfl rfl ?_
          refine t_q (q_mv (.int _ _) rfl) ?_
          refine t_yes rfl rfl rfl ?_
          refine t_q (q_cast (v' := .bool true) (q_eql rfl rfl) (by rfl)) ?_
          refine t_q (q_pick_t rfl rfl) ?_
          refine t_q (q_mv (.bool _) rfl) ?_
          refine t_yes rfl rfl rfl ?_
          refine t_call Try.call26 (alives_calls) rfl ?_
          rintro e w ⟨rfl, hT⟩
          refine ⟨_, rfl, ?_⟩
          replace hS := hS.after hT
          refine t_q (q_pick_t rfl rfl) ?_
          refine t_q (q_as (.bool _) rfl) ?_
          refine t_nil ?_
          refine c_ret ?_
          refine r_one rfl rfl ?_
          exact ⟨rfl, hS.nil⟩
        · intro hg27
          have hg27d := of_decide_eq_false hg27
          refine t_yes rfl rfl hg27 ?_
          refine t_q (q_mv (.int _ _) rfl) ?_
          refine t_yes rfl rfl hg27 ?_
          refine t_q (q_gtr rfl rfl) ?_
          refine t_q (q_pick_f rfl hg27) ?_
          refine t_nil ?_
          refine c_cond rfl ?_ ?_
          · intro hc31
            have hc31d := of_decide_eq_true hc31
            refine c_seq ?_
            refine c_region ?_
            refine t_q (q_mv (.pointer _) rfl) ?_
            refine t_q (q_cast (v' := .bool true) (q_eql_ptr_nil Try.runUnderlying60 rfl rfl) (by rfl)) ?_
            refine t_q (q_mv (.bool _) rfl) ?_
            refine t_yes rfl rfl rfl ?_
            refine t_q (q_mv (.int _ _) rfl) ?_
            refine t_yes rfl rfl rfl ?_
            refine t_q (q_cast (v' := .bool true) (q_eql rfl rfl) (by rfl)) ?_
            refine t_q (q_pick_t rfl rfl) ?_
            refine t_q (q_mv (.bool _) rfl) ?_
            refine t_yes rfl rfl rfl ?_
            refine t_call Try.call26 (alives_calls) rfl ?_
            rintro e w ⟨rfl, hT⟩
            refine ⟨_, rfl, ?_⟩
            replace hS := hS.after hT
            refine t_q (q_pick_t rfl rfl) ?_
            refine t_q (q_as (.bool _) rfl) ?_
            refine t_nil ?_
            refine c_ret ?_
            refine r_one rfl rfl ?_
            exact ⟨rfl, hS.nil⟩
          · intro hc31
            have hc31d := of_decide_eq_false hc31
            exfalso; omega
      · intro hc21
        have hc21d := of_decide_eq_false hc21
        have hgn : (tlD a b n).gone = false := tlD_ok.2.1
        unfold tlD at hgn
        rw [if_neg (by omega)] at hgn
        refine c_skip ?_
        refine c_seq ?_
        refine c_region ?_
        refine t_q (q_mv (.pointer _) rfl) ?_
        refine t_q (q_mv (.int _ _) rfl) ?_
        refine t_call Try.call33 (open_arg (n := n) ((hS.pick (A := dskA gd _) (by repeat first | exact .here _ _ | assumption | apply Pick.there))) (.here _ _) hgn hn) rfl ?_
        rintro e w ⟨rfl, hS⟩
        refine ⟨_, rfl, ?_⟩
        refine t_q (q_mv (.tuple _) rfl) ?_
        refine t_q (q_extract rfl rfl) ?_
        refine t_q (q_extract rfl rfl) ?_
        refine t_q (q_as (.pointer _) rfl) ?_
        refine t_q (q_as (.int _ _) rfl) ?_
        refine t_nil ?_
        refine c_seq ?_
        refine c_seq ?_
        refine c_region ?_
        refine t_q (q_mv (.int _ _) rfl) ?_
        refine t_q (q_lss rfl rfl) ?_
        refine t_q (q_mv (.bool _) rfl) ?_
        refine t_case 71 rfl ?_ ?_
        · intro hg38
          have hg38d := of_decide_eq_true hg38
          refine t_no rfl rfl (by rw [hg38]; decide) ?_
          refine t_no rfl rfl (by rw [hg38]; decide) ?_
          refine t_q (q_pick_t rfl hg38) ?_
          refine t_nil ?_
          refine c_cond_t rfl rfl ?_
          refine c_seq ?_
          refine c_region ?_
          refine t_q (q_mv (.pointer _) rfl) ?_
          refine t_q (q_cast (v' := .bool true) (q_eql_ptr_nil Try.runUnderlying60 rfl rfl) (by rfl)) ?_
          refine t_q (q_mv (.bool _) rfl) ?_
          refine t_yes rfl rfl rfl ?_
          refine t_q (q_mv (.int _ _) rfl) ?_
          refine t_yes rfl rfl rfl ?_
          refine t_q (q_cast (v' := .bool true) (q_eql rfl rfl) (by rfl)) ?_
          refine t_q (q_pick_t rfl rfl) ?_
          refine t_q (q_mv (.bool _) rfl) ?_
          refine t_yes rfl rfl rfl ?_
          refine t_call Try.call26 (alives_calls) rfl ?_
          rintro e w ⟨rfl, hT⟩
          refine ⟨_, rfl, ?_⟩
          replace hS := hS.after hT
          refine t_q (q_pick_t rfl rfl) ?_
          refine t_q (q_as (.bool _) rfl) ?_
          refine t_nil ?_
          refine c_ret ?_
          refine r_one rfl rfl ?_
          exact ⟨rfl, hS.nil⟩
        · intro hg38
          have hg38d := of_decide_eq_false hg38
          refine t_yes rfl rfl hg38 ?_
          refine t_q (q_mv (.int _ _) rfl) ?_
          refine t_yes rfl rfl hg38 ?_
          refine t_q (q_gtr rfl rfl) ?_
          refine t_q (q_pick_f rfl hg38) ?_
          refine t_nil ?_
          refine c_cond rfl ?_ ?_
          · intro hc42
            have hc42d := of_decide_eq_true hc42
            refine c_seq ?_
            refine c_region ?_
            refine t_q (q_mv (.pointer _) rfl) ?_
            refine t_q (q_cast (v' := .bool true) (q_eql_ptr_nil Try.runUnderlying60 rfl rfl) (by rfl)) ?_
            refine t_q (q_mv (.bool _) rfl) ?_
            refine t_yes rfl rfl rfl ?_
            refine t_q (q_mv (.int _ _) rfl) ?_
            refine t_yes rfl rfl rfl ?_
            refine t_q (q_cast (v' := .bool true) (q_eql rfl rfl) (by rfl)) ?_
            refine t_q (q_pick_t rfl rfl) ?_
            refine t_q (q_mv (.bool _) rfl) ?_
            refine t_yes rfl rfl rfl ?_
            refine t_call Try.call26 (alives_calls) rfl ?_
            rintro e w ⟨rfl, hT⟩
            refine ⟨_, rfl, ?_⟩
            replace hS := hS.after hT
            refine t_q (q_pick_t rfl rfl) ?_
            refine t_q (q_as (.bool _) rfl) ?_
            refine t_nil ?_
            refine c_ret ?_
            refine r_one rfl rfl ?_
            exact ⟨rfl, hS.nil⟩
          · intro hc42
            have hc42d := of_decide_eq_false hc42
            exfalso; omega
theorem ArchiveTells_calls {Aa Ab : Option Addr} {ca cb : Nat} {a b : List UInt8} {n : Int} (ha : RdB W Aa a) (hb : RdB W Ab b) (hac : a.length ≤ ca) (hbc : b.length ≤ cb) (hab : a.length ≤ 9223372036854775807 ∧ b.length ≤ 9223372036854775807) (hn2 : -9223372036854775808 ≤ n ∧ n ≤ 9223372036854775807) : Calls Try.prog 8 #[.slice Aa a.length ca, .slice Ab b.length cb, .int .i64 n] W fun e w' => e = .returned (.bool true) ∧ St W w' [] := by
  by_cases h : n < 0 ∨ 30 < n
  · exact ArchiveTells_out ha hb hac hbc hab h hn2
  · obtain ⟨m, rfl⟩ : ∃ m : Nat, n = (m : Int) := ⟨n.toNat, by omega⟩
    exact ArchiveTells_in ha hb hac hbc hab (by omega)
end Go.Proofs.Ytlppgpidakfnlaa
