/- What any two files tell is the document's, or that they are wrong; what is opened tells that: the walk. -/
import Derived.Test.YtlppgpidakfnlaaBk
namespace Go.Proofs.Ytlppgpidakfnlaa
open Go Go.RowKit Go.Lib
variable {W : World}
/-- behind two files that were written: what is opened of them -/
theorem ap_gone {d : Dk} {i c : Int} {F : Nat → List UInt8 × Nat} (hg : d.gone = false) (hf : d.fuse < 0) : (apD d i c F).gone = false ∧ (apD d i c F).fuse = d.fuse := by
  obtain ⟨b1, b2, _, _⟩ := blow_ok hg hf
  unfold apD
  split
  · exact ⟨hg, rfl⟩
  · exact ⟨b1, b2⟩
theorem apE_zero {F : Nat → List UInt8 × Nat} {i m : Nat} (h : (F i).1.length + m ≤ 1048576) : apE F i m = 0 := by unfold apE; rw [if_neg (by omega)]
def tlD (a b : List UInt8) (n : Int) : Dk := if n < 31 then apD (apD D0 n (apE D0.F n.toNat a.length) (apF D0.F n.toNat a)) (n + 1) (apE (apD D0 n (apE D0.F n.toNat a.length) (apF D0.F n.toNat a)).F (n + 1).toNat b.length) (apF (apD D0 n (apE D0.F n.toNat a.length) (apF D0.F n.toNat a)).F (n + 1).toNat b) else apD D0 n (apE D0.F n.toNat a.length) (apF D0.F n.toNat a)
theorem tlD_ok {a b : List UInt8} {n : Int} : DGood (tlD a b n) ∧ (tlD a b n).gone = false ∧ (tlD a b n).fuse = -1 ∧ (tlD a b n).calls ≤ 2 := by
  have h1 : DGood (apD D0 n (apE D0.F n.toNat a.length) (apF D0.F n.toNat a)) := DGood.zero.ap
  obtain ⟨g1, f1⟩ := ap_gone (i := n) (c := apE D0.F n.toNat a.length) (F := apF D0.F n.toNat a) D0k.2.1 D0k.2.2.1
  have c1 : (apD D0 n (apE D0.F n.toNat a.length) (apF D0.F n.toNat a)).calls ≤ D0.calls + 1 := ap_cal
  have c0 : D0.calls = 0 := rfl
  have f0 : D0.fuse = -1 := rfl
  unfold tlD
  split
  · obtain ⟨g2, f2⟩ := ap_gone (i := n + 1) (c := apE (apD D0 n (apE D0.F n.toNat a.length) (apF D0.F n.toNat a)).F (n + 1).toNat b.length) (F := apF (apD D0 n (apE D0.F n.toNat a.length) (apF D0.F n.toNat a)).F (n + 1).toNat b) g1 (by omega)
    have c2 := ap_cal (d := apD D0 n (apE D0.F n.toNat a.length) (apF D0.F n.toNat a)) (i := n + 1) (c := apE (apD D0 n (apE D0.F n.toNat a.length) (apF D0.F n.toNat a)).F (n + 1).toNat b.length) (F := apF (apD D0 n (apE D0.F n.toNat a.length) (apF D0.F n.toNat a)).F (n + 1).toNat b)
    exact ⟨h1.ap, g2, by omega, by omega⟩
  · exact ⟨h1, g1, by omega, by omega⟩
theorem tlD_F {a b : List UInt8} {n : Nat} (hn : n ≤ 30) (ha : a.length ≤ 5000) (hb : b.length ≤ 5000) : ((tlD a b (n : Int)).F n).1 = a ∧ ((tlD a b (n : Int)).F (n + 1)).1 = b := by
  have e0 : apE D0.F n a.length = 0 := by unfold apE; rw [if_neg]; show ¬ 1048576 < 0 + a.length; omega
  obtain ⟨_, F1, g1, u1⟩ := ap_run (d := D0) (i := (n : Int)) (c := apE D0.F n a.length) (F := apF D0.F n a) e0 rfl D0k.2.2.1 (by omega)
  have k1 : (apF D0.F n a) n = (a, 0) := by unfold apF; rw [updF_at]; rfl
  have k2 : (apF D0.F n a) (n + 1) = ([], 0) := by unfold apF; rw [updF_ne (by omega)]; rfl
  unfold tlD
  rw [if_pos (by omega), show ((n : Int)).toNat = n by omega, show ((n : Int) + 1).toNat = n + 1 by omega]
  have e1 : apE (apD D0 (n : Int) (apE D0.F n a.length) (apF D0.F n a)).F (n + 1) b.length = 0 := apE_zero (by
    rw [F1, k2]
    show 0 + b.length ≤ _
    omega)
  obtain ⟨_, F2, _, _⟩ := ap_run (d := apD D0 (n : Int) (apE D0.F n a.length) (apF D0.F n a)) (i := (n : Int) + 1) (c := apE (apD D0 (n : Int) (apE D0.F n a.length) (apF D0.F n a)).F (n + 1) b.length) (F := apF (apD D0 (n : Int) (apE D0.F n a.length) (apF D0.F n a)).F (n + 1) b) e1 g1 (by rw [u1]; exact D0k.2.2.1) (by omega)
  rw [F2]
  unfold apF
  rw [updF_ne (by omega), updF_at]
  refine ⟨?_, ?_⟩
  · have h := congrFun F1 n
    unfold apF at h k1
    rw [h, k1]
  · have h := congrFun F1 (n + 1)
    unfold apF at h k2
    show (_ ++ b) = b
    rw [h, k2]
    rfl
attribute [local irreducible] blkA rowA rdrA rdO dskA blA
set_option maxHeartbeats 2000000 in
set_option maxRecDepth 100000 in
theorem BallotTells_out {Aa Ab : Option Addr} {ca cb : Nat} {a b : List UInt8} {n ea : Int} (ha : RdB W Aa a) (hb : RdB W Ab b) (hac : a.length ≤ ca) (hbc : b.length ≤ cb) (hab : a.length ≤ 9223372036854775807 ∧ b.length ≤ 9223372036854775807) (hn : n < 0 ∨ 30 < n ∨ ea < 16 ∨ 1048576 < ea) (hn2 : -9223372036854775808 ≤ n ∧ n ≤ 9223372036854775807) : Calls Try.prog 12 #[.slice Aa a.length ca, .slice Ab b.length cb, .int .i64 n, .int .i64 ea] W fun e w' => e = .returned (.bool true) ∧ St W w' [] := by
  have hS := St.init W
  have h7 := (btl_in a b).2
  refine calls_of_wpE (args := [_, _, _, _]) Try.func12 rfl rfl rfl ?_
  refine c_seq ?_
  refine c_region ?_
  refine t_q (q_assign) ?_
  refine t_nil ?_
  refine c_seq ?_
  refine c_seq ?_
  refine c_region ?_
  refine t_q (q_mv (.slice _ _ _) rfl) ?_
  refine t_q (q_len_slice Try.runUnderlying25 rfl) ?_
  refine t_q (q_gtr rfl rfl) ?_
  refine t_q (q_mv (.bool _) rfl) ?_
  refine t_case 21 rfl ?_ ?_
  · intro hg2
    have hg2d := of_decide_eq_true hg2
    refine t_no rfl rfl (by rw [hg2]; decide) ?_
    refine t_no rfl rfl (by rw [hg2]; decide) ?_
    refine t_no rfl rfl (by rw [hg2]; decide) ?_
    refine t_q (q_pick_t rfl hg2) ?_
    refine t_nil ?_
    refine c_cond_t rfl rfl ?_
    refine c_seq ?_
    refine c_region ?_
    refine t_call Try.call46 (blives_calls) rfl ?_
    rintro e w ⟨rfl, hT⟩
    refine ⟨_, rfl, ?_⟩
    replace hS := hS.after hT
    refine t_q (q_as (.bool _) rfl) ?_
    refine t_nil ?_
    refine c_ret ?_
    refine r_one rfl rfl ?_
    exact ⟨rfl, hS.nil⟩
  · intro hg2
    have hg2d := of_decide_eq_false hg2
    refine t_yes rfl rfl hg2 ?_
    refine t_q (q_mv (.slice _ _ _) rfl) ?_
    refine t_yes rfl rfl hg2 ?_
    refine t_q (q_len_slice Try.runUnderlying25 rfl) ?_
    refine t_yes rfl rfl hg2 ?_
    refine t_q (q_gtr rfl rfl) ?_
    refine t_q (q_pick_f rfl hg2) ?_
    refine t_nil ?_
    refine c_cond rfl ?_ ?_
    · intro hc5
      have hc5d := of_decide_eq_true hc5
      refine c_seq ?_
      refine c_region ?_
      refine t_call Try.call46 (blives_calls) rfl ?_
      rintro e w ⟨rfl, hT⟩
      refine ⟨_, rfl, ?_⟩
      replace hS := hS.after hT
      refine t_q (q_as (.bool _) rfl) ?_
      refine t_nil ?_
      refine c_ret ?_
      refine r_one rfl rfl ?_
      exact ⟨rfl, hS.nil⟩
    · intro hc5
      have hc5d := of_decide_eq_false hc5
      refine c_skip ?_
      refine c_seq ?_
      refine c_region ?_
      refine t_q (q_mv (.slice _ _ _) rfl) ?_
      refine t_q (q_mv (.slice _ _ _) rfl) ?_
      refine t_call Try.call56 (bTell_calls (Rd.st ha hS) (Rd.st hb hS) ⟨hac, by omega⟩ ⟨hbc, by omega⟩) rfl ?_
      rintro e w ⟨rfl, hT⟩
      refine ⟨_, rfl, ?_⟩
      replace hS := hS.after hT
      refine t_q (q_mv (.tuple _) rfl) ?_
      refine t_q (q_extract rfl rfl) ?_
      refine t_q (q_extract rfl rfl) ?_
      refine t_q (q_extract rfl rfl) ?_
      refine t_q (q_as (.int _ _) rfl) ?_
      refine t_q (q_as (.int _ _) rfl) ?_
      refine t_q (q_as (.int _ _) rfl) ?_
      refine t_nil ?_
      refine c_seq ?_
      refine c_region ?_
      refine t_q (q_mv (.slice _ _ _) rfl) ?_
      refine t_q (q_mv (.slice _ _ _) rfl) ?_
      refine t_call Try.call51 (qbTell_calls (Rd.st ha hS) (Rd.st hb hS) ⟨hac, by omega⟩ ⟨hbc, by omega⟩) rfl ?_
      rintro e w ⟨rfl, hT⟩
      refine ⟨_, rfl, ?_⟩
      replace hS := hS.after hT
      refine t_q (q_mv (.tuple _) rfl) ?_
      refine t_q (q_extract rfl rfl) ?_
      refine t_q (q_extract rfl rfl) ?_
      refine t_q (q_extract rfl rfl) ?_
      refine t_q (q_as (.int _ _) rfl) ?_
      refine t_q (q_as (.int _ _) rfl) ?_
      refine t_q (q_as (.int _ _) rfl) ?_
      refine t_nil ?_
      refine c_seq ?_
      refine c_seq ?_
      refine c_region ?_
      refine t_q (q_mv (.int _ _) rfl) ?_
      refine t_q (q_mv (.int _ _) rfl) ?_
      refine t_q (q_cast (v' := .bool false) (q_neq rfl rfl) (by simp)) ?_
      refine t_q (q_mv (.bool _) rfl) ?_
      refine t_yes rfl rfl rfl ?_
      refine t_q (q_mv (.int _ _) rfl) ?_
      refine t_yes rfl rfl rfl ?_
      refine t_q (q_mv (.int _ _) rfl) ?_
      refine t_yes rfl rfl rfl ?_
      refine t_q (q_cast (v' := .bool false) (q_neq rfl rfl) (by simp)) ?_
      refine t_q (q_pick_f rfl rfl) ?_
      refine t_q (q_mv (.bool _) rfl) ?_
      refine t_yes rfl rfl rfl ?_
      refine t_q (q_mv (.int _ _) rfl) ?_
      refine t_yes rfl rfl rfl ?_
      refine t_q (q_mv (.int _ _) rfl) ?_
      refine t_yes rfl rfl rfl ?_
      refine t_q (q_cast (v' := .bool false) (q_neq rfl rfl) (by simp)) ?_
      refine t_q (q_pick_f rfl rfl) ?_
      refine t_nil ?_
      refine c_cond_f rfl rfl ?_
      refine c_skip ?_
      refine c_seq ?_
      refine c_region ?_
      refine t_call Try.call32 (dnew_calls hS) rfl ?_
      rintro e w ⟨gd, rfl, hS⟩
      refine ⟨_, rfl, ?_⟩
      refine t_q (q_as (.pointer _) rfl) ?_
      refine t_nil ?_
      refine c_seq ?_
      refine c_region ?_
      refine t_q (q_mv (.pointer _) rfl) ?_
      refine t_q (q_mv (.int _ _) rfl) ?_
      refine t_q (q_mv (.slice _ _ _) rfl) ?_
      refine t_call Try.call39 (app_calls (d := D0) (i := n) (ys := a) hS (by repeat first | exact .here _ _ | assumption | apply Pick.there) DGood.zero (by decide) (fun w h => Rd.st ha h) rfl (by omega)) rfl ?_
      rintro e w ⟨rfl, hS⟩
      refine ⟨_, rfl, ?_⟩
      refine t_nil ?_
      refine c_seq ?_
      refine c_seq ?_
      refine c_region ?_
      refine t_q (q_mv (.int _ _) rfl) ?_
      refine t_q (q_lss rfl rfl) ?_
      refine t_nil ?_
      refine c_cond rfl ?_ ?_
      · intro hc21
        have hc21d := of_decide_eq_true hc21
        have hgn : (tlD a b n).gone = false := tlD_ok.2.1
        unfold tlD at hgn
        rw [if_pos (by omega)] at hgn
        refine c_region ?_
        refine t_q (q_mv (.pointer _) rfl) ?_
        refine t_q (q_mv (.int _ _) rfl) ?_
        refine t_q (q_add_i64 rfl rfl (by omega)) ?_
        refine t_q (q_mv (.slice _ _ _) rfl) ?_
        refine t_call Try.call39 (app_calls (i := n + 1) (ys := b) hS (by repeat first | exact .here _ _ | assumption | apply Pick.there) DGood.zero.ap (by have h : (apD D0 n (apE D0.F n.toNat a.length) (apF D0.F n.toNat a)).calls ≤ D0.calls + 1 := ap_cal; have h0 : D0.calls = 0 := rfl; omega) (fun w h => Rd.st hb h) rfl (by omega)) rfl ?_
        rintro e w ⟨rfl, hS⟩
        refine ⟨_, rfl, ?_⟩
        refine t_nil ?_
        refine c_seq ?_
        refine c_region ?_
        refine t_q (q_mv (.pointer _) rfl) ?_
        refine t_q (q_mv (.int _ _) rfl) ?_
        refine t_q (q_mv (.int _ _) rfl) ?_
        refine t_call Try.call47 (bopen_arg (n := n) (ea := ea) ((hS.pick (A := dskA gd _) (by repeat first | exact .here _ _ | assumption | apply Pick.there))) (.here _ _) hgn hn) rfl ?_
        rintro e w ⟨rfl, hS⟩
        refine ⟨_, rfl, ?_⟩
        refine t_q (q_mv (.tuple _) rfl) ?_
        refine t_q (q_extract rfl rfl) ?_
        refine t_q (q_extract rfl rfl) ?_
        refine t_q (q_as (.pointer _) rfl) ?_
        refine t_q (q_as (.int _ _) rfl) ?_
        refine t_nil ?_
        refine c_seq ?_
        refine c_seq ?_
        refine c_region ?_
        refine t_q (q_mv (.int _ _) rfl) ?_
        refine t_q (q_lss rfl rfl) ?_
        refine t_q (q_mv (.bool _) rfl) ?_
        refine t_case 75 rfl ?_ ?_
        · intro hg27
          have hg27d := of_decide_eq_true hg27
          refine t_no rfl rfl (by rw [hg27]; decide) ?_
          refine t_no rfl rfl (by rw [hg27]; decide) ?_
          refine t_q (q_pick_t rfl hg27) ?_
          refine t_q (q_mv (.bool _) rfl) ?_
          refine t_no rfl rfl (by decide) ?_
          refine t_no rfl rfl (by decide) ?_
          refine t_q (q_pick_t rfl rfl) ?_
          refine t_q (q_mv (.bool _) rfl) ?_
          refine t_no rfl rfl (by decide) ?_
          refine t_no rfl rfl (by decide) ?_
          refine t_q (q_pick_t rfl rfl) ?_
          refine t_nil ?_
          refine c_cond_t rfl rfl ?_
          refine c_seq ?_
          refine c_region ?_
          refine t_q (q_mv (.pointer _) rfl) ?_
          refine t_q (q_eql_ptr_nil Try.runUnderlying85 rfl rfl) ?_
          refine t_q (q_mv (.bool _) rfl) ?_
          refine t_yes rfl rfl rfl ?_
          refine t_q (q_mv (.int _ _) rfl) ?_
          refine t_yes rfl rfl rfl ?_
          refine t_q (q_cast (v' := .bool true) (q_eql rfl rfl) (by rfl)) ?_
          refine t_q (q_pick_t rfl rfl) ?_
          refine t_q (q_mv (.bool _) rfl) ?_
          refine t_yes rfl rfl rfl ?_
          refine t_q (q_mv (.pointer _) rfl) ?_
          refine t_yes rfl rfl rfl ?_
          refine t_call Try.call54 (bvote_nil) rfl ?_
          rintro e w ⟨rfl, hT⟩
          refine ⟨_, rfl, ?_⟩
          replace hS := hS.after hT
          refine t_yes rfl rfl rfl ?_
          refine t_q (q_cast (v' := .bool true) (q_eql rfl rfl) (by rfl)) ?_
          refine t_q (q_pick_t rfl rfl) ?_
          refine t_q (q_mv (.bool _) rfl) ?_
          refine t_yes rfl rfl rfl ?_
          refine t_call Try.call46 (blives_calls) rfl ?_
          rintro e w ⟨rfl, hT⟩
          refine ⟨_, rfl, ?_⟩
          replace hS := hS.after hT
          refine t_q (q_pick_t rfl rfl) ?_
          refine t_q (q_as (.bool _) rfl) ?_
          refine t_nil ?_
          refine c_ret ?_
          refine r_one rfl rfl ?_
          exact ⟨rfl, hS.nil⟩
        · intro hg27
          have hg27d := of_decide_eq_false hg27
          refine t_yes rfl rfl hg27 ?_
          refine t_q (q_mv (.int _ _) rfl) ?_
          refine t_yes rfl rfl hg27 ?_
          refine t_q (q_gtr rfl rfl) ?_
          refine t_q (q_pick_f rfl hg27) ?_
          refine t_q (q_mv (.bool _) rfl) ?_
          refine t_case 79 rfl ?_ ?_
          · intro hg33
            have hg33d := of_decide_eq_true hg33
            refine t_no rfl rfl (by rw [hg33]; decide) ?_
            refine t_no rfl rfl (by rw [hg33]; decide) ?_
            refine t_q (q_pick_t rfl hg33) ?_
            refine t_q (q_mv (.bool _) rfl) ?_
            refine t_no rfl rfl (by decide) ?_
            refine t_no rfl rfl (by decide) ?_
            refine t_q (q_pick_t rfl rfl) ?_
            refine t_nil ?_
            refine c_cond_t rfl rfl ?_
            refine c_seq ?_
            refine c_region ?_
            refine t_q (q_mv (.pointer _) rfl) ?_
            refine t_q (q_eql_ptr_nil Try.runUnderlying85 rfl rfl) ?_
            refine t_q (q_mv (.bool _) rfl) ?_
            refine t_yes rfl rfl rfl ?_
            refine t_q (q_mv (.int _ _) rfl) ?_
            refine t_yes rfl rfl rfl ?_
            refine t_q (q_cast (v' := .bool true) (q_eql rfl rfl) (by rfl)) ?_
            refine t_q (q_pick_t rfl rfl) ?_
            refine t_q (q_mv (.bool _) rfl) ?_
            refine t_yes rfl rfl rfl ?_
            refine t_q (q_mv (.pointer _) rfl) ?_
            refine t_yes rfl rfl rfl ?_
            refine t_call Try.call54 (bvote_nil) rfl ?_
            rintro e w ⟨rfl, hT⟩
            refine ⟨_, rfl, ?_⟩
            replace hS := hS.after hT
            refine t_yes rfl rfl rfl ?_
            refine t_q (q_cast (v' := .bool true) (q_eql rfl rfl) (by rfl)) ?_
            refine t_q (q_pick_t rfl rfl) ?_
            refine t_q (q_mv (.bool _) rfl) ?_
            refine t_yes rfl rfl rfl ?_
            refine t_call Try.call46 (blives_calls) rfl ?_
            rintro e w ⟨rfl, hT⟩
            refine ⟨_, rfl, ?_⟩
            replace hS := hS.after hT
            refine t_q (q_pick_t rfl rfl) ?_
            refine t_q (q_as (.bool _) rfl) ?_
            refine t_nil ?_
            refine c_ret ?_
            refine r_one rfl rfl ?_
            exact ⟨rfl, hS.nil⟩
          · intro hg33
            have hg33d := of_decide_eq_false hg33
            refine t_yes rfl rfl hg33 ?_
            refine t_q (q_mv (.int _ _) rfl) ?_
            refine t_yes rfl rfl hg33 ?_
            refine t_q (q_lss rfl rfl) ?_
            refine t_q (q_pick_f rfl hg33) ?_
            refine t_q (q_mv (.bool _) rfl) ?_
            refine t_case 83 rfl ?_ ?_
            · intro hg39
              have hg39d := of_decide_eq_true hg39
              refine t_no rfl rfl (by rw [hg39]; decide) ?_
              refine t_no rfl rfl (by rw [hg39]; decide) ?_
              refine t_q (q_pick_t rfl hg39) ?_
              refine t_nil ?_
              refine c_cond_t rfl rfl ?_
              refine c_seq ?_
              refine c_region ?_
              refine t_q (q_mv (.pointer _) rfl) ?_
              refine t_q (q_eql_ptr_nil Try.runUnderlying85 rfl rfl) ?_
              refine t_q (q_mv (.bool _) rfl) ?_
              refine t_yes rfl rfl rfl ?_
              refine t_q (q_mv (.int _ _) rfl) ?_
              refine t_yes rfl rfl rfl ?_
              refine t_q (q_cast (v' := .bool true) (q_eql rfl rfl) (by rfl)) ?_
              refine t_q (q_pick_t rfl rfl) ?_
              refine t_q (q_mv (.bool _) rfl) ?_
              refine t_yes rfl rfl rfl ?_
              refine t_q (q_mv (.pointer _) rfl) ?_
              refine t_yes rfl rfl rfl ?_
              refine t_call Try.call54 (bvote_nil) rfl ?_
              rintro e w ⟨rfl, hT⟩
              refine ⟨_, rfl, ?_⟩
              replace hS := hS.after hT
              refine t_yes rfl rfl rfl ?_
              refine t_q (q_cast (v' := .bool true) (q_eql rfl rfl) (by rfl)) ?_
              refine t_q (q_pick_t rfl rfl) ?_
              refine t_q (q_mv (.bool _) rfl) ?_
              refine t_yes rfl rfl rfl ?_
              refine t_call Try.call46 (blives_calls) rfl ?_
              rintro e w ⟨rfl, hT⟩
              refine ⟨_, rfl, ?_⟩
              replace hS := hS.after hT
              refine t_q (q_pick_t rfl rfl) ?_
              refine t_q (q_as (.bool _) rfl) ?_
              refine t_nil ?_
              refine c_ret ?_
              refine r_one rfl rfl ?_
              exact ⟨rfl, hS.nil⟩
            · intro hg39
              have hg39d := of_decide_eq_false hg39
              refine t_yes rfl rfl hg39 ?_
              refine t_q (q_mv (.int _ _) rfl) ?_
              refine t_yes rfl rfl hg39 ?_
              refine t_q (q_gtr rfl rfl) ?_
              refine t_q (q_pick_f rfl hg39) ?_
              refine t_nil ?_
              refine c_cond rfl ?_ ?_
              · intro hc45
                have hc45d := of_decide_eq_true hc45
                refine c_seq ?_
                refine c_region ?_
                refine t_q (q_mv (.pointer _) rfl) ?_
                refine t_q (q_eql_ptr_nil Try.runUnderlying85 rfl rfl) ?_
                refine t_q (q_mv (.bool _) rfl) ?_
                refine t_yes rfl rfl rfl ?_
                refine t_q (q_mv (.int _ _) rfl) ?_
                refine t_yes rfl rfl rfl ?_
                refine t_q (q_cast (v' := .bool true) (q_eql rfl rfl) (by rfl)) ?_
                refine t_q (q_pick_t rfl rfl) ?_
                refine t_q (q_mv (.bool _) rfl) ?_
                refine t_yes rfl rfl rfl ?_
                refine t_q (q_mv (.pointer _) rfl) ?_
                refine t_yes rfl rfl rfl ?_
                refine t_call Try.call54 (bvote_nil) rfl ?_
                rintro e w ⟨rfl, hT⟩
                refine ⟨_, rfl, ?_⟩
                replace hS := hS.after hT
                refine t_yes rfl rfl rfl ?_
                refine t_q (q_cast (v' := .bool true) (q_eql rfl rfl) (by rfl)) ?_
                refine t_q (q_pick_t rfl rfl) ?_
                refine t_q (q_mv (.bool _) rfl) ?_
                refine t_yes rfl rfl rfl ?_
                refine t_call Try.call46 (blives_calls) rfl ?_
                rintro e w ⟨rfl, hT⟩
                refine ⟨_, rfl, ?_⟩
                replace hS := hS.after hT
                refine t_q (q_pick_t rfl rfl) ?_
                refine t_q (q_as (.bool _) rfl) ?_
                refine t_nil ?_
                refine c_ret ?_
                refine r_one rfl rfl ?_
                exact ⟨rfl, hS.nil⟩
              · intro hc45
                have hc45d := of_decide_eq_false hc45
                exfalso; omega
      · intro hc21
        have hc21d := of_decide_eq_false hc21
        have hgn : (tlD a b n).gone = false := tlD_ok.2.1
        unfold tlD at hgn
        rw [if_neg (by omega)] at hgn
        refine c_skip ?_
        refine c_seq ?_
        refine c_region ?_
        refine t_q (q_mv (.pointer _) rfl) ?_
        refine t_q (q_mv (.int _ _) rfl) ?_
        refine t_q (q_mv (.int _ _) rfl) ?_
        refine t_call Try.call47 (bopen_arg (n := n) (ea := ea) ((hS.pick (A := dskA gd _) (by repeat first | exact .here _ _ | assumption | apply Pick.there))) (.here _ _) hgn hn) rfl ?_
        rintro e w ⟨rfl, hS⟩
        refine ⟨_, rfl, ?_⟩
        refine t_q (q_mv (.tuple _) rfl) ?_
        refine t_q (q_extract rfl rfl) ?_
        refine t_q (q_extract rfl rfl) ?_
        refine t_q (q_as (.pointer _) rfl) ?_
        refine t_q (q_as (.int _ _) rfl) ?_
        refine t_nil ?_
        refine c_seq ?_
        refine c_seq ?_
        refine c_region ?_
        refine t_q (q_mv (.int _ _) rfl) ?_
        refine t_q (q_lss rfl rfl) ?_
        refine t_q (q_mv (.bool _) rfl) ?_
        refine t_case 75 rfl ?_ ?_
        · intro hg54
          have hg54d := of_decide_eq_true hg54
          refine t_no rfl rfl (by rw [hg54]; decide) ?_
          refine t_no rfl rfl (by rw [hg54]; decide) ?_
          refine t_q (q_pick_t rfl hg54) ?_
          refine t_q (q_mv (.bool _) rfl) ?_
          refine t_no rfl rfl (by decide) ?_
          refine t_no rfl rfl (by decide) ?_
          refine t_q (q_pick_t rfl rfl) ?_
          refine t_q (q_mv (.bool _) rfl) ?_
          refine t_no rfl rfl (by decide) ?_
          refine t_no rfl rfl (by decide) ?_
          refine t_q (q_pick_t rfl rfl) ?_
          refine t_nil ?_
          refine c_cond_t rfl rfl ?_
          refine c_seq ?_
          refine c_region ?_
          refine t_q (q_mv (.pointer _) rfl) ?_
          refine t_q (q_eql_ptr_nil Try.runUnderlying85 rfl rfl) ?_
          refine t_q (q_mv (.bool _) rfl) ?_
          refine t_yes rfl rfl rfl ?_
          refine t_q (q_mv (.int _ _) rfl) ?_
          refine t_yes rfl rfl rfl ?_
          refine t_q (q_cast (v' := .bool true) (q_eql rfl rfl) (by rfl)) ?_
          refine t_q (q_pick_t rfl rfl) ?_
          refine t_q (q_mv (.bool _) rfl) ?_
          refine t_yes rfl rfl rfl ?_
          refine t_q (q_mv (.pointer _) rfl) ?_
          refine t_yes rfl rfl rfl ?_
          refine t_call Try.call54 (bvote_nil) rfl ?_
          rintro e w ⟨rfl, hT⟩
          refine ⟨_, rfl, ?_⟩
          replace hS := hS.after hT
          refine t_yes rfl rfl rfl ?_
          refine t_q (q_cast (v' := .bool true) (q_eql rfl rfl) (by rfl)) ?_
          refine t_q (q_pick_t rfl rfl) ?_
          refine t_q (q_mv (.bool _) rfl) ?_
          refine t_yes rfl rfl rfl ?_
          refine t_call Try.call46 (blives_calls) rfl ?_
          rintro e w ⟨rfl, hT⟩
          refine ⟨_, rfl, ?_⟩
          replace hS := hS.after hT
          refine t_q (q_pick_t rfl rfl) ?_
          refine t_q (q_as (.bool _) rfl) ?_
          refine t_nil ?_
          refine c_ret ?_
          refine r_one rfl rfl ?_
          exact ⟨rfl, hS.nil⟩
        · intro hg54
          have hg54d := of_decide_eq_false hg54
          refine t_yes rfl rfl hg54 ?_
          refine t_q (q_mv (.int _ _) rfl) ?_
          refine t_yes rfl rfl hg54 ?_
          refine t_q (q_gtr rfl rfl) ?_
          refine t_q (q_pick_f rfl hg54) ?_
          refine t_q (q_mv (.bool _) rfl) ?_
          refine t_case 79 rfl ?_ ?_
          · intro hg60
            have hg60d := of_decide_eq_true hg60
            refine t_no rfl rfl (by rw [hg60]; decide) ?_
            refine t_no rfl rfl (by rw [hg60]; decide) ?_
            refine t_q (q_pick_t rfl hg60) ?_
            refine t_q (q_mv (.bool _) rfl) ?_
            refine t_no rfl rfl (by decide) ?_
            refine t_no rfl rfl (by decide) ?_
            refine t_q (q_pick_t rfl rfl) ?_
            refine t_nil ?_
            refine c_cond_t rfl rfl ?_
            refine c_seq ?_
            refine c_region ?_
            refine t_q (q_mv (.pointer _) rfl) ?_
            refine t_q (q_eql_ptr_nil Try.runUnderlying85 rfl rfl) ?_
            refine t_q (q_mv (.bool _) rfl) ?_
            refine t_yes rfl rfl rfl ?_
            refine t_q (q_mv (.int _ _) rfl) ?_
            refine t_yes rfl rfl rfl ?_
            refine t_q (q_cast (v' := .bool true) (q_eql rfl rfl) (by rfl)) ?_
            refine t_q (q_pick_t rfl rfl) ?_
            refine t_q (q_mv (.bool _) rfl) ?_
            refine t_yes rfl rfl rfl ?_
            refine t_q (q_mv (.pointer _) rfl) ?_
            refine t_yes rfl rfl rfl ?_
            refine t_call Try.call54 (bvote_nil) rfl ?_
            rintro e w ⟨rfl, hT⟩
            refine ⟨_, rfl, ?_⟩
            replace hS := hS.after hT
            refine t_yes rfl rfl rfl ?_
            refine t_q (q_cast (v' := .bool true) (q_eql rfl rfl) (by rfl)) ?_
            refine t_q (q_pick_t rfl rfl) ?_
            refine t_q (q_mv (.bool _) rfl) ?_
            refine t_yes rfl rfl rfl ?_
            refine t_call Try.call46 (blives_calls) rfl ?_
            rintro e w ⟨rfl, hT⟩
            refine ⟨_, rfl, ?_⟩
            replace hS := hS.after hT
            refine t_q (q_pick_t rfl rfl) ?_
            refine t_q (q_as (.bool _) rfl) ?_
            refine t_nil ?_
            refine c_ret ?_
            refine r_one rfl rfl ?_
            exact ⟨rfl, hS.nil⟩
          · intro hg60
            have hg60d := of_decide_eq_false hg60
            refine t_yes rfl rfl hg60 ?_
            refine t_q (q_mv (.int _ _) rfl) ?_
            refine t_yes rfl rfl hg60 ?_
            refine t_q (q_lss rfl rfl) ?_
            refine t_q (q_pick_f rfl hg60) ?_
            refine t_q (q_mv (.bool _) rfl) ?_
            refine t_case 83 rfl ?_ ?_
            · intro hg66
              have hg66d := of_decide_eq_true hg66
              refine t_no rfl rfl (by rw [hg66]; decide) ?_
              refine t_no rfl rfl (by rw [hg66]; decide) ?_
              refine t_q (q_pick_t rfl hg66) ?_
              refine t_nil ?_
              refine c_cond_t rfl rfl ?_
              refine c_seq ?_
              refine c_region ?_
              refine t_q (q_mv (.pointer _) rfl) ?_
              refine t_q (q_eql_ptr_nil Try.runUnderlying85 rfl rfl) ?_
              refine t_q (q_mv (.bool _) rfl) ?_
              refine t_yes rfl rfl rfl ?_
              refine t_q (q_mv (.int _ _) rfl) ?_
              refine t_yes rfl rfl rfl ?_
              refine t_q (q_cast (v' := .bool true) (q_eql rfl rfl) (by rfl)) ?_
              refine t_q (q_pick_t rfl rfl) ?_
              refine t_q (q_mv (.bool _) rfl) ?_
              refine t_yes rfl rfl rfl ?_
              refine t_q (q_mv (.pointer _) rfl) ?_
              refine t_yes rfl rfl rfl ?_
              refine t_call Try.call54 (bvote_nil) rfl ?_
              rintro e w ⟨rfl, hT⟩
              refine ⟨_, rfl, ?_⟩
              replace hS := hS.after hT
              refine t_yes rfl rfl rfl ?_
              refine t_q (q_cast (v' := .bool true) (q_eql rfl rfl) (by rfl)) ?_
              refine t_q (q_pick_t rfl rfl) ?_
              refine t_q (q_mv (.bool _) rfl) ?_
              refine t_yes rfl rfl rfl ?_
              refine t_call Try.call46 (blives_calls) rfl ?_
              rintro e w ⟨rfl, hT⟩
              refine ⟨_, rfl, ?_⟩
              replace hS := hS.after hT
              refine t_q (q_pick_t rfl rfl) ?_
              refine t_q (q_as (.bool _) rfl) ?_
              refine t_nil ?_
              refine c_ret ?_
              refine r_one rfl rfl ?_
              exact ⟨rfl, hS.nil⟩
            · intro hg66
              have hg66d := of_decide_eq_false hg66
              refine t_yes rfl rfl hg66 ?_
              refine t_q (q_mv (.int _ _) rfl) ?_
              refine t_yes rfl rfl hg66 ?_
              refine t_q (q_gtr rfl rfl) ?_
              refine t_q (q_pick_f rfl hg66) ?_
              refine t_nil ?_
              refine c_cond rfl ?_ ?_
              · intro hc72
                have hc72d := of_decide_eq_true hc72
                refine c_seq ?_
                refine c_region ?_
                refine t_q (q_mv (.pointer _) rfl) ?_
                refine t_q (q_eql_ptr_nil Try.runUnderlying85 rfl rfl) ?_
                refine t_q (q_mv (.bool _) rfl) ?_
                refine t_yes rfl rfl rfl ?_
                refine t_q (q_mv (.int _ _) rfl) ?_
                refine t_yes rfl rfl rfl ?_
                refine t_q (q_cast (v' := .bool true) (q_eql rfl rfl) (by rfl)) ?_
                refine t_q (q_pick_t rfl rfl) ?_
                refine t_q (q_mv (.bool _) rfl) ?_
                refine t_yes rfl rfl rfl ?_
                refine t_q (q_mv (.pointer _) rfl) ?_
                refine t_yes rfl rfl rfl ?_
                refine t_call Try.call54 (bvote_nil) rfl ?_
                rintro e w ⟨rfl, hT⟩
                refine ⟨_, rfl, ?_⟩
                replace hS := hS.after hT
                refine t_yes rfl rfl rfl ?_
                refine t_q (q_cast (v' := .bool true) (q_eql rfl rfl) (by rfl)) ?_
                refine t_q (q_pick_t rfl rfl) ?_
                refine t_q (q_mv (.bool _) rfl) ?_
                refine t_yes rfl rfl rfl ?_
                refine t_call Try.call46 (blives_calls) rfl ?_
                rintro e w ⟨rfl, hT⟩
                refine ⟨_, rfl, ?_⟩
                replace hS := hS.after hT
                refine t_q (q_pick_t rfl rfl) ?_
                refine t_q (q_as (.bool _) rfl) ?_
                refine t_nil ?_
                refine c_ret ?_
                refine r_one rfl rfl ?_
                exact ⟨rfl, hS.nil⟩
              · intro hc72
                have hc72d := of_decide_eq_false hc72
                exfalso; omega
set_option maxHeartbeats 2000000 in
set_option maxRecDepth 100000 in
theorem BallotTells_bad {Aa Ab : Option Addr} {ca cb : Nat} {a b : List UInt8} {n : Nat} {ea : Int} (ha : RdB W Aa a) (hb : RdB W Ab b) (hac : a.length ≤ ca) (hbc : b.length ≤ cb) (hab : a.length ≤ 9223372036854775807 ∧ b.length ≤ 9223372036854775807) (hn : n ≤ 30) (hea : 16 ≤ ea ∧ ea ≤ 1048576) (hE : (btl a b).2.2 ≠ 0) : Calls Try.prog 12 #[.slice Aa a.length ca, .slice Ab b.length cb, .int .i64 (n : Int), .int .i64 ea] W fun e w' => e = .returned (.bool true) ∧ St W w' [] := by
  have hS := St.init W
  have h7 := (btl_in a b).2
  refine calls_of_wpE (args := [_, _, _, _]) Try.func12 rfl rfl rfl ?_
  refine c_seq ?_
  refine c_region ?_
  refine t_q (q_assign) ?_
  refine t_nil ?_
  refine c_seq ?_
  refine c_seq ?_
  refine c_region ?_
  refine t_q (q_mv (.slice _ _ _) rfl) ?_
  refine t_q (q_len_slice Try.runUnderlying25 rfl) ?_
  refine t_q (q_gtr rfl rfl) ?_
  refine t_q (q_mv (.bool _) rfl) ?_
  refine t_case 21 rfl ?_ ?_
  · intro hg2
    have hg2d := of_decide_eq_true hg2
    refine t_no rfl rfl (by rw [hg2]; decide) ?_
    refine t_no rfl rfl (by rw [hg2]; decide) ?_
    refine t_no rfl rfl (by rw [hg2]; decide) ?_
    refine t_q (q_pick_t rfl hg2) ?_
    refine t_nil ?_
    refine c_cond_t rfl rfl ?_
    refine c_seq ?_
    refine c_region ?_
    refine t_call Try.call46 (blives_calls) rfl ?_
    rintro e w ⟨rfl, hT⟩
    refine ⟨_, rfl, ?_⟩
    replace hS := hS.after hT
    refine t_q (q_as (.bool _) rfl) ?_
    refine t_nil ?_
    refine c_ret ?_
    refine r_one rfl rfl ?_
    exact ⟨rfl, hS.nil⟩
  · intro hg2
    have hg2d := of_decide_eq_false hg2
    refine t_yes rfl rfl hg2 ?_
    refine t_q (q_mv (.slice _ _ _) rfl) ?_
    refine t_yes rfl rfl hg2 ?_
    refine t_q (q_len_slice Try.runUnderlying25 rfl) ?_
    refine t_yes rfl rfl hg2 ?_
    refine t_q (q_gtr rfl rfl) ?_
    refine t_q (q_pick_f rfl hg2) ?_
    refine t_nil ?_
    refine c_cond rfl ?_ ?_
    · intro hc5
      have hc5d := of_decide_eq_true hc5
      refine c_seq ?_
      refine c_region ?_
      refine t_call Try.call46 (blives_calls) rfl ?_
      rintro e w ⟨rfl, hT⟩
      refine ⟨_, rfl, ?_⟩
      replace hS := hS.after hT
      refine t_q (q_as (.bool _) rfl) ?_
      refine t_nil ?_
      refine c_ret ?_
      refine r_one rfl rfl ?_
      exact ⟨rfl, hS.nil⟩
    · intro hc5
      have hc5d := of_decide_eq_false hc5
      refine c_skip ?_
      refine c_seq ?_
      refine c_region ?_
      refine t_q (q_mv (.slice _ _ _) rfl) ?_
      refine t_q (q_mv (.slice _ _ _) rfl) ?_
      refine t_call Try.call56 (bTell_calls (Rd.st ha hS) (Rd.st hb hS) ⟨hac, by omega⟩ ⟨hbc, by omega⟩) rfl ?_
      rintro e w ⟨rfl, hT⟩
      refine ⟨_, rfl, ?_⟩
      replace hS := hS.after hT
      refine t_q (q_mv (.tuple _) rfl) ?_
      refine t_q (q_extract rfl rfl) ?_
      refine t_q (q_extract rfl rfl) ?_
      refine t_q (q_extract rfl rfl) ?_
      refine t_q (q_as (.int _ _) rfl) ?_
      refine t_q (q_as (.int _ _) rfl) ?_
      refine t_q (q_as (.int _ _) rfl) ?_
      refine t_nil ?_
      refine c_seq ?_
      refine c_region ?_
      refine t_q (q_mv (.slice _ _ _) rfl) ?_
      refine t_q (q_mv (.slice _ _ _) rfl) ?_
      refine t_call Try.call51 (qbTell_calls (Rd.st ha hS) (Rd.st hb hS) ⟨hac, by omega⟩ ⟨hbc, by omega⟩) rfl ?_
      rintro e w ⟨rfl, hT⟩
      refine ⟨_, rfl, ?_⟩
      replace hS := hS.after hT
      refine t_q (q_mv (.tuple _) rfl) ?_
      refine t_q (q_extract rfl rfl) ?_
      refine t_q (q_extract rfl rfl) ?_
      refine t_q (q_extract rfl rfl) ?_
      refine t_q (q_as (.int _ _) rfl) ?_
      refine t_q (q_as (.int _ _) rfl) ?_
      refine t_q (q_as (.int _ _) rfl) ?_
      refine t_nil ?_
      refine c_seq ?_
      refine c_seq ?_
      refine c_region ?_
      refine t_q (q_mv (.int _ _) rfl) ?_
      refine t_q (q_mv (.int _ _) rfl) ?_
      refine t_q (q_cast (v' := .bool false) (q_neq rfl rfl) (by simp)) ?_
      refine t_q (q_mv (.bool _) rfl) ?_
      refine t_yes rfl rfl rfl ?_
      refine t_q (q_mv (.int _ _) rfl) ?_
      refine t_yes rfl rfl rfl ?_
      refine t_q (q_mv (.int _ _) rfl) ?_
      refine t_yes rfl rfl rfl ?_
      refine t_q (q_cast (v' := .bool false) (q_neq rfl rfl) (by simp)) ?_
      refine t_q (q_pick_f rfl rfl) ?_
      refine t_q (q_mv (.bool _) rfl) ?_
      refine t_yes rfl rfl rfl ?_
      refine t_q (q_mv (.int _ _) rfl) ?_
      refine t_yes rfl rfl rfl ?_
      refine t_q (q_mv (.int _ _) rfl) ?_
      refine t_yes rfl rfl rfl ?_
      refine t_q (q_cast (v' := .bool false) (q_neq rfl rfl) (by simp)) ?_
      refine t_q (q_pick_f rfl rfl) ?_
      refine t_nil ?_
      refine c_cond_f rfl rfl ?_
      refine c_skip ?_
      refine c_seq ?_
      refine c_region ?_
      refine t_call Try.call32 (dnew_calls hS) rfl ?_
      rintro e w ⟨gd, rfl, hS⟩
      refine ⟨_, rfl, ?_⟩
      refine t_q (q_as (.pointer _) rfl) ?_
      refine t_nil ?_
      refine c_seq ?_
      refine c_region ?_
      refine t_q (q_mv (.pointer _) rfl) ?_
      refine t_q (q_mv (.int _ _) rfl) ?_
      refine t_q (q_mv (.slice _ _ _) rfl) ?_
      refine t_call Try.call39 (app_calls (d := D0) (i := (n : Int)) (ys := a) hS (by repeat first | exact .here _ _ | assumption | apply Pick.there) DGood.zero (by decide) (fun w h => Rd.st ha h) rfl (by omega)) rfl ?_
      rintro e w ⟨rfl, hS⟩
      refine ⟨_, rfl, ?_⟩
      refine t_nil ?_
      refine c_seq ?_
      refine c_seq ?_
      refine c_region ?_
      refine t_q (q_mv (.int _ _) rfl) ?_
      refine t_q (q_lss rfl rfl) ?_
      refine t_nil ?_
      refine c_cond rfl ?_ ?_
      · intro hc21
        have hc21d := of_decide_eq_true hc21
        refine c_region ?_
        refine t_q (q_mv (.pointer _) rfl) ?_
        refine t_q (q_mv (.int _ _) rfl) ?_
        refine t_q (q_cast (v' := .int .i64 ((n + 1 : Nat) : Int)) (q_add_i64 rfl rfl (by omega)) (by congr 1)) ?_
        refine t_q (q_mv (.slice _ _ _) rfl) ?_
        refine t_call Try.call39 (app_calls (i := ((n + 1 : Nat) : Int)) (ys := b) hS (by repeat first | exact .here _ _ | assumption | apply Pick.there) DGood.zero.ap (by have h : (apD D0 (n : Int) (apE D0.F ((n : Int)).toNat a.length) (apF D0.F ((n : Int)).toNat a)).calls ≤ D0.calls + 1 := ap_cal; have h0 : D0.calls = 0 := rfl; omega) (fun w h => Rd.st hb h) rfl (by omega)) rfl ?_
        rintro e w ⟨rfl, hS⟩
        refine ⟨_, rfl, ?_⟩
        replace hS := hS.recast (show _ = dskA gd (tlD a b (n : Int)) from congrArg (dskA gd) (by unfold tlD; rw [if_pos (by omega)]; rfl))
        refine t_nil ?_
        refine c_seq ?_
        have hFab := tlD_F (a := a) (b := b) hn (by omega) (by omega)
        have hBab : btl ((tlD a b (n : Int)).F n).1 ((tlD a b (n : Int)).F (n + 1)).1 = btl a b := by rw [hFab.1, hFab.2]
        refine c_region ?_
        refine t_q (q_mv (.pointer _) rfl) ?_
        refine t_q (q_mv (.int _ _) rfl) ?_
        refine t_q (q_mv (.int _ _) rfl) ?_
        refine t_call Try.call47 (bopen_form (d := tlD a b (n : Int)) (n := n) (ea := ea) ((hS.pick (A := dskA gd _) (by repeat first | exact .here _ _ | assumption | apply Pick.there))) hn hea tlD_ok.1 tlD_ok.2.1 (by have := (tlD_ok (a := a) (b := b) (n := (n : Int))).2.2.1; omega) (by have := (tlD_ok (a := a) (b := b) (n := (n : Int))).2.2.2; omega) (by rw [hBab]; exact hE)) rfl ?_
        rintro e w ⟨rfl, hS⟩
        refine ⟨_, rfl, ?_⟩
        rw [hBab]
        refine t_q (q_mv (.tuple _) rfl) ?_
        refine t_q (q_extract rfl rfl) ?_
        refine t_q (q_extract rfl rfl) ?_
        refine t_q (q_as (.pointer _) rfl) ?_
        refine t_q (q_as (.int _ _) rfl) ?_
        refine t_nil ?_
        refine c_seq ?_
        refine c_seq ?_
        refine c_region ?_
        refine t_q (q_mv (.int _ _) rfl) ?_
        refine t_q (q_lss rfl rfl) ?_
        refine t_q (q_mv (.bool _) rfl) ?_
        refine t_case 75 rfl ?_ ?_
        · intro hg27
          have hg27d := of_decide_eq_true hg27
          refine t_no rfl rfl (by rw [hg27]; decide) ?_
          refine t_no rfl rfl (by rw [hg27]; decide) ?_
          refine t_q (q_pick_t rfl hg27) ?_
          refine t_q (q_mv (.bool _) rfl) ?_
          refine t_no rfl rfl (by decide) ?_
          refine t_no rfl rfl (by decide) ?_
          refine t_q (q_pick_t rfl rfl) ?_
          refine t_q (q_mv (.bool _) rfl) ?_
          refine t_no rfl rfl (by decide) ?_
          refine t_no rfl rfl (by decide) ?_
          refine t_q (q_pick_t rfl rfl) ?_
          refine t_nil ?_
          refine c_cond_t rfl rfl ?_
          exfalso; omega
        · intro hg27
          have hg27d := of_decide_eq_false hg27
          refine t_yes rfl rfl hg27 ?_
          refine t_q (q_mv (.int _ _) rfl) ?_
          refine t_yes rfl rfl hg27 ?_
          refine t_q (q_gtr rfl rfl) ?_
          refine t_q (q_pick_f rfl hg27) ?_
          refine t_q (q_mv (.bool _) rfl) ?_
          refine t_case 79 rfl ?_ ?_
          · intro hg29
            have hg29d := of_decide_eq_true hg29
            refine t_no rfl rfl (by rw [hg29]; decide) ?_
            refine t_no rfl rfl (by rw [hg29]; decide) ?_
            refine t_q (q_pick_t rfl hg29) ?_
            refine t_q (q_mv (.bool _) rfl) ?_
            refine t_no rfl rfl (by decide) ?_
            refine t_no rfl rfl (by decide) ?_
            refine t_q (q_pick_t rfl rfl) ?_
            refine t_nil ?_
            refine c_cond_t rfl rfl ?_
            exfalso; omega
          · intro hg29
            have hg29d := of_decide_eq_false hg29
            refine t_yes rfl rfl hg29 ?_
            refine t_q (q_mv (.int _ _) rfl) ?_
            refine t_yes rfl rfl hg29 ?_
            refine t_q (q_lss rfl rfl) ?_
            refine t_q (q_pick_f rfl hg29) ?_
            refine t_q (q_mv (.bool _) rfl) ?_
            refine t_case 83 rfl ?_ ?_
            · intro hg31
              have hg31d := of_decide_eq_true hg31
              refine t_no rfl rfl (by rw [hg31]; decide) ?_
              refine t_no rfl rfl (by rw [hg31]; decide) ?_
              refine t_q (q_pick_t rfl hg31) ?_
              refine t_nil ?_
              refine c_cond_t rfl rfl ?_
              exfalso; omega
            · intro hg31
              have hg31d := of_decide_eq_false hg31
              refine t_yes rfl rfl hg31 ?_
              refine t_q (q_mv (.int _ _) rfl) ?_
              refine t_yes rfl rfl hg31 ?_
              refine t_q (q_gtr rfl rfl) ?_
              refine t_q (q_pick_f rfl hg31) ?_
              refine t_nil ?_
              refine c_cond rfl ?_ ?_
              · intro hc33
                have hc33d := of_decide_eq_true hc33
                exfalso; omega
              · intro hc33
                have hc33d := of_decide_eq_false hc33
                refine c_skip ?_
                refine c_seq ?_
                refine c_seq ?_
                refine c_region ?_
                refine t_q (q_mv (.int _ _) rfl) ?_
                refine t_q (q_neq rfl rfl) ?_
                refine t_nil ?_
                refine c_cond rfl ?_ ?_
                · intro hc35
                  have hc35d := of_decide_eq_true hc35
                  refine c_seq ?_
                  refine c_region ?_
                  refine t_q (q_mv (.pointer _) rfl) ?_
                  refine t_q (q_eql_ptr_nil Try.runUnderlying85 rfl rfl) ?_
                  refine t_q (q_mv (.bool _) rfl) ?_
                  refine t_yes rfl rfl rfl ?_
                  refine t_q (q_mv (.int _ _) rfl) ?_
                  refine t_yes rfl rfl rfl ?_
                  refine t_q (q_mv (.int _ _) rfl) ?_
                  refine t_yes rfl rfl rfl ?_
                  refine t_q (q_cast (v' := .bool true) (q_eql rfl rfl) (by first | rfl | simp)) ?_
                  refine t_q (q_pick_t rfl rfl) ?_
                  refine t_q (q_mv (.bool _) rfl) ?_
                  refine t_yes rfl rfl rfl ?_
                  refine t_call Try.call46 (blives_calls) rfl ?_
                  rintro e w ⟨rfl, hT⟩
                  refine ⟨_, rfl, ?_⟩
                  replace hS := hS.after hT
                  refine t_q (q_pick_t rfl rfl) ?_
                  refine t_q (q_as (.bool _) rfl) ?_
                  refine t_nil ?_
                  refine c_ret ?_
                  refine r_one rfl rfl ?_
                  exact ⟨rfl, hS.nil⟩
                · intro hc35
                  have hc35d := of_decide_eq_false hc35
                  exfalso; omega
      · intro hc21
        have hc21d := of_decide_eq_false hc21
        exfalso; omega
set_option maxHeartbeats 2000000 in
set_option maxRecDepth 100000 in
theorem BallotTells_in {Aa Ab : Option Addr} {ca cb : Nat} {a b : List UInt8} {n : Nat} {ea : Int} (ha : RdB W Aa a) (hb : RdB W Ab b) (hac : a.length ≤ ca) (hbc : b.length ≤ cb) (hab : a.length ≤ 9223372036854775807 ∧ b.length ≤ 9223372036854775807) (hn : n ≤ 30) (hea : 16 ≤ ea ∧ ea ≤ 1048576) (hE : (btl a b).2.2 = 0) : Calls Try.prog 12 #[.slice Aa a.length ca, .slice Ab b.length cb, .int .i64 (n : Int), .int .i64 ea] W fun e w' => e = .returned (.bool true) ∧ St W w' [] := by
  have hS := St.init W
  have h7 := (btl_in a b).2
  refine calls_of_wpE (args := [_, _, _, _]) Try.func12 rfl rfl rfl ?_
  refine c_seq ?_
  refine c_region ?_
  refine t_q (q_assign) ?_
  refine t_nil ?_
  refine c_seq ?_
  refine c_seq ?_
  refine c_region ?_
  refine t_q (q_mv (.slice _ _ _) rfl) ?_
  refine t_q (q_len_slice Try.runUnderlying25 rfl) ?_
  refine t_q (q_gtr rfl rfl) ?_
  refine t_q (q_mv (.bool _) rfl) ?_
  refine t_case 21 rfl ?_ ?_
  · intro hg2
    have hg2d := of_decide_eq_true hg2
    refine t_no rfl rfl (by rw [hg2]; decide) ?_
    refine t_no rfl rfl (by rw [hg2]; decide) ?_
    refine t_no rfl rfl (by rw [hg2]; decide) ?_
    refine t_q (q_pick_t rfl hg2) ?_
    refine t_nil ?_
    refine c_cond_t rfl rfl ?_
    refine c_seq ?_
    refine c_region ?_
    refine t_call Try.call46 (blives_calls) rfl ?_
    rintro e w ⟨rfl, hT⟩
    refine ⟨_, rfl, ?_⟩
    replace hS := hS.after hT
    refine t_q (q_as (.bool _) rfl) ?_
    refine t_nil ?_
    refine c_ret ?_
    refine r_one rfl rfl ?_
    exact ⟨rfl, hS.nil⟩
  · intro hg2
    have hg2d := of_decide_eq_false hg2
    refine t_yes rfl rfl hg2 ?_
    refine t_q (q_mv (.slice _ _ _) rfl) ?_
    refine t_yes rfl rfl hg2 ?_
    refine t_q (q_len_slice Try.runUnderlying25 rfl) ?_
    refine t_yes rfl rfl hg2 ?_
    refine t_q (q_gtr rfl rfl) ?_
    refine t_q (q_pick_f rfl hg2) ?_
    refine t_nil ?_
    refine c_cond rfl ?_ ?_
    · intro hc5
      have hc5d := of_decide_eq_true hc5
      refine c_seq ?_
      refine c_region ?_
      refine t_call Try.call46 (blives_calls) rfl ?_
      rintro e w ⟨rfl, hT⟩
      refine ⟨_, rfl, ?_⟩
      replace hS := hS.after hT
      refine t_q (q_as (.bool _) rfl) ?_
      refine t_nil ?_
      refine c_ret ?_
      refine r_one rfl rfl ?_
      exact ⟨rfl, hS.nil⟩
    · intro hc5
      have hc5d := of_decide_eq_false hc5
      refine c_skip ?_
      refine c_seq ?_
      refine c_region ?_
      refine t_q (q_mv (.slice _ _ _) rfl) ?_
      refine t_q (q_mv (.slice _ _ _) rfl) ?_
      refine t_call Try.call56 (bTell_calls (Rd.st ha hS) (Rd.st hb hS) ⟨hac, by omega⟩ ⟨hbc, by omega⟩) rfl ?_
      rintro e w ⟨rfl, hT⟩
      refine ⟨_, rfl, ?_⟩
      replace hS := hS.after hT
      refine t_q (q_mv (.tuple _) rfl) ?_
      refine t_q (q_extract rfl rfl) ?_
      refine t_q (q_extract rfl rfl) ?_
      refine t_q (q_extract rfl rfl) ?_
      refine t_q (q_as (.int _ _) rfl) ?_
      refine t_q (q_as (.int _ _) rfl) ?_
      refine t_q (q_as (.int _ _) rfl) ?_
      refine t_nil ?_
      refine c_seq ?_
      refine c_region ?_
      refine t_q (q_mv (.slice _ _ _) rfl) ?_
      refine t_q (q_mv (.slice _ _ _) rfl) ?_
      refine t_call Try.call51 (qbTell_calls (Rd.st ha hS) (Rd.st hb hS) ⟨hac, by omega⟩ ⟨hbc, by omega⟩) rfl ?_
      rintro e w ⟨rfl, hT⟩
      refine ⟨_, rfl, ?_⟩
      replace hS := hS.after hT
      refine t_q (q_mv (.tuple _) rfl) ?_
      refine t_q (q_extract rfl rfl) ?_
      refine t_q (q_extract rfl rfl) ?_
      refine t_q (q_extract rfl rfl) ?_
      refine t_q (q_as (.int _ _) rfl) ?_
      refine t_q (q_as (.int _ _) rfl) ?_
      refine t_q (q_as (.int _ _) rfl) ?_
      refine t_nil ?_
      refine c_seq ?_
      refine c_seq ?_
      refine c_region ?_
      refine t_q (q_mv (.int _ _) rfl) ?_
      refine t_q (q_mv (.int _ _) rfl) ?_
      refine t_q (q_cast (v' := .bool false) (q_neq rfl rfl) (by simp)) ?_
      refine t_q (q_mv (.bool _) rfl) ?_
      refine t_yes rfl rfl rfl ?_
      refine t_q (q_mv (.int _ _) rfl) ?_
      refine t_yes rfl rfl rfl ?_
      refine t_q (q_mv (.int _ _) rfl) ?_
      refine t_yes rfl rfl rfl ?_
      refine t_q (q_cast (v' := .bool false) (q_neq rfl rfl) (by simp)) ?_
      refine t_q (q_pick_f rfl rfl) ?_
      refine t_q (q_mv (.bool _) rfl) ?_
      refine t_yes rfl rfl rfl ?_
      refine t_q (q_mv (.int _ _) rfl) ?_
      refine t_yes rfl rfl rfl ?_
      refine t_q (q_mv (.int _ _) rfl) ?_
      refine t_yes rfl rfl rfl ?_
      refine t_q (q_cast (v' := .bool false) (q_neq rfl rfl) (by simp)) ?_
      refine t_q (q_pick_f rfl rfl) ?_
      refine t_nil ?_
      refine c_cond_f rfl rfl ?_
      refine c_skip ?_
      refine c_seq ?_
      refine c_region ?_
      refine t_call Try.call32 (dnew_calls hS) rfl ?_
      rintro e w ⟨gd, rfl, hS⟩
      refine ⟨_, rfl, ?_⟩
      refine t_q (q_as (.pointer _) rfl) ?_
      refine t_nil ?_
      refine c_seq ?_
      refine c_region ?_
      refine t_q (q_mv (.pointer _) rfl) ?_
      refine t_q (q_mv (.int _ _) rfl) ?_
      refine t_q (q_mv (.slice _ _ _) rfl) ?_
      refine t_call Try.call39 (app_calls (d := D0) (i := (n : Int)) (ys := a) hS (by repeat first | exact .here _ _ | assumption | apply Pick.there) DGood.zero (by decide) (fun w h => Rd.st ha h) rfl (by omega)) rfl ?_
      rintro e w ⟨rfl, hS⟩
      refine ⟨_, rfl, ?_⟩
      refine t_nil ?_
      refine c_seq ?_
      refine c_seq ?_
      refine c_region ?_
      refine t_q (q_mv (.int _ _) rfl) ?_
      refine t_q (q_lss rfl rfl) ?_
      refine t_nil ?_
      refine c_cond rfl ?_ ?_
      · intro hc21
        have hc21d := of_decide_eq_true hc21
        refine c_region ?_
        refine t_q (q_mv (.pointer _) rfl) ?_
        refine t_q (q_mv (.int _ _) rfl) ?_
        refine t_q (q_cast (v' := .int .i64 ((n + 1 : Nat) : Int)) (q_add_i64 rfl rfl (by omega)) (by congr 1)) ?_
        refine t_q (q_mv (.slice _ _ _) rfl) ?_
        refine t_call Try.call39 (app_calls (i := ((n + 1 : Nat) : Int)) (ys := b) hS (by repeat first | exact .here _ _ | assumption | apply Pick.there) DGood.zero.ap (by have h : (apD D0 (n : Int) (apE D0.F ((n : Int)).toNat a.length) (apF D0.F ((n : Int)).toNat a)).calls ≤ D0.calls + 1 := ap_cal; have h0 : D0.calls = 0 := rfl; omega) (fun w h => Rd.st hb h) rfl (by omega)) rfl ?_
        rintro e w ⟨rfl, hS⟩
        refine ⟨_, rfl, ?_⟩
        replace hS := hS.recast (show _ = dskA gd (tlD a b (n : Int)) from congrArg (dskA gd) (by unfold tlD; rw [if_pos (by omega)]; rfl))
        refine t_nil ?_
        refine c_seq ?_
        have hFab := tlD_F (a := a) (b := b) hn (by omega) (by omega)
        have hBab : btl ((tlD a b (n : Int)).F n).1 ((tlD a b (n : Int)).F (n + 1)).1 = btl a b := by rw [hFab.1, hFab.2]
        refine c_region ?_
        refine t_q (q_mv (.pointer _) rfl) ?_
        refine t_q (q_mv (.int _ _) rfl) ?_
        refine t_q (q_mv (.int _ _) rfl) ?_
        refine t_call Try.call47 (bopen_calls (d := tlD a b (n : Int)) (n := n) (ea := ea) ((hS.pick (A := dskA gd _) (by repeat first | exact .here _ _ | assumption | apply Pick.there))) hn hea tlD_ok.1 tlD_ok.2.1 (by have := (tlD_ok (a := a) (b := b) (n := (n : Int))).2.2.1; omega) (by have := (tlD_ok (a := a) (b := b) (n := (n : Int))).2.2.2; omega) (by rw [hBab]; exact hE)) rfl ?_
        rintro e w ⟨ga, rfl, hS⟩
        refine ⟨_, rfl, ?_⟩
        rw [hBab] at hS
        refine t_q (q_mv (.tuple _) rfl) ?_
        refine t_q (q_extract rfl rfl) ?_
        refine t_q (q_extract rfl rfl) ?_
        refine t_q (q_as (.pointer _) rfl) ?_
        refine t_q (q_as (.int _ _) rfl) ?_
        refine t_nil ?_
        refine c_seq ?_
        refine c_seq ?_
        refine c_region ?_
        refine t_q (q_mv (.int _ _) rfl) ?_
        refine t_q (q_lss rfl rfl) ?_
        refine t_q (q_mv (.bool _) rfl) ?_
        refine t_case 75 rfl ?_ ?_
        · intro hg27
          have hg27d := of_decide_eq_true hg27
          refine t_no rfl rfl (by rw [hg27]; decide) ?_
          refine t_no rfl rfl (by rw [hg27]; decide) ?_
          refine t_q (q_pick_t rfl hg27) ?_
          refine t_q (q_mv (.bool _) rfl) ?_
          refine t_no rfl rfl (by decide) ?_
          refine t_no rfl rfl (by decide) ?_
          refine t_q (q_pick_t rfl rfl) ?_
          refine t_q (q_mv (.bool _) rfl) ?_
          refine t_no rfl rfl (by decide) ?_
          refine t_no rfl rfl (by decide) ?_
          refine t_q (q_pick_t rfl rfl) ?_
          refine t_nil ?_
          refine c_cond_t rfl rfl ?_
          exfalso; omega
        · intro hg27
          have hg27d := of_decide_eq_false hg27
          refine t_yes rfl rfl hg27 ?_
          refine t_q (q_mv (.int _ _) rfl) ?_
          refine t_yes rfl rfl hg27 ?_
          refine t_q (q_gtr rfl rfl) ?_
          refine t_q (q_pick_f rfl hg27) ?_
          refine t_q (q_mv (.bool _) rfl) ?_
          refine t_case 79 rfl ?_ ?_
          · intro hg29
            have hg29d := of_decide_eq_true hg29
            refine t_no rfl rfl (by rw [hg29]; decide) ?_
            refine t_no rfl rfl (by rw [hg29]; decide) ?_
            refine t_q (q_pick_t rfl hg29) ?_
            refine t_q (q_mv (.bool _) rfl) ?_
            refine t_no rfl rfl (by decide) ?_
            refine t_no rfl rfl (by decide) ?_
            refine t_q (q_pick_t rfl rfl) ?_
            refine t_nil ?_
            refine c_cond_t rfl rfl ?_
            exfalso; omega
          · intro hg29
            have hg29d := of_decide_eq_false hg29
            refine t_yes rfl rfl hg29 ?_
            refine t_q (q_mv (.int _ _) rfl) ?_
            refine t_yes rfl rfl hg29 ?_
            refine t_q (q_lss rfl rfl) ?_
            refine t_q (q_pick_f rfl hg29) ?_
            refine t_q (q_mv (.bool _) rfl) ?_
            refine t_case 83 rfl ?_ ?_
            · intro hg31
              have hg31d := of_decide_eq_true hg31
              refine t_no rfl rfl (by rw [hg31]; decide) ?_
              refine t_no rfl rfl (by rw [hg31]; decide) ?_
              refine t_q (q_pick_t rfl hg31) ?_
              refine t_nil ?_
              refine c_cond_t rfl rfl ?_
              exfalso; omega
            · intro hg31
              have hg31d := of_decide_eq_false hg31
              refine t_yes rfl rfl hg31 ?_
              refine t_q (q_mv (.int _ _) rfl) ?_
              refine t_yes rfl rfl hg31 ?_
              refine t_q (q_gtr rfl rfl) ?_
              refine t_q (q_pick_f rfl hg31) ?_
              refine t_nil ?_
              refine c_cond rfl ?_ ?_
              · intro hc33
                have hc33d := of_decide_eq_true hc33
                exfalso; omega
              · intro hc33
                have hc33d := of_decide_eq_false hc33
                refine c_skip ?_
                refine c_seq ?_
                refine c_seq ?_
                refine c_region ?_
                refine t_q (q_mv (.int _ _) rfl) ?_
                refine t_q (q_neq rfl rfl) ?_
                refine t_nil ?_
                refine c_cond rfl ?_ ?_
                · intro hc35
                  have hc35d := of_decide_eq_true hc35
                  exfalso; omega
                · intro hc35
                  have hc35d := of_decide_eq_false hc35
                  refine c_skip ?_
                  refine c_seq ?_
                  refine c_region ?_
                  refine t_q (q_mv (.int _ _) rfl) ?_
                  refine t_q (q_cast (v' := .bool true) (q_eql rfl rfl) (by rfl)) ?_
                  refine t_q (q_mv (.bool _) rfl) ?_
                  refine t_yes rfl rfl rfl ?_
                  refine t_q (q_mv (.pointer _) rfl) ?_
                  refine t_yes rfl rfl rfl ?_
                  refine t_call Try.call53 (bterm_calls hS (by repeat first | exact .here _ _ | assumption | apply Pick.there)) rfl ?_
                  rintro e w ⟨rfl, hS⟩
                  refine ⟨_, rfl, ?_⟩
                  refine t_yes rfl rfl rfl ?_
                  refine t_q (q_mv (.int _ _) rfl) ?_
                  refine t_yes rfl rfl rfl ?_
                  refine t_q (q_cast (v' := .bool true) (q_eql rfl rfl) (by simp)) ?_
                  refine t_q (q_pick_t rfl rfl) ?_
                  refine t_q (q_mv (.bool _) rfl) ?_
                  refine t_yes rfl rfl rfl ?_
                  refine t_q (q_mv (.pointer _) rfl) ?_
                  refine t_yes rfl rfl rfl ?_
                  refine t_call Try.call54 (bvote_calls h7 hS (by repeat first | exact .here _ _ | assumption | apply Pick.there)) rfl ?_
                  rintro e w ⟨rfl, hS⟩
                  refine ⟨_, rfl, ?_⟩
                  refine t_yes rfl rfl rfl ?_
                  refine t_q (q_mv (.int _ _) rfl) ?_
                  refine t_yes rfl rfl rfl ?_
                  refine t_q (q_cast (v' := .bool true) (q_eql rfl rfl) (by simp)) ?_
                  refine t_q (q_pick_t rfl rfl) ?_
                  refine t_q (q_mv (.bool _) rfl) ?_
                  refine t_yes rfl rfl rfl ?_
                  refine t_call Try.call46 (blives_calls) rfl ?_
                  rintro e w ⟨rfl, hT⟩
                  refine ⟨_, rfl, ?_⟩
                  replace hS := hS.after hT
                  refine t_q (q_pick_t rfl rfl) ?_
                  refine t_q (q_as (.bool _) rfl) ?_
                  refine t_nil ?_
                  refine c_ret ?_
                  refine r_one rfl rfl ?_
                  exact ⟨rfl, hS.nil⟩
      · intro hc21
        have hc21d := of_decide_eq_false hc21
        exfalso; omega
theorem BallotTells_calls {Aa Ab : Option Addr} {ca cb : Nat} {a b : List UInt8} {n ea : Int} (ha : RdB W Aa a) (hb : RdB W Ab b) (hac : a.length ≤ ca) (hbc : b.length ≤ cb) (hab : a.length ≤ 9223372036854775807 ∧ b.length ≤ 9223372036854775807) (hn2 : -9223372036854775808 ≤ n ∧ n ≤ 9223372036854775807) : Calls Try.prog 12 #[.slice Aa a.length ca, .slice Ab b.length cb, .int .i64 n, .int .i64 ea] W fun e w' => e = .returned (.bool true) ∧ St W w' [] := by
  by_cases h : n < 0 ∨ 30 < n ∨ ea < 16 ∨ 1048576 < ea
  · exact BallotTells_out ha hb hac hbc hab h hn2
  · obtain ⟨m, rfl⟩ : ∃ m : Nat, n = (m : Int) := ⟨n.toNat, by omega⟩
    by_cases hE : (btl a b).2.2 = 0
    · exact BallotTells_in ha hb hac hbc hab (by omega) (by omega) hE
    · exact BallotTells_bad ha hb hac hbc hab (by omega) (by omega) hE
end Go.Proofs.Ytlppgpidakfnlaa
