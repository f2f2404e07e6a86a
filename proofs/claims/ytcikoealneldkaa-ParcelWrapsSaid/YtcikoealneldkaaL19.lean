/- Any bytes have the document's sum, and any parcel its bytes, or is refused: the walk. -/
import Derived.Test.YtcikoealneldkaaPe
namespace Go.Proofs.Ytcikoealneldkaa
open Go Go.RowKit Go.Lib
variable {W : World}

set_option maxRecDepth 100000 in
theorem ParcelWraps_calls {A : Option Addr} {c : Nat} {body : List UInt8} {n : Int} (hn : 0 ≤ n ∧ n < 256) (hR : RdB W A body) :
  Calls Try.prog 19 #[.int .u8 n, .slice A body.length c] W fun e w' => e = .returned (.bool true) ∧ St W w' [] := by
  obtain ⟨kk, hkk⟩ : ∃ kk : UInt8, n = (kk.toNat : Int) := ⟨bvi n, by unfold bvi; rw [u8_ofNat (by omega)]; omega⟩
  subst hkk
  have hS := St.init W
  refine calls_of_wpE (args := [_, _]) Try.func19 rfl rfl rfl ?_
  refine c_seq ?_
  refine c_region ?_
  refine t_q (q_assign) ?_
  refine t_nil ?_
  refine c_seq ?_
  refine c_seq ?_
  refine c_region ?_
  refine t_q (q_mv (.slice _ _ _) rfl) ?_
  refine t_q (q_len_slice Try.runUnderlying48 rfl) ?_
  refine t_q (q_gtr rfl rfl) ?_
  refine t_nil ?_
  refine c_cond rfl ?_ ?_
  · intro hc2
    have hc2d := of_decide_eq_true hc2
    refine c_seq ?_
    refine c_region ?_
    refine t_call Try.call106 (plives_calls) rfl ?_
    rintro e w ⟨rfl, hT⟩
    refine ⟨_, rfl, ?_⟩
    replace hS := hS.after hT
    refine t_q (q_as (.bool _) rfl) ?_
    refine t_nil ?_
    refine c_ret ?_
    refine r_one rfl rfl ?_
    exact ⟨rfl, hS.nil⟩
  · intro hc2
    have hc2d := of_decide_eq_false hc2
    have h7 : body.length ≤ 70000 := by omega
    refine c_skip ?_
    refine c_seq ?_
    refine c_region ?_
    refine t_q (q_mv (.int _ _) rfl) ?_
    refine t_q (q_mv (.slice _ _ _) rfl) ?_
    refine t_call Try.call107 (wrap_calls (kk := kk) (hR.st hS) (by omega)) rfl ?_
    rintro e w ⟨A16, m16, c16, rfl, hm16, hT⟩
    refine ⟨_, rfl, ?_⟩
    have hS : St W w (_ :: _) := hS.lift hT
    subst hm16
    refine t_q (q_mv (.tuple _) rfl) ?_
    refine t_q (q_extract rfl rfl) ?_
    refine t_q (q_extract rfl rfl) ?_
    refine t_q (q_as (.slice _ _ _) rfl) ?_
    refine t_q (q_as (.int _ _) rfl) ?_
    refine t_nil ?_
    refine c_seq ?_
    refine c_region ?_
    refine t_q (q_mv (.int _ _) rfl) ?_
    refine t_q (q_mv (.slice _ _ _) rfl) ?_
    refine t_call Try.call108 (qwrap_calls (kk := kk) (hR.st hS) (by omega)) rfl ?_
    rintro e w ⟨A22, m22, c22, rfl, hm22, hT⟩
    refine ⟨_, rfl, ?_⟩
    have hS : St W w (_ :: _) := hS.lift hT
    subst hm22
    refine t_q (q_mv (.tuple _) rfl) ?_
    refine t_q (q_extract rfl rfl) ?_
    refine t_q (q_extract rfl rfl) ?_
    refine t_q (q_as (.slice _ _ _) rfl) ?_
    refine t_q (q_as (.int _ _) rfl) ?_
    refine t_nil ?_
    refine c_seq ?_
    refine c_region ?_
    refine t_q (q_mv (.slice _ _ _) rfl) ?_
    refine t_q (q_string Try.runUnderlying48 Try.runUnderlying5 Try.runUnderlying9 rfl rfl (hS.rowRd (A := A16) (c := c16) (bs := wrapL kk body) (by repeat first | exact .here _ _ | assumption | apply Pick.there) rfl)) ?_
    refine t_q (q_mv (.slice _ _ _) rfl) ?_
    refine t_q (q_string Try.runUnderlying48 Try.runUnderlying5 Try.runUnderlying9 rfl rfl (hS.rowRd (A := A22) (c := c22) (bs := wrapL kk body) (by repeat first | exact .here _ _ | assumption | apply Pick.there) rfl)) ?_
    refine t_q (q_cast (v' := .bool true) (q_eql_string rfl rfl) (by simp)) ?_
    refine t_q (q_mv (.bool _) rfl) ?_
    refine t_yes rfl rfl rfl ?_
    refine t_q (q_mv (.int _ _) rfl) ?_
    refine t_yes rfl rfl rfl ?_
    refine t_q (q_mv (.int _ _) rfl) ?_
    refine t_yes rfl rfl rfl ?_
    refine t_q (q_cast (v' := .bool true) (q_eql rfl rfl) (by simp)) ?_
    refine t_q (q_pick_t rfl rfl) ?_
    refine t_q (q_mv (.bool _) rfl) ?_
    refine t_yes rfl rfl rfl ?_
    refine t_q (q_mv (.slice _ _ _) rfl) ?_
    refine t_yes rfl rfl rfl ?_
    refine t_q (q_len_slice Try.runUnderlying48 rfl) ?_
    refine t_yes rfl rfl rfl ?_
    refine t_q (q_gtr rfl rfl) ?_
    refine t_yes rfl rfl rfl ?_
    refine t_q (q_mv (.bool _) rfl) ?_
    refine t_case 39 rfl ?_ ?_
    · intro hg13
      have hg13d := of_decide_eq_true hg13
      refine t_no rfl rfl (by rw [hg13]; decide) ?_
      refine t_no rfl rfl (by rw [hg13]; decide) ?_
      refine t_no rfl rfl (by rw [hg13]; decide) ?_
      refine t_no rfl rfl (by rw [hg13]; decide) ?_
      refine t_no rfl rfl (by rw [hg13]; decide) ?_
      refine t_yes rfl rfl rfl ?_
      refine t_q (q_pick_t rfl hg13) ?_
      refine t_q (q_pick_t rfl rfl) ?_
      refine t_q (q_mv (.bool _) rfl) ?_
      refine t_yes rfl rfl rfl ?_
      refine t_call Try.call106 (plives_calls) rfl ?_
      rintro e w ⟨rfl, hT⟩
      refine ⟨_, rfl, ?_⟩
      replace hS := hS.after hT
      refine t_q (q_pick_t rfl rfl) ?_
      refine t_q (q_as (.bool _) rfl) ?_
      refine t_nil ?_
      refine c_ret ?_
      refine r_one rfl rfl ?_
      exact ⟨rfl, hS.nil⟩
    · intro hg13
      have hg13d := of_decide_eq_false hg13
      refine t_yes rfl rfl hg13 ?_
      refine t_q (q_mv (.slice _ _ _) rfl) ?_
      refine t_yes rfl rfl hg13 ?_
      refine t_call Try.call109 (sum_calls (hR.st hS) (by omega)) rfl ?_
      rintro e w ⟨rfl, hT⟩
      refine ⟨_, rfl, ?_⟩
      replace hS := hS.after hT
      refine t_yes rfl rfl hg13 ?_
      refine t_q (q_mv (.slice _ _ _) rfl) ?_
      refine t_yes rfl rfl hg13 ?_
      refine t_call Try.call110 (qsum_calls (hR.st hS) (by omega)) rfl ?_
      rintro e w ⟨rfl, hT⟩
      refine ⟨_, rfl, ?_⟩
      replace hS := hS.after hT
      refine t_yes rfl rfl hg13 ?_
      refine t_q (q_cast (v' := .bool true) (q_eql rfl rfl) (by simp)) ?_
      refine t_yes rfl rfl rfl ?_
      refine t_q (q_pick_f rfl hg13) ?_
      refine t_q (q_pick_t rfl rfl) ?_
      refine t_q (q_mv (.bool _) rfl) ?_
      refine t_yes rfl rfl rfl ?_
      refine t_call Try.call106 (plives_calls) rfl ?_
      rintro e w ⟨rfl, hT⟩
      refine ⟨_, rfl, ?_⟩
      replace hS := hS.after hT
      refine t_q (q_pick_t rfl rfl) ?_
      refine t_q (q_as (.bool _) rfl) ?_
      refine t_nil ?_
      refine c_ret ?_
      refine r_one rfl rfl ?_
      exact ⟨rfl, hS.nil⟩
end Go.Proofs.Ytcikoealneldkaa
