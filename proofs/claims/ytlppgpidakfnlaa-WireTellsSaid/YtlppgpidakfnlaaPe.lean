/- The chapter's example of parcels. -/
import Derived.Test.YtlppgpidakfnlaaPd
namespace Go.Proofs.Ytlppgpidakfnlaa
open Go Go.RowKit Go.Lib
variable {W : World}
theorem wl7 : wrapE 7 [97, 98] = 0 ∧ wrapL 7 [97, 98] = parB 7 [97, 98] := wrapE_ok (by decide) (by decide)
theorem wl7_len : (wrapL 7 [97, 98]).length = 8 := by
  rw [wl7.2]
  unfold parB preB
  rw [show ([97, 98] : List UInt8).length = 2 from rfl, enc_small (by decide)]
  rfl
theorem tk7 : tkE (wrapL 7 [97, 98]) = 0 ∧ tkK (wrapL 7 [97, 98]) = 7 ∧ tkL (wrapL 7 [97, 98]) = [97, 98] ∧ tkM (wrapL 7 [97, 98]) = 8 := by
  have h := tk_par (k := 7) (body := [97, 98]) (by decide) (by decide)
  rw [wl7.2]
  refine ⟨take_wrap (by decide) (by decide), h.1, h.2.1, ?_⟩
  rw [h.2.2, ← wl7.2, wl7_len]
  rfl

set_option maxRecDepth 100000 in
theorem plives_calls : Calls Try.prog 19 #[] W fun e w' => e = .returned (.bool true) ∧ St W w' [] := by
  have hS := St.init W
  refine calls_of_wpE (args := []) Try.func19 rfl rfl rfl ?_
  refine c_seq ?_
  refine c_region ?_
  refine t_q (q_assign) ?_
  refine t_nil ?_
  refine c_seq ?_
  refine c_region ?_
  refine t_build_bytes [_, _] Try.runUnderlying25 Try.sizeOf5 Try.zeroValue5 rfl rfl (by simp; try omega) (by decide) hS (fun g8 w hS => ?_)
  refine t_mark Try.underlying25 Try.underlying5 hS (by repeat first | exact .here _ _ | assumption | apply Pick.there) rfl (fun w hS => ?_)
  refine t_call Try.call20 (wrap_calls (kk := 7) (body := [97, 98]) (frz_rdB (bs := [97, 98]) hS (.here _ _)) (by simp)) rfl ?_
  rintro e w ⟨A10, m10, c10, rfl, hm10, hT⟩
  refine ⟨_, rfl, ?_⟩
  have hS : St W w (_ :: _) := hS.lift hT
  subst hm10
  refine t_q (q_mv (.tuple _) rfl) ?_
  refine t_q (q_extract rfl rfl) ?_
  refine t_q (q_extract rfl rfl) ?_
  refine t_q (q_as (.slice _ _ _) rfl) ?_
  refine t_q (q_as (.int _ _) rfl) ?_
  refine t_nil ?_
  refine c_seq ?_
  refine c_region ?_
  refine t_q (q_mv (.slice _ _ _) rfl) ?_
  refine t_call Try.call68 (take_calls (bs := (wrapL 7 [97, 98])) (hS.rowRd (.here _ _) rfl) ⟨hS.row_le (.here _ _), by rw [wl7_len]; decide⟩) rfl ?_
  rintro e w ⟨A15, m15, c15, rfl, hm15, hT⟩
  refine ⟨_, rfl, ?_⟩
  have hS : St W w (_ :: _) := hS.lift hT
  subst hm15
  refine t_q (q_mv (.tuple _) rfl) ?_
  refine t_q (q_extract rfl rfl) ?_
  refine t_q (q_extract rfl rfl) ?_
  refine t_q (q_extract rfl rfl) ?_
  refine t_q (q_extract rfl rfl) ?_
  refine t_q (q_as (.int _ _) rfl) ?_
  refine t_q (q_as (.slice _ _ _) rfl) ?_
  refine t_q (q_as (.int _ _) rfl) ?_
  refine t_q (q_as (.int _ _) rfl) ?_
  refine t_nil ?_
  refine c_seq ?_
  refine c_region ?_
  refine t_build_bytes [_, _, _, _, _, _, _, _, _] Try.runUnderlying25 Try.sizeOf5 Try.zeroValue5 rfl rfl (by simp; try omega) (by decide) hS (fun g20 w hS => ?_)
  refine t_mark Try.underlying25 Try.underlying5 hS (by repeat first | exact .here _ _ | assumption | apply Pick.there) rfl (fun w hS => ?_)
  refine t_call Try.call69 (sum_calls (bs := [49, 50, 51, 52, 53, 54, 55, 56, 57]) (frz_rdB (bs := [49, 50, 51, 52, 53, 54, 55, 56, 57]) hS (.here _ _)) (by simp)) rfl ?_
  rintro e w ⟨rfl, hT⟩
  refine ⟨_, rfl, ?_⟩
  replace hS := hS.after hT
  refine t_q (q_cast (v' := .bool true) (q_eql rfl rfl) (by refine congrArg Value.bool (show decide (((crc [49, 50, 51, 52, 53, 54, 55, 56, 57] : Nat) : Int) = 3421780262) = true from ?_); rw [crc_check]; rfl)) ?_
  refine t_q (q_mv (.bool _) rfl) ?_
  refine t_yes rfl rfl rfl ?_
  refine t_q (q_mv (.int _ _) rfl) ?_
  refine t_yes rfl rfl rfl ?_
  refine t_q (q_cast (v' := .bool true) (q_eql rfl rfl) (by rw [wl7.1]; rfl)) ?_
  refine t_q (q_pick_t rfl rfl) ?_
  refine t_q (q_mv (.bool _) rfl) ?_
  refine t_yes rfl rfl rfl ?_
  refine t_q (q_mv (.slice _ _ _) rfl) ?_
  refine t_yes rfl rfl rfl ?_
  refine t_q (q_len_slice Try.runUnderlying25 rfl) ?_
  refine t_yes rfl rfl rfl ?_
  refine t_q (q_cast (v' := .bool true) (q_eql rfl rfl) (by rw [wl7_len]; rfl)) ?_
  refine t_q (q_pick_t rfl rfl) ?_
  refine t_q (q_mv (.bool _) rfl) ?_
  refine t_yes rfl rfl rfl ?_
  refine t_q (q_mv (.int _ _) rfl) ?_
  refine t_yes rfl rfl rfl ?_
  refine t_q (q_cast (v' := .bool true) (q_eql rfl rfl) (by rw [tk7.1]; rfl)) ?_
  refine t_q (q_pick_t rfl rfl) ?_
  refine t_q (q_mv (.bool _) rfl) ?_
  refine t_yes rfl rfl rfl ?_
  refine t_q (q_mv (.int _ _) rfl) ?_
  refine t_yes rfl rfl rfl ?_
  refine t_q (q_cast (v' := .bool true) (q_eql rfl rfl) (by rw [tk7.2.1]; rfl)) ?_
  refine t_q (q_pick_t rfl rfl) ?_
  refine t_q (q_mv (.bool _) rfl) ?_
  refine t_yes rfl rfl rfl ?_
  refine t_q (q_mv (.slice _ _ _) rfl) ?_
  refine t_yes rfl rfl rfl ?_
  refine t_q (q_string Try.runUnderlying25 Try.runUnderlying5 Try.runUnderlying9 rfl rfl (hS.rowRd (A := A15) (c := c15) (bs := tkL (wrapL 7 [97, 98])) (by repeat first | exact .here _ _ | assumption | apply Pick.there) rfl)) ?_
  refine t_yes rfl rfl rfl ?_
  refine t_q (q_cast (v' := .bool true) (q_eql_string rfl rfl) (by rw [tk7.2.2.1]; rfl)) ?_
  refine t_q (q_pick_t rfl rfl) ?_
  refine t_q (q_mv (.bool _) rfl) ?_
  refine t_yes rfl rfl rfl ?_
  refine t_q (q_mv (.int _ _) rfl) ?_
  refine t_yes rfl rfl rfl ?_
  refine t_q (q_cast (v' := .bool true) (q_eql rfl rfl) (by rw [tk7.2.2.2]; rfl)) ?_
  refine t_q (q_pick_t rfl rfl) ?_
  refine t_q (q_as (.bool _) rfl) ?_
  refine t_nil ?_
  refine c_ret ?_
  refine r_one rfl rfl ?_
  exact ⟨rfl, hS.nil⟩
end Go.Proofs.Ytlppgpidakfnlaa
