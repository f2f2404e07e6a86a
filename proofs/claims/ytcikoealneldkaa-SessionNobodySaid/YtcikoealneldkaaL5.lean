/- A table that is nil, or that no call made, has nothing: the walk. -/
import Derived.Test.YtcikoealneldkaaSg
namespace Go.Proofs.Ytcikoealneldkaa
open Go Go.RowKit Go.Lib
variable {W : World}
theorem xdrop {w : World} {L R : List Asn} {g : Nat} {p : Option Addr} (hp : p = none ∨ p = some ⟨g, 0, none⟩) (hS : St W w L) (pk : Pick L (blkA g 65 [.map none]) R) {c : Int} : Calls Try.prog 51 #[.pointer p, .int .u64 c] w fun e w' => e = .returned (.tuple #[]) ∧ St W w' (blkA g 65 [.map none] :: R) := by
  rcases hp with rfl | rfl
  · refine (drop_nil (W := w)).mono fun e w' hh => ?_
    exact ⟨hh.1, (hS.after hh.2).pick pk⟩
  · exact drop_zero hS pk
theorem xsput {w : World} {L R : List Asn} {g : Nat} {p : Option Addr} (hp : p = none ∨ p = some ⟨g, 0, none⟩) (hS : St W w L) (pk : Pick L (blkA g 65 [.map none]) R) {m : Option Addr} : Calls Try.prog 52 #[.pointer p, .pointer m] w fun e w' => e = .returned (.tuple #[]) ∧ St W w' (blkA g 65 [.map none] :: R) := by
  rcases hp with rfl | rfl
  · refine (sput_nil (W := w)).mono fun e w' hh => ?_
    exact ⟨hh.1, (hS.after hh.2).pick pk⟩
  · exact sput_zero hS pk
theorem xlook {w : World} {L R : List Asn} {g : Nat} {p : Option Addr} (hp : p = none ∨ p = some ⟨g, 0, none⟩) (hS : St W w L) (pk : Pick L (blkA g 65 [.map none]) R) {c r : Int} (hr : 0 ≤ r) : Calls Try.prog 53 #[.pointer p, .int .u64 c, .int .u64 r] w fun e w' => e = .returned (.tuple #[.bool false, .bool false, .slice none 0 0]) ∧ St W w' (blkA g 65 [.map none] :: R) := by
  rcases hp with rfl | rfl
  · refine (look_nil (W := w) hr).mono fun e w' hh => ?_
    exact ⟨hh.1, (hS.after hh.2).pick pk⟩
  · exact look_zero hS pk hr
theorem xdone {w : World} {L R : List Asn} {g : Nat} {p : Option Addr} (hp : p = none ∨ p = some ⟨g, 0, none⟩) (hS : St W w L) (pk : Pick L (blkA g 65 [.map none]) R) {c r : Int} {A : Option Addr} {m cc : Nat} : Calls Try.prog 54 #[.pointer p, .int .u64 c, .int .u64 r, .slice A m cc] w fun e w' => e = .returned (.int .i64 1) ∧ St W w' (blkA g 65 [.map none] :: R) := by
  rcases hp with rfl | rfl
  · refine (done_nil (W := w)).mono fun e w' hh => ?_
    exact ⟨hh.1, (hS.after hh.2).pick pk⟩
  · exact done_zero hS pk
theorem xlast {w : World} {L R : List Asn} {g : Nat} {p : Option Addr} (hp : p = none ∨ p = some ⟨g, 0, none⟩) (hS : St W w L) (pk : Pick L (blkA g 65 [.map none]) R) {c : Int} : Calls Try.prog 55 #[.pointer p, .int .u64 c] w fun e w' => e = .returned (.int .u64 0) ∧ St W w' (blkA g 65 [.map none] :: R) := by
  rcases hp with rfl | rfl
  · refine (last_nil (W := w)).mono fun e w' hh => ?_
    exact ⟨hh.1, (hS.after hh.2).pick pk⟩
  · exact last_zero hS pk
def pcl (p : Option Addr) : List Value := [.pointer p]
attribute [local irreducible] blkA rowA rdrA mapA mapS rdsA tabA refA wrA
set_option maxHeartbeats 1000000 in
set_option maxRecDepth 100000 in
theorem SessionNobody_calls {c r : Int} (hr : 0 ≤ r) : Calls Try.prog 5 #[.int .u64 c, .int .u64 r] W fun e w' => e = .returned (.bool true) ∧ St W w' [] := by
  have hS := St.init W
  refine calls_of_wpE (args := [_, _]) Try.func5 rfl rfl rfl ?_
  refine c_seq ?_
  refine c_region ?_
  refine t_q (q_assign) ?_
  refine t_nil ?_
  refine c_seq ?_
  refine c_region ?_
  refine t_q (q_assign) ?_
  refine t_nil ?_
  refine c_seq ?_
  refine c_seq ?_
  refine c_region ?_
  refine t_q (q_mv (.pointer _) rfl) ?_
  refine t_q (q_build (qs := [(0, 1)]) [(.map _)] Try.zeroValue65 Try.runUnderlying65 ⟨rfl, Try.sizeOf63, trivial⟩ rfl rfl) ?_
  refine t_box (v := (.agg _)) rfl rfl hS (fun g14 w hS => ?_)
  refine t_buildSlice Try.runUnderlying66 Try.sizeOf62 Try.zeroValue62 rfl rfl (by intro v hv; simp at hv; try (first | (subst hv; rfl) | (rcases hv with rfl | rfl <;> rfl))) (by decide) (by decide) hS (fun g15 w hS => ?_)
  replace hS := hS.recast (show rowA 62 1 _ 2 2 _ = rowA 62 1 (some ⟨g15, 0, none⟩) ([none, some ⟨g14, 0, none⟩] : List (Option Addr)).length 2 (([none, some ⟨g14, 0, none⟩] : List (Option Addr)).flatMap pcl) from rfl)
  refine t_q (q_len_slice Try.runUnderlying66 rfl) ?_
  refine t_q (q_move) ?_
  refine t_nil ?_
  refine c_block ?_
  refine c_loop [4, 7, 8, 9, 10, 11, 17, 18, 19, 20, 21, 22, 23, 24, 25, 26, 27, 28, 29, 30, 31, 32, 33, 34, 35, 36, 37, 38, 39, 40, 41, 42, 43, 44, 45, 46, 47, 48, 49, 50, 51, 52, 53, 54, 55, 56, 57, 58, 59] (fun k σ w => ∃ j : Nat, σ 17 = .int .i64 (j : Int) ∧ j ≤ 2 ∧ 2 - j ≤ k ∧ St W w [rowA 62 1 (some ⟨g15, 0, none⟩) ([none, some ⟨g14, 0, none⟩] : List (Option Addr)).length 2 (([none, some ⟨g14, 0, none⟩] : List (Option Addr)).flatMap pcl), blkA g14 65 [.map none]]) (2) rfl (⟨0, rfl, by omega, by omega, hS⟩) ?_
  skip
  rintro k σ w ⟨j, h17, hj, hk, hS⟩
  refine c_know 17 h17 ?_
  clear h17
  have hpl2 : ([none, some ⟨g14, 0, none⟩] : List (Option Addr)).length = 2 := rfl
  have hz0 : ([] : List UInt8).length = 0 := rfl
  refine c_seq ?_
  refine c_region ?_
  refine t_q (q_lss rfl rfl) ?_
  refine t_nil ?_
  refine c_seq ?_
  refine c_cond rfl ?_ ?_
  · intro hc2
    have hc2d := of_decide_eq_true hc2
    have hpj : (([none, some ⟨g14, 0, none⟩] : List (Option Addr)).getD j default) = none ∨ (([none, some ⟨g14, 0, none⟩] : List (Option Addr)).getD j default) = some ⟨g14, 0, none⟩ := by
      obtain rfl | rfl : j = 0 ∨ j = 1 := by omega
      · exact .inl rfl
      · exact .inr rfl
    refine c_skip ?_
    refine c_seq ?_
    refine c_block ?_
    refine c_seq ?_
    refine c_region ?_
    first | refine t_index_nat Try.runUnderlying66 Try.sizeOf62 (hS.rowRdL (cells := pcl) (l := ([none, some ⟨g14, 0, none⟩] : List (Option Addr))) (by repeat first | exact .here _ _ | assumption | apply Pick.there) rfl (fun _ => rfl)) rfl rfl (by omega) (fun ad3 hl3 hx3 => ?_) | refine t_index Try.runUnderlying66 Try.sizeOf62 (hS.rowRdL (cells := pcl) (l := ([none, some ⟨g14, 0, none⟩] : List (Option Addr))) (by repeat first | exact .here _ _ | assumption | apply Pick.there) rfl (fun _ => rfl)) rfl rfl (by omega) (fun ad3 hl3 hx3 => ?_)
    refine t_q (q_cast (v' := .pointer (([none, some ⟨g14, 0, none⟩] : List (Option Addr)).getD j default)) (q_load1 Try.isAgg62 rfl (hx3 0 _ rfl)) (rfl)) ?_
    refine t_q (q_as (.pointer _) rfl) ?_
    refine t_nil ?_
    refine c_seq ?_
    refine c_region ?_
    refine t_alloc Try.zeroValue50 rfl hS (fun g8 w hS => ?_)
    replace hS := hS.wr0
    refine t_nil ?_
    refine c_seq ?_
    refine c_region ?_
    refine t_q (q_mv (.pointer _) rfl) ?_
    refine t_q (q_mv (.int _ _) rfl) ?_
    refine t_call Try.call51 (xdrop hpj hS (by repeat first | exact .here _ _ | assumption | apply Pick.there)) rfl ?_
    rintro e w ⟨rfl, hS⟩
    refine ⟨_, rfl, ?_⟩
    refine t_nil ?_
    refine c_seq ?_
    refine c_region ?_
    refine t_q (q_mv (.pointer _) rfl) ?_
    refine t_call Try.call52 (xsput hpj hS (by repeat first | exact .here _ _ | assumption | apply Pick.there)) rfl ?_
    rintro e w ⟨rfl, hS⟩
    refine ⟨_, rfl, ?_⟩
    refine t_nil ?_
    refine c_seq ?_
    refine c_region ?_
    refine t_q (q_mv (.pointer _) rfl) ?_
    refine t_q (q_mv (.int _ _) rfl) ?_
    refine t_q (q_mv (.int _ _) rfl) ?_
    refine t_call Try.call53 (xlook hpj hS (by repeat first | exact .here _ _ | assumption | apply Pick.there) hr) rfl ?_
    rintro e w ⟨rfl, hS⟩
    refine ⟨_, rfl, ?_⟩
    refine t_q (q_mv (.tuple _) rfl) ?_
    refine t_q (q_extract rfl rfl) ?_
    refine t_q (q_extract rfl rfl) ?_
    refine t_q (q_extract rfl rfl) ?_
    refine t_q (q_as (.bool _) rfl) ?_
    refine t_q (q_as (.bool _) rfl) ?_
    refine t_q (q_as (.slice _ _ _) rfl) ?_
    refine t_nil ?_
    refine c_seq ?_
    refine c_region ?_
    refine t_q (q_mv (.bool _) rfl) ?_
    refine t_q (q_mv (.bool _) rfl) ?_
    refine t_yes rfl rfl rfl ?_
    refine t_q (q_mv (.bool _) rfl) ?_
    refine t_q (q_pick_f rfl rfl) ?_
    refine t_q (q_mv (.bool _) rfl) ?_
    refine t_yes rfl rfl rfl ?_
    refine t_q (q_mv (.slice _ _ _) rfl) ?_
    refine t_yes rfl rfl rfl ?_
    refine t_q (q_len_slice Try.runUnderlying70 rfl) ?_
    refine t_yes rfl rfl rfl ?_
    refine t_call Try.call50 (Bytes_calls hS (by repeat first | exact .here _ _ | assumption | apply Pick.there) (by simp)) rfl ?_
    rintro e w ⟨A41, c41, rfl, hc41, hS⟩
    refine ⟨_, rfl, ?_⟩
    refine t_yes rfl rfl rfl ?_
    refine t_q (q_len_slice Try.runUnderlying48 rfl) ?_
    refine t_yes rfl rfl rfl ?_
    refine t_q (q_add_i64 rfl rfl (by omega)) ?_
    refine t_yes rfl rfl rfl ?_
    refine t_q (q_cast (v' := .bool false) (q_neq rfl rfl) (by simp)) ?_
    refine t_q (q_pick_f rfl rfl) ?_
    refine t_q (q_mv (.bool _) rfl) ?_
    refine t_yes rfl rfl rfl ?_
    refine t_q (q_mv (.pointer _) rfl) ?_
    refine t_yes rfl rfl rfl ?_
    refine t_q (q_mv (.int _ _) rfl) ?_
    refine t_yes rfl rfl rfl ?_
    refine t_q (q_mv (.int _ _) rfl) ?_
    refine t_yes rfl rfl rfl ?_
    refine t_call Try.call54 (xdone hpj hS (by repeat first | exact .here _ _ | assumption | apply Pick.there)) rfl ?_
    rintro e w ⟨rfl, hS⟩
    refine ⟨_, rfl, ?_⟩
    refine t_yes rfl rfl rfl ?_
    refine t_q (q_cast (v' := .bool false) (q_neq rfl rfl) (by rfl)) ?_
    refine t_q (q_pick_f rfl rfl) ?_
    refine t_q (q_mv (.bool _) rfl) ?_
    refine t_yes rfl rfl rfl ?_
    refine t_q (q_mv (.pointer _) rfl) ?_
    refine t_yes rfl rfl rfl ?_
    refine t_q (q_mv (.int _ _) rfl) ?_
    refine t_yes rfl rfl rfl ?_
    refine t_call Try.call55 (xlast hpj hS (by repeat first | exact .here _ _ | assumption | apply Pick.there)) rfl ?_
    rintro e w ⟨rfl, hS⟩
    refine ⟨_, rfl, ?_⟩
    refine t_yes rfl rfl rfl ?_
    refine t_q (q_cast (v' := .bool false) (q_neq rfl rfl) (by rfl)) ?_
    refine t_q (q_pick_f rfl rfl) ?_
    refine t_nil ?_
    refine c_cond_f rfl rfl ?_
    refine c_skip ?_
    refine c_region ?_
    refine t_q (q_add_i64 rfl rfl (by omega)) ?_
    refine t_q (q_mv (.int _ _) rfl) ?_
    refine t_nil ?_
    exact ⟨k - 1, by omega, j + 1, rfl, by omega, by omega, (((hS.pick (A := blkA g14 65 [.map none]) (by repeat first | exact .here _ _ | assumption | apply Pick.there)).pick (A := rowA 62 1 (some ⟨g15, 0, none⟩) ([none, some ⟨g14, 0, none⟩] : List (Option Addr)).length 2 (([none, some ⟨g14, 0, none⟩] : List (Option Addr)).flatMap pcl)) (by repeat first | exact .here _ _ | assumption | apply Pick.there))).front2⟩
  · intro hc2
    have hc2d := of_decide_eq_false hc2
    refine c_exit ?_
    refine ite_t rfl ?_
    refine c_seq ?_
    refine c_region ?_
    refine t_q (q_mv (.pointer _) rfl) ?_
    refine t_call Try.call56 (sclone_nil) rfl ?_
    rintro e w ⟨rfl, hT⟩
    refine ⟨_, rfl, ?_⟩
    replace hS := hS.after hT
    refine t_q (q_eql_ptr_nil Try.runUnderlying62 rfl rfl) ?_
    refine t_q (q_mv (.bool _) rfl) ?_
    refine t_yes rfl rfl rfl ?_
    refine t_call Try.call57 (slives_calls) rfl ?_
    rintro e w ⟨rfl, hT⟩
    refine ⟨_, rfl, ?_⟩
    replace hS := hS.after hT
    refine t_q (q_pick_t rfl rfl) ?_
    refine t_q (q_as (.bool _) rfl) ?_
    refine t_nil ?_
    refine c_ret ?_
    refine r_one rfl rfl ?_
    exact ⟨rfl, hS.nil⟩
end Go.Proofs.Ytcikoealneldkaa
