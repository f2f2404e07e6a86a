/- Bytes that are read are just what is written: the walk. -/
import Derived.Test.YtcikoealneldkaaCl
import Derived.Test.YtcikoealneldkaaCb
namespace Go.Proofs.Ytcikoealneldkaa
open Go Go.RowKit Go.Lib
variable {W : World}
theorem endOk_0 {s : Rs} (h : s.endOk = 0) : s.bad = false ∧ s.left = [] := by
  unfold Rs.endOk at h
  split at h
  · cases h
  · rename_i h0
    refine ⟨?_, ?_⟩
    · cases hb : s.bad with
      | false => rfl
      | true => exact absurd (.inl hb) h0
    · cases hl : s.left with
      | nil => rfl
      | cons a l => exact absurd (.inr (by rw [hl]; simp)) h0
theorem once_bytes {bs : List UInt8} (h : ((((((⟨bs, false⟩ : Rs).nat allNat).2).int.2).flag.2).text 5000).2.endOk = 0) : bs = enc ((⟨bs, false⟩ : Rs).nat allNat).1 ++ (enc (zig (((⟨bs, false⟩ : Rs).nat allNat).2).int.1) ++ ((if ((((⟨bs, false⟩ : Rs).nat allNat).2).int.2).flag.1 then (1 : UInt8) else 0) :: (enc ((((((⟨bs, false⟩ : Rs).nat allNat).2).int.2).flag.2).text 5000).1.length ++ ((((((⟨bs, false⟩ : Rs).nat allNat).2).int.2).flag.2).text 5000).1))) := by
  obtain ⟨hb, hl⟩ := endOk_0 h
  obtain ⟨e4, hb⟩ := Rs.text_only hb
  obtain ⟨e3, hb⟩ := Rs.flag_only hb
  obtain ⟨e2, hb⟩ := Rs.int_only hb
  obtain ⟨e1, _⟩ := Rs.nat_only hb
  rw [hl, List.append_nil] at e4
  rw [e4] at e3
  rw [e3] at e2
  rw [e2] at e1
  exact e1

set_option maxRecDepth 100000 in
theorem CodecOnce_calls {A : Option Addr} {c : Nat} {bs : List UInt8} (hR : RdB W A bs) (hc : bs.length ≤ c ∧ bs.length ≤ 9223372036854775807) :
  Calls Try.prog 10 #[.slice A bs.length c] W fun e w' => e = .returned (.bool true) ∧ St W w' [] := by
  have hS := St.init W
  refine calls_of_wpE (args := [_]) Try.func10 rfl rfl rfl ?_
  refine c_seq ?_
  refine c_region ?_
  refine t_q (q_assign) ?_
  refine t_nil ?_
  refine c_seq ?_
  refine c_seq ?_
  refine c_region ?_
  refine t_q (q_mv (.slice _ _ _) rfl) ?_
  refine t_q (q_len_slice Try.runUnderlying48 rfl) ?_
  refine t_q (q_gtr rfl rfl) ?_
  refine t_nil ?_
  refine c_cond rfl ?_ ?_
  · intro hc2
    have hc2d := of_decide_eq_true hc2
    refine c_seq ?_
    refine c_region ?_
    refine t_call Try.call41 (lives_calls) rfl ?_
    rintro e w ⟨rfl, hT⟩
    refine ⟨_, rfl, ?_⟩
    replace hS := hS.after hT
    refine t_q (q_as (.bool _) rfl) ?_
    refine t_nil ?_
    refine c_ret ?_
    refine r_one rfl rfl ?_
    exact ⟨rfl, hS.nil⟩
  · intro hc2
    have hc2d := of_decide_eq_false hc2
    refine c_skip ?_
    refine c_seq ?_
    refine c_region ?_
    refine t_q (q_mv (.slice _ _ _) rfl) ?_
    refine t_call Try.call58 (Open_calls hS hR hc) rfl ?_
    rintro e w ⟨g14, rfl, hS⟩
    refine ⟨_, rfl, ?_⟩
    refine t_q (q_as (.pointer _) rfl) ?_
    refine t_nil ?_
    refine c_seq ?_
    refine c_region ?_
    refine t_q (q_mv (.pointer _) rfl) ?_
    refine t_call Try.call59 (rNat_all hS (by repeat first | exact .here _ _ | assumption | apply Pick.there)) rfl ?_
    rintro e w ⟨rfl, hS⟩
    refine ⟨_, rfl, ?_⟩
    refine t_q (q_mv (.pointer _) rfl) ?_
    refine t_call Try.call61 (rInt hS (by repeat first | exact .here _ _ | assumption | apply Pick.there)) rfl ?_
    rintro e w ⟨rfl, hS⟩
    refine ⟨_, rfl, ?_⟩
    refine t_q (q_mv (.pointer _) rfl) ?_
    refine t_call Try.call63 (rFlag hS (by repeat first | exact .here _ _ | assumption | apply Pick.there)) rfl ?_
    rintro e w ⟨rfl, hS⟩
    refine ⟨_, rfl, ?_⟩
    refine t_q (q_mv (.pointer _) rfl) ?_
    refine t_call Try.call65 (rText hS (by repeat first | exact .here _ _ | assumption | apply Pick.there) (by omega)) rfl ?_
    rintro e w ⟨rfl, hS⟩
    refine ⟨_, rfl, ?_⟩
    refine t_q (q_as (.int _ _) rfl) ?_
    refine t_q (q_as (.int _ _) rfl) ?_
    refine t_q (q_as (.bool _) rfl) ?_
    refine t_q (q_as (.string _) rfl) ?_
    refine t_nil ?_
    refine c_seq ?_
    refine c_seq ?_
    refine c_region ?_
    refine t_q (q_mv (.pointer _) rfl) ?_
    refine t_call Try.call71 (rEnd hS (by repeat first | exact .here _ _ | assumption | apply Pick.there)) rfl ?_
    rintro e w ⟨rfl, hS⟩
    refine ⟨_, rfl, ?_⟩
    refine t_q (q_neq rfl rfl) ?_
    refine t_nil ?_
    refine c_cond rfl ?_ ?_
    · intro hc11
      have hc11d := of_decide_eq_true hc11
      refine c_seq ?_
      refine c_region ?_
      refine t_call Try.call41 (lives_calls) rfl ?_
      rintro e w ⟨rfl, hT⟩
      refine ⟨_, rfl, ?_⟩
      replace hS := hS.after hT
      refine t_q (q_as (.bool _) rfl) ?_
      refine t_nil ?_
      refine c_ret ?_
      refine r_one rfl rfl ?_
      exact ⟨rfl, hS.nil⟩
    · intro hc11
      have hc11d := of_decide_eq_false hc11
      have hall := once_bytes (bs := bs) (by omega)
      have hlt := nat_lt (⟨bs, false⟩ : Rs)
      have hir : -9223372036854775808 ≤ (((⟨bs, false⟩ : Rs).nat allNat).2).int.1 ∧ (((⟨bs, false⟩ : Rs).nat allNat).2).int.1 ≤ 9223372036854775807 := unzig_range (nat_lt (((⟨bs, false⟩ : Rs).nat allNat).2))
      have hts : (⟨((((((⟨bs, false⟩ : Rs).nat allNat).2).int.2).flag.2).text 5000).1.toArray⟩ : ByteArray).size = ((((((⟨bs, false⟩ : Rs).nat allNat).2).int.2).flag.2).text 5000).1.length := by simp [ByteArray.size]
      have hlb := congrArg List.length hall
      simp only [List.length_append, List.length_cons] at hlb
      have hlen1 : (encs [((((⟨bs, false⟩ : Rs).nat allNat).1 : Nat) : Int)]).length = (enc ((⟨bs, false⟩ : Rs).nat allNat).1).length := by rw [encs_one, Int.toNat_natCast]
      have hlen2 : (ints [(((⟨bs, false⟩ : Rs).nat allNat).2).int.1]).length = (enc (zig (((⟨bs, false⟩ : Rs).nat allNat).2).int.1)).length := by simp [ints]
      refine c_skip ?_
      refine c_seq ?_
      refine c_region ?_
      refine t_alloc Try.zeroValue50 rfl hS (fun g8 w hS => ?_)
      replace hS := hS.wr0
      refine t_nil ?_
      refine c_seq ?_
      refine c_region ?_
      refine t_q (q_mv (.int _ _) rfl) ?_
      refine t_build_ints [_] Try.runUnderlying191 Try.sizeOf24 Try.zeroValue24 rfl rfl (by decide) hS (fun g28 w hS => ?_)
      refine t_call Try.call42 (Nat_calls hS (by repeat first | exact .here _ _ | assumption | apply Pick.there) (fun _ h => h.rowInts (.here _ _) rfl) (by intro m hm; simp only [List.mem_cons, List.not_mem_nil, or_false] at hm; omega) (by simp) (by first | omega | (simp only [List.length_append, List.length_cons, List.length_nil]; omega))) rfl ?_
      rintro e w ⟨rfl, hS⟩
      refine ⟨_, rfl, ?_⟩
      replace hS := hS.swap
      refine t_nil ?_
      refine c_seq ?_
      refine c_region ?_
      refine t_q (q_mv (.int _ _) rfl) ?_
      refine t_build_ints [_] Try.runUnderlying192 Try.sizeOf2 Try.zeroValue2 rfl rfl (by decide) hS (fun g31 w hS => ?_)
      refine t_call Try.call44 (Int_calls hS (by repeat first | exact .here _ _ | assumption | apply Pick.there) (fun _ h => h.rowInts (.here _ _) rfl) (by intro m hm; simp only [List.mem_cons, List.not_mem_nil, or_false] at hm; omega) (by simp) (by first | omega | (simp only [List.length_append, List.length_cons, List.length_nil]; omega))) rfl ?_
      rintro e w ⟨rfl, hS⟩
      refine ⟨_, rfl, ?_⟩
      replace hS := hS.swap
      refine t_nil ?_
      refine c_seq ?_
      refine c_region ?_
      refine t_q (q_mv (.bool _) rfl) ?_
      refine t_call Try.call46 (Flag_calls hS (by repeat first | exact .here _ _ | assumption | apply Pick.there) (by first | omega | (simp only [List.length_append, List.length_cons, List.length_nil]; omega))) rfl ?_
      rintro e w ⟨rfl, hS⟩
      refine ⟨_, rfl, ?_⟩
      refine t_nil ?_
      refine c_seq ?_
      refine c_region ?_
      refine t_q (q_mv (.string _) rfl) ?_
      refine t_call Try.call48 (Text_calls hS (by repeat first | exact .here _ _ | assumption | apply Pick.there) (by rw [hts]; omega) (by simp only [List.length_append, List.length_cons, List.length_nil, hlen1, hlen2]; omega)) rfl ?_
      rintro e w ⟨rfl, hS⟩
      refine ⟨_, rfl, ?_⟩
      refine t_nil ?_
      refine c_seq ?_
      replace hS := hS.recast (congrArg (wrA g8) (show _ = bs from by
        refine Eq.trans ?_ hall.symm
        simp only [encs, ints, List.flatMap_cons, List.flatMap_nil, List.append_nil, List.nil_append, Int.toNat_natCast, List.append_assoc, List.cons_append]
        rfl))
      refine c_draw ?_
      refine d_free 9 [0, 1, 2, 3, 4, 5, 6, 7, 8] [0, 1, 2, 3, 4, 5, 6, 7, 8] hS rfl (by kernel_rfl) (by kernel_rfl) (by kernel_rfl) (by kernel_rfl) (fun hap hsel w hS => ?_)
      refine p_q hap hsel 2 rfl rfl ⟨_, hS⟩ (fun w hI => q_mv (.slice _ _ _) rfl) ?_
      refine p_q hap hsel 3 rfl rfl ⟨_, hS⟩ (fun w hI => q_string Try.runUnderlying48 Try.runUnderlying5 Try.runUnderlying9 rfl rfl (hR.st hI.choose_spec)) ?_
      refine p_one 0 rfl (by kernel_rfl) ?_
      refine t_call Try.call50 (Bytes_calls hS (by repeat first | exact .here _ _ | assumption | apply Pick.there) (by omega)) rfl ?_
      rintro e w ⟨A37, c37, rfl, hc37, hS⟩
      refine ⟨_, rfl, ?_⟩
      refine t_nil ?_
      refine ⟨.inr ⟨_, hS⟩, ?_⟩
      refine p_one 1 rfl (by kernel_rfl) ?_
      refine t_q (q_string Try.runUnderlying48 Try.runUnderlying5 Try.runUnderlying9 rfl rfl (hS.rowRd (bs := bs) (.here _ _) rfl)) ?_
      refine t_nil ?_
      refine ⟨.inr ⟨_, hS⟩, ?_⟩
      refine p_q hap hsel 4 rfl rfl ⟨_, hS⟩ (fun w hI => (q_cast (v' := .bool true) (q_eql_string rfl rfl) (by simp))) ?_
      refine p_q hap hsel 5 rfl rfl ⟨_, hS⟩ (fun w hI => q_mv (.bool _) rfl) ?_
      refine p_one 6 rfl (by kernel_rfl) ?_
      refine t_yes rfl rfl rfl ?_
      refine t_call Try.call41 (lives_calls) rfl ?_
      rintro e w ⟨rfl, hT⟩
      refine ⟨_, rfl, ?_⟩
      replace hS := hS.after hT
      refine t_nil ?_
      refine ⟨.inr ⟨_, hS⟩, ?_⟩
      refine p_q hap hsel 7 rfl rfl ⟨_, hS⟩ (fun w hI => q_pick_t rfl rfl) ?_
      refine p_q hap hsel 8 rfl rfl ⟨_, hS⟩ (fun w hI => q_as (.bool _) rfl) ?_
      refine p_end (by kernel_rfl) ?_
      refine c_ret ?_
      refine r_one rfl rfl ?_
      exact ⟨rfl, hS.nil⟩
end Go.Proofs.Ytcikoealneldkaa
