/- What was written is read as it was: the walk. -/
import Derived.Test.YtcikoealneldkaaCl
import Derived.Test.YtcikoealneldkaaCb
namespace Go.Proofs.Ytcikoealneldkaa
open Go Go.RowKit Go.Lib
variable {W : World}
def item2 (x : Item) : List UInt8 := enc x.n.toNat ++ (enc (zig x.i) ++ ((if x.is then (1 : UInt8) else 0) :: (enc x.s.size ++ x.s.data.toList)))
def wl2 (l : List Item) : List UInt8 := l.flatMap item2
theorem wl2_snoc {l : List Item} {j : Nat} (h : j < l.length) : wl2 (l.take (j + 1)) = wl2 (l.take j) ++ item2 (l.getD j default) := by
  rw [List.take_succ_eq_append_getElem h, wl2, List.flatMap_append, List.getD_eq_getElem?_getD, List.getElem?_eq_getElem h]
  simp [wl2]
theorem wl2_drop {l : List Item} {j : Nat} (h : j < l.length) : wl2 (l.drop j) = enc (l.getD j default).n.toNat ++ (enc (zig (l.getD j default).i) ++ ((if (l.getD j default).is then (1 : UInt8) else 0) :: (enc (l.getD j default).s.size ++ (l.getD j default).s.data.toList ++ wl2 (l.drop (j + 1))))) := by
  rw [wl2, List.drop_eq_getElem_cons h, List.flatMap_cons, List.getD_eq_getElem?_getD, List.getElem?_eq_getElem h]
  simp only [item2, List.append_assoc, List.cons_append, wl2, Option.getD_some]
theorem item2_length {x : Item} (hx : x.Ok W) (hs : x.s.size ≤ 1000) : (item2 x).length ≤ 1040 := by
  have hn := hx.n
  have hi := hx.i
  have h1 := enc_ten (n := x.n.toNat) (by omega)
  have h3 := enc_ten (zig_lt hi.1 hi.2)
  have h4 := enc_ten (n := x.s.size) (by omega)
  have h5 : x.s.data.toList.length = x.s.size := by simp
  unfold item2
  simp only [List.length_append, List.length_cons]
  omega
theorem wl2_length {l : List Item} (h : ∀ x ∈ l, x.Ok W ∧ x.s.size ≤ 1000) : (wl2 l).length ≤ 1040 * l.length := by
  induction l with
  | nil => simp [wl2]
  | cons x l ih =>
    have h1 := item2_length (h x List.mem_cons_self).1 (h x List.mem_cons_self).2
    have h2 := ih fun y hy => h y (List.mem_cons_of_mem _ hy)
    simp only [wl2, List.flatMap_cons, List.length_append, List.length_cons] at h2 ⊢
    omega
theorem light_mem2 {l : List Item} (h : lightB l = true) {x : Item} (hx : x ∈ l) : x.s.size ≤ 1000 := by
  unfold lightB at h
  simp only [Bool.and_eq_true, List.all_eq_true, decide_eq_true_eq] at h
  exact h.1 x hx
theorem wl2_take {l : List Item} (hb : lightB l = true) (hok : ∀ x ∈ l, x.Ok W) (j : Nat) : (wl2 (l.take j)).length ≤ 62400 := by
  have h1 := wl2_length (l := l.take j) fun x hx => ⟨hok x (List.mem_of_mem_take hx), light_mem2 hb (List.mem_of_mem_take hx)⟩
  have h2 := light_len hb
  rw [List.length_take] at h1
  omega

set_option maxRecDepth 100000 in
theorem CodecBack_calls {A : Option Addr} {c : Nat} {l : List Item} (hl : RdIt W A l) (hm : l.length ≤ maxLen) (hok : ∀ x ∈ l, x.Ok W) :
  Calls Try.prog 9 #[.slice A l.length c] W fun e w' => e = .returned (.bool true) ∧ St W w' [] := by
  have hS := St.init W
  refine calls_of_wpE (args := [_]) Try.func9 rfl rfl rfl ?_
  refine c_seq ?_
  refine c_region ?_
  refine t_q (q_assign) ?_
  refine t_nil ?_
  refine c_seq ?_
  refine c_seq ?_
  refine c_region ?_
  refine t_q (q_mv (.slice _ _ _) rfl) ?_
  refine t_call Try.call40 (light_calls (hl.st hS) hm) rfl ?_
  rintro e w ⟨rfl, hT⟩
  refine ⟨_, rfl, ?_⟩
  replace hS := hS.after hT
  refine t_q (q_not rfl) ?_
  refine t_nil ?_
  refine c_cond rfl ?_ ?_
  · intro hc2
    refine c_seq ?_
    refine c_region ?_
    refine t_call Try.call41 (lives_calls) rfl ?_
    rintro e w ⟨rfl, hT⟩
    refine ⟨_, rfl, ?_⟩
    replace hS := hS.after hT
    refine t_q (q_as (.bool _) rfl) ?_
    refine t_nil ?_
    refine c_ret ?_
    refine r_one rfl rfl ?_
    first | exact ⟨rfl, hS.nil⟩ | exact ⟨rfl, (hS0.trans hS).nil⟩
  · intro hc2
    have hb : lightB l = true := by simpa using hc2
    refine c_skip ?_
    refine c_seq ?_
    refine c_region ?_
    refine t_alloc Try.zeroValue50 rfl hS (fun g3 w hS => ?_)
    replace hS := hS.wr0
    refine t_nil ?_
    refine c_seq ?_
    refine c_seq ?_
    refine c_region ?_
    refine t_q (q_mv (.slice _ _ _) rfl) ?_
    refine t_q (q_len_slice Try.runUnderlying46 rfl) ?_
    refine t_q (q_move) ?_
    refine t_nil ?_
    refine c_block ?_
    refine c_loop [5, 15, 16, 17, 18, 19, 20, 21, 22, 23, 24, 25, 26, 27, 28, 29, 30, 31, 32, 33] (fun k σ w => ∃ j : Nat, σ 15 = .int .i64 (j : Int) ∧ j ≤ l.length ∧ l.length - j ≤ k ∧ St W w [wrA g3 (wl2 (l.take j))]) (l.length) rfl (⟨0, rfl, by omega, by omega, hS⟩) ?_
    skip
    rintro k σ w ⟨j, h15, hj, hk, hS⟩
    refine c_know 15 h15 ?_
    clear h15
    have hwl := wl2_take hb hok j
    have h60 := light_len hb
    refine c_seq ?_
    refine c_region ?_
    refine t_q (q_lss rfl rfl) ?_
    refine t_nil ?_
    refine c_seq ?_
    refine c_cond rfl ?_ ?_
    · intro hc5
      have hc5d := of_decide_eq_true hc5
      have hjl : j < l.length := by omega
      have hxk := hok _ (getD_mem (l := l) (j := j) (d := default) hjl)
      have hxn := hxk.n
      have hxi := hxk.i
      have h1000 := light_at hb hjl
      have hlen1 : (encs [(l.getD j default).n]).length ≤ 10 := encs_length (ns := [(l.getD j default).n]) (by intro m hm; simp only [List.mem_cons, List.not_mem_nil, or_false] at hm; omega)
      have hlen2 : (ints [(l.getD j default).i]).length ≤ 10 := ints_length (ns := [(l.getD j default).i]) (by intro m hm; simp only [List.mem_cons, List.not_mem_nil, or_false] at hm; omega)
      refine c_skip ?_
      refine c_seq ?_
      refine c_block ?_
      refine c_seq ?_
      refine c_region ?_
      first | refine t_index_nat Try.runUnderlying46 Try.sizeOf52 (hl.st hS) rfl rfl (by omega) (fun ad6 hl6 hx6 => ?_) | refine t_index Try.runUnderlying46 Try.sizeOf52 (hl.st hS) rfl rfl (by omega) (fun ad6 hl6 hx6 => ?_)
      refine t_q (q_loadN Try.isAgg52 Try.sizeOf52 rfl hl6 hx6) ?_
      refine t_alloc Try.zeroValue52 rfl hS (fun g5 w hS => ?_)
      refine t_store (v := (.agg _)) Try.sizeOf52 hS (by repeat first | exact .here _ _ | assumption | apply Pick.there) rfl rfl rfl rfl rfl rfl (fun w hS => ?_)
      replace hS := hS.recast (show blkA g5 52 _ = blkA g5 52 (itf l j) from rfl)
      refine t_nil ?_
      refine c_seq ?_
      refine c_region ?_
      refine t_q (q_fieldAddr 1 Try.runUnderlying52 rfl Try.sizeOf24 (by decide) rfl rfl) ?_
      refine t_q (q_load1 Try.isAgg24 rfl (hS.cell (by repeat first | exact .here _ _ | assumption | apply Pick.there) rfl)) ?_
      refine t_build_ints [_] Try.runUnderlying191 Try.sizeOf24 Try.zeroValue24 rfl rfl (by decide) hS (fun g21 w hS => ?_)
      refine t_call Try.call42 (Nat_calls hS (by repeat first | exact .here _ _ | assumption | apply Pick.there) (fun _ h => h.rowInts (.here _ _) rfl) (by intro m hm; simp only [List.mem_cons, List.not_mem_nil, or_false] at hm; omega) (by simp) (by first | omega | (simp only [List.length_append, List.length_cons, List.length_nil]; omega))) rfl ?_
      rintro e w ⟨rfl, hS⟩
      refine ⟨_, rfl, ?_⟩
      replace hS := hS.swap
      refine t_nil ?_
      refine c_seq ?_
      refine c_region ?_
      refine t_q (q_fieldAddr 2 Try.runUnderlying52 rfl Try.sizeOf2 (by decide) rfl rfl) ?_
      refine t_q (q_load1 Try.isAgg2 rfl (hS.cell (by repeat first | exact .here _ _ | assumption | apply Pick.there) rfl)) ?_
      refine t_build_ints [_] Try.runUnderlying192 Try.sizeOf2 Try.zeroValue2 rfl rfl (by decide) hS (fun g25 w hS => ?_)
      refine t_call Try.call44 (Int_calls hS (by repeat first | exact .here _ _ | assumption | apply Pick.there) (fun _ h => h.rowInts (.here _ _) rfl) (by intro m hm; simp only [List.mem_cons, List.not_mem_nil, or_false] at hm; omega) (by simp) (by first | omega | (simp only [List.length_append, List.length_cons, List.length_nil]; omega))) rfl ?_
      rintro e w ⟨rfl, hS⟩
      refine ⟨_, rfl, ?_⟩
      replace hS := hS.swap
      refine t_nil ?_
      refine c_seq ?_
      refine c_region ?_
      refine t_q (q_fieldAddr 3 Try.runUnderlying52 rfl Try.sizeOf4 (by decide) rfl rfl) ?_
      refine t_q (q_load1 Try.isAgg4 rfl (hS.cell (by repeat first | exact .here _ _ | assumption | apply Pick.there) rfl)) ?_
      refine t_call Try.call46 (Flag_calls hS (by repeat first | exact .here _ _ | assumption | apply Pick.there) (by first | omega | (simp only [List.length_append, List.length_cons, List.length_nil]; omega))) rfl ?_
      rintro e w ⟨rfl, hS⟩
      refine ⟨_, rfl, ?_⟩
      refine t_nil ?_
      refine c_region ?_
      refine t_q (q_fieldAddr 4 Try.runUnderlying52 rfl Try.sizeOf9 (by decide) rfl rfl) ?_
      refine t_q (q_load1 Try.isAgg9 rfl (hS.cell (by repeat first | exact .here _ _ | assumption | apply Pick.there) rfl)) ?_
      refine t_call Try.call48 (Text_calls hS (by repeat first | exact .here _ _ | assumption | apply Pick.there) (by omega) (by first | omega | (simp only [List.length_append, List.length_cons, List.length_nil]; omega))) rfl ?_
      rintro e w ⟨rfl, hS⟩
      refine ⟨_, rfl, ?_⟩
      refine t_nil ?_
      refine c_region ?_
      refine t_q (q_add_i64 rfl rfl (by omega)) ?_
      refine t_q (q_mv (.int _ _) rfl) ?_
      refine t_nil ?_
      replace hS := (hS.pick (A := blkA g5 52 (itf l j)) (by repeat first | exact .here _ _ | assumption | apply Pick.there)).drop
      exact ⟨k - 1, by omega, j + 1, rfl, by omega, by omega, hS.recast (congrArg (wrA g3) (by
        rw [wl2_snoc hjl]
        simp only [encs, ints, item2, List.flatMap_cons, List.flatMap_nil, List.append_nil, List.append_assoc, List.cons_append, List.nil_append]))⟩
    · intro hc5
      have hc5d := of_decide_eq_false hc5
      obtain rfl : j = l.length := by omega
      rw [List.take_length] at hS hwl
      refine c_exit ?_
      refine ite_t rfl ?_
      refine c_seq ?_
      refine c_region ?_
      refine t_call Try.call50 (Bytes_calls hS (by repeat first | exact .here _ _ | assumption | apply Pick.there) (by omega)) rfl ?_
      rintro e w ⟨A34, c34, rfl, hc34, hS⟩
      refine ⟨_, rfl, ?_⟩
      have hS0 := hS
      obtain ⟨w1, hw1⟩ : ∃ x, x = w := ⟨_, rfl⟩
      subst hw1
      have hb1 := hS.rowRd (bs := wl2 l) (.here _ _) rfl
      have hl1 := hl.st hS
      replace hS := St.init w1
      refine t_call Try.call58 (Open_calls (bs := wl2 l) hS hb1 ⟨hc34, by omega⟩) rfl ?_
      rintro e w ⟨g35, rfl, hS⟩
      refine ⟨_, rfl, ?_⟩
      refine t_q (q_as (.pointer _) rfl) ?_
      refine t_nil ?_
      refine c_seq ?_
      refine c_seq ?_
      refine c_region ?_
      refine t_q (q_mv (.slice _ _ _) rfl) ?_
      refine t_q (q_len_slice Try.runUnderlying46 rfl) ?_
      refine t_q (q_move) ?_
      refine t_nil ?_
      refine c_block ?_
      refine c_loop [2, 8, 38, 39, 40, 41, 42, 43, 44, 45, 46, 47, 48, 49, 50, 51, 52, 53, 54, 55, 56, 57, 58, 59, 60, 61, 62, 63, 64, 65, 66, 67, 68, 69, 70, 71, 72, 73] (fun k σ w => ∃ j : Nat, σ 38 = .int .i64 (j : Int) ∧ j ≤ l.length ∧ l.length - j ≤ k ∧ St w1 w [rdrA w1 106 g35 ⟨wl2 (l.drop j), false⟩]) (l.length) rfl (⟨0, rfl, by omega, by omega, hS⟩) ?_
      skip
      rintro k σ w ⟨j, h38, hj, hk, hS⟩
      refine c_know 38 h38 ?_
      clear h38
      refine c_seq ?_
      refine c_region ?_
      refine t_q (q_lss rfl rfl) ?_
      refine t_nil ?_
      refine c_seq ?_
      refine c_cond rfl ?_ ?_
      · intro hc15
        have hc15d := of_decide_eq_true hc15
        have hjl : j < l.length := by omega
        have hxk := hok _ (getD_mem (l := l) (j := j) (d := default) hjl)
        have hxn := hxk.n
        have hxi := hxk.i
        have h1000 := light_at hb hjl
        refine c_skip ?_
        refine c_seq ?_
        refine c_block ?_
        refine c_seq ?_
        refine c_region ?_
        first | refine t_index_nat Try.runUnderlying46 Try.sizeOf52 (hl1.st hS) rfl rfl (by omega) (fun ad16 hl16 hx16 => ?_) | refine t_index Try.runUnderlying46 Try.sizeOf52 (hl1.st hS) rfl rfl (by omega) (fun ad16 hl16 hx16 => ?_)
        refine t_q (q_loadN Try.isAgg52 Try.sizeOf52 rfl hl16 hx16) ?_
        refine t_alloc Try.zeroValue52 rfl hS (fun g8 w hS => ?_)
        refine t_store (v := (.agg _)) Try.sizeOf52 hS (by repeat first | exact .here _ _ | assumption | apply Pick.there) rfl rfl rfl rfl rfl rfl (fun w hS => ?_)
        replace hS := hS.recast (show blkA g8 52 _ = blkA g8 52 (itf l j) from rfl)
        replace hS := (hS.pick (A := rdrA w1 106 g35 _) (by repeat first | exact .here _ _ | assumption | apply Pick.there)).recast (congrArg (fun b => rdrA w1 106 g35 ⟨b, false⟩) (wl2_drop hjl))
        refine t_nil ?_
        refine c_seq ?_
        refine c_draw ?_
        refine d_keep (blkA g8 52 (itf l j)) 31 [0, 1, 2, 3, 4, 5, 6, 7, 8, 9, 10, 11, 12, 13, 14, 15, 16, 17, 18, 19, 20, 21, 22, 23, 24, 25, 26, 27, 28, 29, 30] [0, 1, 2, 3, 4, 5, 6, 7, 8, 9, 10, 11, 12, 13, 14, 15, 16, 17, 18, 19, 20, 21, 22, 23, 24, 25, 26, 27, 28, 29, 30] hS rfl (by kernel_rfl) (by kernel_rfl) (by kernel_rfl) (by kernel_rfl) (fun hap hsel w hS => ?_)
        refine p_q hap hsel 0 rfl rfl ⟨_, hS.pick (by repeat first | exact .here _ _ | assumption | apply Pick.there)⟩ (fun w hI => q_mv (.pointer _) rfl) ?_
        refine p_q hap hsel 1 rfl rfl ⟨_, hS.pick (by repeat first | exact .here _ _ | assumption | apply Pick.there)⟩ (fun w hI => q_fieldAddr 1 Try.runUnderlying52 rfl Try.sizeOf24 (by decide) rfl rfl) ?_
        refine p_q hap hsel 2 rfl rfl ⟨_, hS.pick (by repeat first | exact .here _ _ | assumption | apply Pick.there)⟩ (fun w hI => q_load1 Try.isAgg24 rfl (hI.choose_spec.cell (by repeat first | exact .here _ _ | assumption | apply Pick.there) rfl)) ?_
        refine p_q hap hsel 4 rfl rfl ⟨_, hS.pick (by repeat first | exact .here _ _ | assumption | apply Pick.there)⟩ (fun w hI => q_fieldAddr 1 Try.runUnderlying52 rfl Try.sizeOf24 (by decide) rfl rfl) ?_
        refine p_q hap hsel 5 rfl rfl ⟨_, hS.pick (by repeat first | exact .here _ _ | assumption | apply Pick.there)⟩ (fun w hI => q_load1 Try.isAgg24 rfl (hI.choose_spec.cell (by repeat first | exact .here _ _ | assumption | apply Pick.there) rfl)) ?_
        refine p_one 3 rfl (by kernel_rfl) ?_
        refine t_call Try.call59 (rNat_enc hS (by repeat first | exact .here _ _ | assumption | apply Pick.there) (by omega) (by omega) (by omega)) rfl ?_
        rintro e w ⟨rfl, hS⟩
        refine ⟨_, rfl, ?_⟩
        refine t_nil ?_
        refine ⟨.inr ⟨_, hS.pick (by repeat first | exact .here _ _ | assumption | apply Pick.there)⟩, ?_⟩
        refine p_q hap hsel 6 rfl rfl ⟨_, hS.pick (by repeat first | exact .here _ _ | assumption | apply Pick.there)⟩ (fun w hI => (q_cast (v' := .bool false) (q_neq rfl rfl) (by simp))) ?_
        refine p_q hap hsel 7 rfl rfl ⟨_, hS.pick (by repeat first | exact .here _ _ | assumption | apply Pick.there)⟩ (fun w hI => q_mv (.bool _) rfl) ?_
        refine p_yes hap hsel 8 rfl rfl ⟨_, hS.pick (by repeat first | exact .here _ _ | assumption | apply Pick.there)⟩ rfl rfl rfl (fun w hI => q_mv (.pointer _) rfl) ?_
        refine p_yes hap hsel 10 rfl rfl ⟨_, hS.pick (by repeat first | exact .here _ _ | assumption | apply Pick.there)⟩ rfl rfl rfl (fun w hI => q_fieldAddr 2 Try.runUnderlying52 rfl Try.sizeOf2 (by decide) rfl rfl) ?_
        refine p_yes hap hsel 11 rfl rfl ⟨_, hS.pick (by repeat first | exact .here _ _ | assumption | apply Pick.there)⟩ rfl rfl rfl (fun w hI => q_load1 Try.isAgg2 rfl (hI.choose_spec.cell (by repeat first | exact .here _ _ | assumption | apply Pick.there) rfl)) ?_
        refine p_one 9 rfl (by kernel_rfl) ?_
        refine t_yes rfl rfl rfl ?_
        refine t_call Try.call61 (rInt_enc hS (by repeat first | exact .here _ _ | assumption | apply Pick.there) (by omega) (by omega)) rfl ?_
        rintro e w ⟨rfl, hS⟩
        refine ⟨_, rfl, ?_⟩
        refine t_nil ?_
        refine ⟨.inr ⟨_, hS.pick (by repeat first | exact .here _ _ | assumption | apply Pick.there)⟩, ?_⟩
        refine p_yes hap hsel 12 rfl rfl ⟨_, hS.pick (by repeat first | exact .here _ _ | assumption | apply Pick.there)⟩ rfl rfl rfl (fun w hI => (q_cast (v' := .bool false) (q_neq rfl rfl) (by simp))) ?_
        refine p_q hap hsel 13 rfl rfl ⟨_, hS.pick (by repeat first | exact .here _ _ | assumption | apply Pick.there)⟩ (fun w hI => q_pick_f rfl rfl) ?_
        refine p_q hap hsel 14 rfl rfl ⟨_, hS.pick (by repeat first | exact .here _ _ | assumption | apply Pick.there)⟩ (fun w hI => q_mv (.bool _) rfl) ?_
        refine p_yes hap hsel 15 rfl rfl ⟨_, hS.pick (by repeat first | exact .here _ _ | assumption | apply Pick.there)⟩ rfl rfl rfl (fun w hI => q_mv (.pointer _) rfl) ?_
        refine p_yes hap hsel 17 rfl rfl ⟨_, hS.pick (by repeat first | exact .here _ _ | assumption | apply Pick.there)⟩ rfl rfl rfl (fun w hI => q_fieldAddr 3 Try.runUnderlying52 rfl Try.sizeOf4 (by decide) rfl rfl) ?_
        refine p_yes hap hsel 18 rfl rfl ⟨_, hS.pick (by repeat first | exact .here _ _ | assumption | apply Pick.there)⟩ rfl rfl rfl (fun w hI => q_load1 Try.isAgg4 rfl (hI.choose_spec.cell (by repeat first | exact .here _ _ | assumption | apply Pick.there) rfl)) ?_
        refine p_one 16 rfl (by kernel_rfl) ?_
        refine t_yes rfl rfl rfl ?_
        refine t_call Try.call63 (rFlag_enc hS (by repeat first | exact .here _ _ | assumption | apply Pick.there)) rfl ?_
        rintro e w ⟨rfl, hS⟩
        refine ⟨_, rfl, ?_⟩
        refine t_nil ?_
        refine ⟨.inr ⟨_, hS.pick (by repeat first | exact .here _ _ | assumption | apply Pick.there)⟩, ?_⟩
        refine p_yes hap hsel 19 rfl rfl ⟨_, hS.pick (by repeat first | exact .here _ _ | assumption | apply Pick.there)⟩ rfl rfl rfl (fun w hI => (q_cast (v' := .bool false) (q_neq_bool Try.runUnderlying4 rfl rfl) (by simp))) ?_
        refine p_q hap hsel 20 rfl rfl ⟨_, hS.pick (by repeat first | exact .here _ _ | assumption | apply Pick.there)⟩ (fun w hI => q_pick_f rfl rfl) ?_
        refine p_q hap hsel 21 rfl rfl ⟨_, hS.pick (by repeat first | exact .here _ _ | assumption | apply Pick.there)⟩ (fun w hI => q_mv (.bool _) rfl) ?_
        refine p_yes hap hsel 22 rfl rfl ⟨_, hS.pick (by repeat first | exact .here _ _ | assumption | apply Pick.there)⟩ rfl rfl rfl (fun w hI => q_mv (.pointer _) rfl) ?_
        refine p_yes hap hsel 23 rfl rfl ⟨_, hS.pick (by repeat first | exact .here _ _ | assumption | apply Pick.there)⟩ rfl rfl rfl (fun w hI => q_fieldAddr 4 Try.runUnderlying52 rfl Try.sizeOf9 (by decide) rfl rfl) ?_
        refine p_yes hap hsel 24 rfl rfl ⟨_, hS.pick (by repeat first | exact .here _ _ | assumption | apply Pick.there)⟩ rfl rfl rfl (fun w hI => q_load1 Try.isAgg9 rfl (hI.choose_spec.cell (by repeat first | exact .here _ _ | assumption | apply Pick.there) rfl)) ?_
        refine p_yes hap hsel 25 rfl rfl ⟨_, hS.pick (by repeat first | exact .here _ _ | assumption | apply Pick.there)⟩ rfl rfl rfl (fun w hI => q_len_string Try.runUnderlying9 rfl) ?_
        refine p_yes hap hsel 27 rfl rfl ⟨_, hS.pick (by repeat first | exact .here _ _ | assumption | apply Pick.there)⟩ rfl rfl rfl (fun w hI => q_fieldAddr 4 Try.runUnderlying52 rfl Try.sizeOf9 (by decide) rfl rfl) ?_
        refine p_yes hap hsel 28 rfl rfl ⟨_, hS.pick (by repeat first | exact .here _ _ | assumption | apply Pick.there)⟩ rfl rfl rfl (fun w hI => q_load1 Try.isAgg9 rfl (hI.choose_spec.cell (by repeat first | exact .here _ _ | assumption | apply Pick.there) rfl)) ?_
        refine p_one 26 rfl (by kernel_rfl) ?_
        refine t_yes rfl rfl rfl ?_
        refine t_call Try.call65 (rText_enc hS (by repeat first | exact .here _ _ | assumption | apply Pick.there) (by omega) (by omega)) rfl ?_
        rintro e w ⟨rfl, hS⟩
        refine ⟨_, rfl, ?_⟩
        refine t_nil ?_
        refine ⟨.inr ⟨_, hS.pick (by repeat first | exact .here _ _ | assumption | apply Pick.there)⟩, ?_⟩
        refine p_yes hap hsel 29 rfl rfl ⟨_, hS.pick (by repeat first | exact .here _ _ | assumption | apply Pick.there)⟩ rfl rfl rfl (fun w hI => (q_cast (v' := .bool false) (q_neq_string rfl rfl) (by simp))) ?_
        refine p_q hap hsel 30 rfl rfl ⟨_, hS.pick (by repeat first | exact .here _ _ | assumption | apply Pick.there)⟩ (fun w hI => q_pick_f rfl rfl) ?_
        refine p_end (by kernel_rfl) ?_
        refine c_cond_f rfl rfl ?_
        refine c_skip ?_
        refine c_region ?_
        refine t_q (q_add_i64 rfl rfl (by omega)) ?_
        refine t_q (q_mv (.int _ _) rfl) ?_
        refine t_nil ?_
        exact ⟨k - 1, by omega, j + 1, rfl, by omega, by omega, (hS.pick (A := rdrA w1 106 g35 _) (by repeat first | exact .here _ _ | assumption | apply Pick.there)) |>.swap⟩
      · intro hc15
        have hc15d := of_decide_eq_false hc15
        obtain rfl : j = l.length := by omega
        rw [List.drop_length] at hS
        refine c_exit ?_
        refine ite_t rfl ?_
        refine c_seq ?_
        refine c_region ?_
        refine t_q (q_mv (.pointer _) rfl) ?_
        refine t_call Try.call71 (rEnd hS (by repeat first | exact .here _ _ | assumption | apply Pick.there)) rfl ?_
        rintro e w ⟨rfl, hS⟩
        refine ⟨_, rfl, ?_⟩
        refine t_q (q_cast (v' := .bool true) (q_eql rfl rfl) (rfl)) ?_
        refine t_q (q_mv (.bool _) rfl) ?_
        refine t_yes rfl rfl rfl ?_
        refine t_call Try.call41 (lives_calls) rfl ?_
        rintro e w ⟨rfl, hT⟩
        refine ⟨_, rfl, ?_⟩
        replace hS := hS.after hT
        refine t_q (q_pick_t rfl rfl) ?_
        refine t_q (q_as (.bool _) rfl) ?_
        refine t_nil ?_
        refine c_ret ?_
        refine r_one rfl rfl ?_
        first | exact ⟨rfl, hS.nil⟩ | exact ⟨rfl, (hS0.trans hS).nil⟩
end Go.Proofs.Ytcikoealneldkaa
