/- Whatever is written, its bytes are the document's: the walk. -/
import Derived.Test.YtcikoealneldkaaCl
namespace Go.Proofs.Ytcikoealneldkaa
open Go Go.RowKit Go.Lib
variable {W : World}
theorem St.two {w : World} {R : List Asn} {A B A' B' : Asn} (h : St W w (A :: B :: R)) (e1 : A = A') (e2 : B = B') : St W w (A' :: B' :: R) := e1 ▸ e2 ▸ h
def witem (x : Item) : List UInt8 := if x.kind = 0 then enc x.n.toNat ++ enc (x.n / 2).toNat else if x.kind = 1 then enc (zig x.i) else if x.kind = 2 then [if x.is then 1 else 0] else enc x.s.size ++ x.s.data.toList
def wl (l : List Item) : List UInt8 := l.flatMap witem
theorem wl_snoc {l : List Item} {j : Nat} (h : j < l.length) : wl (l.take (j + 1)) = wl (l.take j) ++ witem (l.getD j default) := by
  rw [List.take_succ_eq_append_getElem h, wl, List.flatMap_append, List.getD_eq_getElem?_getD, List.getElem?_eq_getElem h]
  simp [wl]
theorem witem_0 {x : Item} (h : x.kind = 0) : witem x = enc x.n.toNat ++ enc (x.n / 2).toNat := by unfold witem; rw [if_pos h]
theorem witem_1 {x : Item} (h0 : ¬ x.kind = 0) (h : x.kind = 1) : witem x = enc (zig x.i) := by unfold witem; rw [if_neg h0, if_pos h]
theorem witem_2 {x : Item} (h0 : ¬ x.kind = 0) (h1 : ¬ x.kind = 1) (h : x.kind = 2) : witem x = [if x.is then 1 else 0] := by unfold witem; rw [if_neg h0, if_neg h1, if_pos h]
theorem witem_3 {x : Item} (h0 : ¬ x.kind = 0) (h1 : ¬ x.kind = 1) (h : ¬ x.kind = 2) : witem x = enc x.s.size ++ x.s.data.toList := by unfold witem; rw [if_neg h0, if_neg h1, if_neg h]
theorem witem_length {x : Item} (hx : x.Ok W) (hs : x.s.size ≤ 1000) : (witem x).length ≤ 1020 := by
  have hn := hx.n
  have hi := hx.i
  have h1 := enc_ten (n := x.n.toNat) (by omega)
  have h2 := enc_ten (n := (x.n / 2).toNat) (by omega)
  have h3 := enc_ten (zig_lt hi.1 hi.2)
  have h4 := enc_ten (n := x.s.size) (by omega)
  have h5 : x.s.data.toList.length = x.s.size := by simp
  unfold witem
  split
  · rw [List.length_append]; omega
  · split
    · omega
    · split
      · simp
      · rw [List.length_append]; omega
theorem wl_length {l : List Item} (h : ∀ x ∈ l, x.Ok W ∧ x.s.size ≤ 1000) : (wl l).length ≤ 1020 * l.length := by
  induction l with
  | nil => simp [wl]
  | cons x l ih =>
    have h1 := witem_length (h x List.mem_cons_self).1 (h x List.mem_cons_self).2
    have h2 := ih fun y hy => h y (List.mem_cons_of_mem _ hy)
    simp only [wl, List.flatMap_cons, List.length_append, List.length_cons] at h2 ⊢
    omega
theorem light_mem {l : List Item} (h : lightB l = true) {x : Item} (hx : x ∈ l) : x.s.size ≤ 1000 := by
  unfold lightB at h
  simp only [Bool.and_eq_true, List.all_eq_true, decide_eq_true_eq] at h
  exact h.1 x hx
theorem wl_take {l : List Item} (hb : lightB l = true) (hok : ∀ x ∈ l, x.Ok W) (j : Nat) : (wl (l.take j)).length ≤ 61200 := by
  have h1 := wl_length (l := l.take j) fun x hx => ⟨hok x (List.mem_of_mem_take hx), light_mem hb (List.mem_of_mem_take hx)⟩
  have h2 := light_len hb
  rw [List.length_take] at h1
  omega

set_option maxRecDepth 100000 in
theorem CodecWrites_calls {A : Option Addr} {c : Nat} {l : List Item} (hl : RdIt W A l) (hm : l.length ≤ maxLen) (hok : ∀ x ∈ l, x.Ok W) :
  Calls Try.prog 4 #[.slice A l.length c] W fun e w' => e = .returned (.bool true) ∧ St W w' [] := by
  have hS := St.init W
  refine calls_of_wpE (args := [_]) Try.func4 rfl rfl rfl ?_
  refine c_seq ?_
  refine c_region ?_
  refine t_q (q_assign) ?_
  refine t_nil ?_
  refine c_seq ?_
  refine c_seq ?_
  refine c_region ?_
  refine t_q (q_mv (.slice _ _ _) rfl) ?_
  refine t_call Try.call40 (light_calls (hl.st hS) hm) rfl ?_
  rintro e w ⟨rfl, hT⟩
  refine ⟨_, rfl, ?_⟩
  replace hS := hS.after hT
  refine t_q (q_not rfl) ?_
  refine t_nil ?_
  refine c_cond rfl ?_ ?_
  · intro hc2
    refine c_seq ?_
    refine c_region ?_
    refine t_call Try.call41 (lives_calls) rfl ?_
    rintro e w ⟨rfl, hT⟩
    refine ⟨_, rfl, ?_⟩
    replace hS := hS.after hT
    refine t_q (q_as (.bool _) rfl) ?_
    refine t_nil ?_
    refine c_ret ?_
    refine r_one rfl rfl ?_
    exact ⟨rfl, hS.nil⟩
  · intro hc2
    have hb : lightB l = true := by simpa using hc2
    refine c_skip ?_
    refine c_seq ?_
    refine c_region ?_
    refine t_alloc Try.zeroValue50 rfl hS (fun g3 w hS => ?_)
    replace hS := hS.wr0
    refine t_nil ?_
    refine c_seq ?_
    refine c_region ?_
    refine t_q (q_assign) ?_
    refine t_nil ?_
    refine c_seq ?_
    refine c_seq ?_
    refine c_region ?_
    refine t_q (q_mv (.slice _ _ _) rfl) ?_
    refine t_q (q_len_slice Try.runUnderlying46 rfl) ?_
    refine t_q (q_move) ?_
    refine t_nil ?_
    refine c_block ?_
    refine c_loop [4, 6, 13, 14, 15, 16, 17, 18, 19, 20, 21, 22, 23, 24, 25, 26, 27, 28, 29, 30, 31, 32, 33, 34, 35, 36, 37, 38, 39, 40, 41, 42, 43, 44, 45, 46, 47, 48, 49, 50, 51, 52, 53, 54, 55, 56, 57, 58, 59, 60, 61, 62, 63, 64, 65, 66, 67] (fun k σ w => ∃ (j : Nat) (A' : Option Addr) (n c' : Nat), σ 13 = .int .i64 (j : Int) ∧ σ 4 = .slice A' n c' ∧ n = (wl (l.take j)).length ∧ j ≤ l.length ∧ l.length - j ≤ k ∧ St W w [wrA g3 (wl (l.take j)), rowA 5 1 A' n c' ((wl (l.take j)).map bv)]) (l.length) rfl (⟨0, none, 0, 0, rfl, rfl, rfl, by omega, by omega, (hS.nilrow 5 1).pick (.there (.here _ _))⟩) ?_
    skip
    rintro k σ w ⟨j, A', n, c', h13, h4, hn, hj, hk, hS⟩
    refine c_know 13 h13 ?_
    refine c_know 4 h4 ?_
    clear h13 h4
    have hwl := wl_take hb hok j
    have h60 := light_len hb
    refine c_seq ?_
    refine c_region ?_
    refine t_q (q_lss rfl rfl) ?_
    refine t_nil ?_
    refine c_seq ?_
    refine c_cond rfl ?_ ?_
    · intro hc5
      have hc5d := of_decide_eq_true hc5
      have hjl : j < l.length := by omega
      have hxk := hok _ (getD_mem (l := l) (j := j) (d := default) hjl)
      have hxn := hxk.n
      have hxi := hxk.i
      have h1000 := light_at hb hjl
      have he1 := enc_ten (n := (l.getD j default).n.toNat) (by omega)
      have he2 := enc_ten (n := ((l.getD j default).n / 2).toNat) (by omega)
      have he3 := enc_ten (zig_lt hxi.1 hxi.2)
      have he4 := enc_ten (n := (l.getD j default).s.size) (by omega)
      have he5 : (l.getD j default).s.data.toList.length = (l.getD j default).s.size := by simp
      refine c_skip ?_
      refine c_seq ?_
      refine c_block ?_
      refine c_seq ?_
      refine c_region ?_
      first | refine t_index_nat Try.runUnderlying46 Try.sizeOf52 (hl.st hS) rfl rfl (by omega) (fun ad6 hl6 hx6 => ?_) | refine t_index Try.runUnderlying46 Try.sizeOf52 (hl.st hS) rfl rfl (by omega) (fun ad6 hl6 hx6 => ?_)
      refine t_q (q_loadN Try.isAgg52 Try.sizeOf52 rfl hl6 hx6) ?_
      refine t_alloc Try.zeroValue52 rfl hS (fun g6 w hS => ?_)
      refine t_store (v := (.agg _)) Try.sizeOf52 hS (by repeat first | exact .here _ _ | assumption | apply Pick.there) rfl rfl rfl rfl rfl rfl (fun w hS => ?_)
      replace hS := hS.recast (show blkA g6 52 _ = blkA g6 52 (itf l j) from rfl)
      refine t_nil ?_
      refine c_seq ?_
      refine c_region ?_
      refine t_q (q_fieldAddr 0 Try.runUnderlying52 rfl Try.sizeOf3 (by decide) rfl rfl) ?_
      refine t_q (q_load1 Try.isAgg3 rfl (hS.cell (by repeat first | exact .here _ _ | assumption | apply Pick.there) rfl)) ?_
      refine t_nil ?_
      refine c_block ?_
      refine c_seq ?_
      refine c_region ?_
      refine t_q (q_eql rfl rfl) ?_
      refine t_q (q_as (.bool _) rfl) ?_
      refine t_nil ?_
      refine c_cond rfl ?_ ?_
      · intro hc8
        have hc8d := of_decide_eq_true hc8
        have h0 := hc8d
        refine c_seq ?_
        refine c_region ?_
        refine t_q (q_fieldAddr 1 Try.runUnderlying52 rfl Try.sizeOf24 (by decide) rfl rfl) ?_
        refine t_q (q_load1 Try.isAgg24 rfl (hS.cell (by repeat first | exact .here _ _ | assumption | apply Pick.there) rfl)) ?_
        refine t_q (q_fieldAddr 1 Try.runUnderlying52 rfl Try.sizeOf24 (by decide) rfl rfl) ?_
        refine t_q (q_load1 Try.isAgg24 rfl (hS.cell (by repeat first | exact .here _ _ | assumption | apply Pick.there) rfl)) ?_
        refine t_q (q_quo_n rfl rfl (by omega) (by omega) (wrap_u64 (by omega))) ?_
        refine t_build_ints [_, _] Try.runUnderlying191 Try.sizeOf24 Try.zeroValue24 rfl rfl (by decide) hS (fun g34 w hS => ?_)
        refine t_call Try.call42 (Nat_calls hS (by repeat first | exact .here _ _ | assumption | apply Pick.there) (fun _ h => h.rowInts (.here _ _) rfl) (by intro m hm; simp only [List.mem_cons, List.not_mem_nil, or_false] at hm; omega) (by simp) (by first | omega | (rw [List.length_append]; omega))) rfl ?_
        rintro e w ⟨rfl, hS⟩
        refine ⟨_, rfl, ?_⟩
        replace hS := hS.swap
        refine t_nil ?_
        refine c_draw ?_
        refine d_keep (blkA g6 52 (itf l j)) 11 [0, 1, 2, 3, 4, 5, 6, 7, 8, 9, 10] [0, 1, 2, 3, 4, 5, 6, 7, 8, 9, 10] hS rfl (by kernel_rfl) (by kernel_rfl) (by kernel_rfl) (by kernel_rfl) (fun hap hsel w hS => ?_)
        refine p_q hap hsel 0 rfl rfl ⟨_, hS.pick (by repeat first | exact .here _ _ | assumption | apply Pick.there)⟩ (fun w hI => q_mv (.slice _ _ _) rfl) ?_
        refine p_q hap hsel 1 rfl rfl ⟨_, hS.pick (by repeat first | exact .here _ _ | assumption | apply Pick.there)⟩ (fun w hI => q_fieldAddr 1 Try.runUnderlying52 rfl Try.sizeOf24 (by decide) rfl rfl) ?_
        refine p_q hap hsel 2 rfl rfl ⟨_, hS.pick (by repeat first | exact .here _ _ | assumption | apply Pick.there)⟩ (fun w hI => q_load1 Try.isAgg24 rfl (hI.choose_spec.cell (by repeat first | exact .here _ _ | assumption | apply Pick.there) rfl)) ?_
        refine p_q hap hsel 5 rfl rfl ⟨_, hS.pick (by repeat first | exact .here _ _ | assumption | apply Pick.there)⟩ (fun w hI => q_fieldAddr 1 Try.runUnderlying52 rfl Try.sizeOf24 (by decide) rfl rfl) ?_
        refine p_q hap hsel 6 rfl rfl ⟨_, hS.pick (by repeat first | exact .here _ _ | assumption | apply Pick.there)⟩ (fun w hI => q_load1 Try.isAgg24 rfl (hI.choose_spec.cell (by repeat first | exact .here _ _ | assumption | apply Pick.there) rfl)) ?_
        refine p_q hap hsel 7 rfl rfl ⟨_, hS.pick (by repeat first | exact .here _ _ | assumption | apply Pick.there)⟩ (fun w hI => q_quo_n rfl rfl (by omega) (by omega) (wrap_u64 (by omega))) ?_
        refine p_one 3 rfl (by kernel_rfl) ?_
        refine t_call Try.call43 (qwNat hS (by omega) (by omega)) rfl ?_
        rintro e w ⟨A39, n39, c39, rfl, hn39, hS⟩
        refine ⟨_, rfl, ?_⟩
        refine t_nil ?_
        refine ⟨.inr ⟨_, hS.pick (by repeat first | exact .here _ _ | assumption | apply Pick.there)⟩, ?_⟩
        refine p_one 4 rfl (by kernel_rfl) ?_
        refine t_append_own (size := 1) (bytes := 1) Try.underlying48 (info_of Try.type5) rfl rfl rfl rfl (by decide) hS (by repeat first | exact .here _ _ | assumption | apply Pick.there) (by repeat first | exact .here _ _ | assumption | apply Pick.there) rfl rfl (by first | exact allOne_bv _ | exact allOne_ints _ _ | rfl) (by unfold maxLen; omega) (by omega) (fun A40 c40 w hS => ?_)
        refine t_nil ?_
        refine ⟨.inr ⟨_, hS.pick (by repeat first | exact .here _ _ | assumption | apply Pick.there)⟩, ?_⟩
        refine p_one 8 rfl (by kernel_rfl) ?_
        refine t_call Try.call43 (qwNat hS (by omega) (by omega)) rfl ?_
        rintro e w ⟨A44, n44, c44, rfl, hn44, hS⟩
        refine ⟨_, rfl, ?_⟩
        refine t_nil ?_
        refine ⟨.inr ⟨_, hS.pick (by repeat first | exact .here _ _ | assumption | apply Pick.there)⟩, ?_⟩
        refine p_one 9 rfl (by kernel_rfl) ?_
        refine t_append_own (size := 1) (bytes := 1) Try.underlying48 (info_of Try.type5) rfl rfl rfl rfl (by decide) hS (by repeat first | exact .here _ _ | assumption | apply Pick.there) (by repeat first | exact .here _ _ | assumption | apply Pick.there) rfl rfl (by first | exact allOne_bv _ | exact allOne_ints _ _ | rfl) (by unfold maxLen; omega) (by omega) (fun A45 c45 w hS => ?_)
        refine t_nil ?_
        refine ⟨.inr ⟨_, hS.pick (by repeat first | exact .here _ _ | assumption | apply Pick.there)⟩, ?_⟩
        refine p_q hap hsel 10 rfl rfl ⟨_, hS.pick (by repeat first | exact .here _ _ | assumption | apply Pick.there)⟩ (fun w hI => q_as (.slice _ _ _) rfl) ?_
        refine p_end (by kernel_rfl) ?_
        refine c_region ?_
        refine t_q (q_add_i64 rfl rfl (by omega)) ?_
        refine t_q (q_mv (.int _ _) rfl) ?_
        refine t_nil ?_
        first
        | (have e := (wl_snoc (l := l) (j := j) (by omega)).trans (congrArg (wl (l.take j) ++ ·) (witem_0 h0))
           replace hS := (hS.pick (A := blkA g6 52 (itf l j)) (by repeat first | exact .here _ _ | assumption | apply Pick.there)).drop
           replace hS := hS.pick (A := wrA g3 _) (by repeat first | exact .here _ _ | assumption | apply Pick.there)
           refine ⟨k - 1, by omega, j + 1, _, _, _, rfl, rfl, ?_, by omega, by omega, hS.two (congrArg (wrA g3) ?_) (congrArg (rowA 5 1 _ _ _) ?_)⟩
           · rw [e]; simp only [List.length_append, List.length_cons, List.length_nil]; omega
           · rw [e]; simp only [encs, List.flatMap_cons, List.flatMap_nil, List.append_nil]
           · rw [e]; simp only [List.map_append, List.append_assoc])
        | (have e := (wl_snoc (l := l) (j := j) (by omega)).trans (congrArg (wl (l.take j) ++ ·) (witem_1 h0 h1))
           replace hS := (hS.pick (A := blkA g6 52 (itf l j)) (by repeat first | exact .here _ _ | assumption | apply Pick.there)).drop
           replace hS := hS.pick (A := wrA g3 _) (by repeat first | exact .here _ _ | assumption | apply Pick.there)
           refine ⟨k - 1, by omega, j + 1, _, _, _, rfl, rfl, ?_, by omega, by omega, hS.two (congrArg (wrA g3) ?_) (congrArg (rowA 5 1 _ _ _) ?_)⟩
           · rw [e]; simp only [List.length_append, List.length_cons, List.length_nil]; omega
           · rw [e]; simp only [ints, List.flatMap_cons, List.flatMap_nil, List.append_nil]
           · rw [e]; simp only [List.map_append, List.append_assoc])
        | (have e := (wl_snoc (l := l) (j := j) (by omega)).trans (congrArg (wl (l.take j) ++ ·) (witem_2 h0 h1 h2))
           replace hS := (hS.pick (A := blkA g6 52 (itf l j)) (by repeat first | exact .here _ _ | assumption | apply Pick.there)).drop
           replace hS := hS.pick (A := wrA g3 _) (by repeat first | exact .here _ _ | assumption | apply Pick.there)
           refine ⟨k - 1, by omega, j + 1, _, _, _, rfl, rfl, ?_, by omega, by omega, hS.two (congrArg (wrA g3) ?_) (congrArg (rowA 5 1 _ _ _) ?_)⟩
           · rw [e]; simp only [List.length_append, List.length_cons, List.length_nil]; omega
           · rw [e]
           · rw [e]; simp only [List.map_append, List.append_assoc])
        | (have e := (wl_snoc (l := l) (j := j) (by omega)).trans (congrArg (wl (l.take j) ++ ·) (witem_3 h0 h1 h2))
           replace hS := (hS.pick (A := blkA g6 52 (itf l j)) (by repeat first | exact .here _ _ | assumption | apply Pick.there)).drop
           replace hS := hS.pick (A := wrA g3 _) (by repeat first | exact .here _ _ | assumption | apply Pick.there)
           refine ⟨k - 1, by omega, j + 1, _, _, _, rfl, rfl, ?_, by omega, by omega, hS.two (congrArg (wrA g3) ?_) (congrArg (rowA 5 1 _ _ _) ?_)⟩
           · rw [e]; simp only [List.length_append, List.length_cons, List.length_nil]; omega
           · rw [e]; simp only [List.append_assoc]
           · rw [e]; simp only [List.map_append, List.append_assoc])
      · intro hc8
        have hc8d := of_decide_eq_false hc8
        have h0 := hc8d
        refine c_seq ?_
        refine c_region ?_
        refine t_q (q_eql rfl rfl) ?_
        refine t_q (q_as (.bool _) rfl) ?_
        refine t_nil ?_
        refine c_cond rfl ?_ ?_
        · intro hc13
          have hc13d := of_decide_eq_true hc13
          have h1 := hc13d
          refine c_seq ?_
          refine c_region ?_
          refine t_q (q_fieldAddr 2 Try.runUnderlying52 rfl Try.sizeOf2 (by decide) rfl rfl) ?_
          refine t_q (q_load1 Try.isAgg2 rfl (hS.cell (by repeat first | exact .here _ _ | assumption | apply Pick.there) rfl)) ?_
          refine t_build_ints [_] Try.runUnderlying192 Try.sizeOf2 Try.zeroValue2 rfl rfl (by decide) hS (fun g50 w hS => ?_)
          refine t_call Try.call44 (Int_calls hS (by repeat first | exact .here _ _ | assumption | apply Pick.there) (fun _ h => h.rowInts (.here _ _) rfl) (by intro m hm; simp only [List.mem_cons, List.not_mem_nil, or_false] at hm; omega) (by simp) (by first | omega | (simp only [List.length_append]; omega))) rfl ?_
          rintro e w ⟨rfl, hS⟩
          refine ⟨_, rfl, ?_⟩
          replace hS := hS.swap
          refine t_nil ?_
          refine c_region ?_
          refine t_q (q_mv (.slice _ _ _) rfl) ?_
          refine t_q (q_fieldAddr 2 Try.runUnderlying52 rfl Try.sizeOf2 (by decide) rfl rfl) ?_
          refine t_q (q_load1 Try.isAgg2 rfl (hS.cell (by repeat first | exact .here _ _ | assumption | apply Pick.there) rfl)) ?_
          refine t_call Try.call45 (qwInt hS (by omega) (by omega)) rfl ?_
          rintro e w ⟨A55, n55, c55, rfl, hn55, hS⟩
          refine ⟨_, rfl, ?_⟩
          refine t_append_own (size := 1) (bytes := 1) Try.underlying48 (info_of Try.type5) rfl rfl rfl rfl (by decide) hS (by repeat first | exact .here _ _ | assumption | apply Pick.there) (by repeat first | exact .here _ _ | assumption | apply Pick.there) rfl rfl (by first | exact allOne_bv _ | exact allOne_ints _ _ | rfl) (by unfold maxLen; omega) (by omega) (fun A56 c56 w hS => ?_)
          refine t_q (q_as (.slice _ _ _) rfl) ?_
          refine t_nil ?_
          refine c_region ?_
          refine t_q (q_add_i64 rfl rfl (by omega)) ?_
          refine t_q (q_mv (.int _ _) rfl) ?_
          refine t_nil ?_
          first
          | (have e := (wl_snoc (l := l) (j := j) (by omega)).trans (congrArg (wl (l.take j) ++ ·) (witem_0 h0))
             replace hS := (hS.pick (A := blkA g6 52 (itf l j)) (by repeat first | exact .here _ _ | assumption | apply Pick.there)).drop
             replace hS := hS.pick (A := wrA g3 _) (by repeat first | exact .here _ _ | assumption | apply Pick.there)
             refine ⟨k - 1, by omega, j + 1, _, _, _, rfl, rfl, ?_, by omega, by omega, hS.two (congrArg (wrA g3) ?_) (congrArg (rowA 5 1 _ _ _) ?_)⟩
             · rw [e]; simp only [List.length_append, List.length_cons, List.length_nil]; omega
             · rw [e]; simp only [encs, List.flatMap_cons, List.flatMap_nil, List.append_nil]
             · rw [e]; simp only [List.map_append, List.append_assoc])
          | (have e := (wl_snoc (l := l) (j := j) (by omega)).trans (congrArg (wl (l.take j) ++ ·) (witem_1 h0 h1))
             replace hS := (hS.pick (A := blkA g6 52 (itf l j)) (by repeat first | exact .here _ _ | assumption | apply Pick.there)).drop
             replace hS := hS.pick (A := wrA g3 _) (by repeat first | exact .here _ _ | assumption | apply Pick.there)
             refine ⟨k - 1, by omega, j + 1, _, _, _, rfl, rfl, ?_, by omega, by omega, hS.two (congrArg (wrA g3) ?_) (congrArg (rowA 5 1 _ _ _) ?_)⟩
             · rw [e]; simp only [List.length_append, List.length_cons, List.length_nil]; omega
             · rw [e]; simp only [ints, List.flatMap_cons, List.flatMap_nil, List.append_nil]
             · rw [e]; simp only [List.map_append, List.append_assoc])
          | (have e := (wl_snoc (l := l) (j := j) (by omega)).trans (congrArg (wl (l.take j) ++ ·) (witem_2 h0 h1 h2))
             replace hS := (hS.pick (A := blkA g6 52 (itf l j)) (by repeat first | exact .here _ _ | assumption | apply Pick.there)).drop
             replace hS := hS.pick (A := wrA g3 _) (by repeat first | exact .here _ _ | assumption | apply Pick.there)
             refine ⟨k - 1, by omega, j + 1, _, _, _, rfl, rfl, ?_, by omega, by omega, hS.two (congrArg (wrA g3) ?_) (congrArg (rowA 5 1 _ _ _) ?_)⟩
             · rw [e]; simp only [List.length_append, List.length_cons, List.length_nil]; omega
             · rw [e]
             · rw [e]; simp only [List.map_append, List.append_assoc])
          | (have e := (wl_snoc (l := l) (j := j) (by omega)).trans (congrArg (wl (l.take j) ++ ·) (witem_3 h0 h1 h2))
             replace hS := (hS.pick (A := blkA g6 52 (itf l j)) (by repeat first | exact .here _ _ | assumption | apply Pick.there)).drop
             replace hS := hS.pick (A := wrA g3 _) (by repeat first | exact .here _ _ | assumption | apply Pick.there)
             refine ⟨k - 1, by omega, j + 1, _, _, _, rfl, rfl, ?_, by omega, by omega, hS.two (congrArg (wrA g3) ?_) (congrArg (rowA 5 1 _ _ _) ?_)⟩
             · rw [e]; simp only [List.length_append, List.length_cons, List.length_nil]; omega
             · rw [e]; simp only [List.append_assoc]
             · rw [e]; simp only [List.map_append, List.append_assoc])
        · intro hc13
          have hc13d := of_decide_eq_false hc13
          have h1 := hc13d
          refine c_seq ?_
          refine c_region ?_
          refine t_q (q_eql rfl rfl) ?_
          refine t_q (q_as (.bool _) rfl) ?_
          refine t_nil ?_
          refine c_cond rfl ?_ ?_
          · intro hc17
            have hc17d := of_decide_eq_true hc17
            have h2 := hc17d
            refine c_seq ?_
            refine c_region ?_
            refine t_q (q_fieldAddr 3 Try.runUnderlying52 rfl Try.sizeOf4 (by decide) rfl rfl) ?_
            refine t_q (q_load1 Try.isAgg4 rfl (hS.cell (by repeat first | exact .here _ _ | assumption | apply Pick.there) rfl)) ?_
            refine t_call Try.call46 (Flag_calls hS (by repeat first | exact .here _ _ | assumption | apply Pick.there) (by first | omega | (simp only [List.length_append, List.length_cons, List.length_nil]; omega))) rfl ?_
            rintro e w ⟨rfl, hS⟩
            refine ⟨_, rfl, ?_⟩
            refine t_nil ?_
            refine c_region ?_
            refine t_q (q_mv (.slice _ _ _) rfl) ?_
            refine t_q (q_fieldAddr 3 Try.runUnderlying52 rfl Try.sizeOf4 (by decide) rfl rfl) ?_
            refine t_q (q_load1 Try.isAgg4 rfl (hS.cell (by repeat first | exact .here _ _ | assumption | apply Pick.there) rfl)) ?_
            refine t_call Try.call47 (qwFlag hS) rfl ?_
            rintro e w ⟨A65, n65, c65, rfl, hn65, hS⟩
            refine ⟨_, rfl, ?_⟩
            replace hn65 : n65 = 1 := hn65
            refine t_append_own (size := 1) (bytes := 1) Try.underlying48 (info_of Try.type5) rfl rfl rfl rfl (by decide) hS (by repeat first | exact .here _ _ | assumption | apply Pick.there) (by repeat first | exact .here _ _ | assumption | apply Pick.there) rfl rfl (by first | exact allOne_bv _ | exact allOne_ints _ _ | rfl) (by unfold maxLen; omega) (by omega) (fun A66 c66 w hS => ?_)
            refine t_q (q_as (.slice _ _ _) rfl) ?_
            refine t_nil ?_
            refine c_region ?_
            refine t_q (q_add_i64 rfl rfl (by omega)) ?_
            refine t_q (q_mv (.int _ _) rfl) ?_
            refine t_nil ?_
            first
            | (have e := (wl_snoc (l := l) (j := j) (by omega)).trans (congrArg (wl (l.take j) ++ ·) (witem_0 h0))
               replace hS := (hS.pick (A := blkA g6 52 (itf l j)) (by repeat first | exact .here _ _ | assumption | apply Pick.there)).drop
               replace hS := hS.pick (A := wrA g3 _) (by repeat first | exact .here _ _ | assumption | apply Pick.there)
               refine ⟨k - 1, by omega, j + 1, _, _, _, rfl, rfl, ?_, by omega, by omega, hS.two (congrArg (wrA g3) ?_) (congrArg (rowA 5 1 _ _ _) ?_)⟩
               · rw [e]; simp only [List.length_append, List.length_cons, List.length_nil]; omega
               · rw [e]; simp only [encs, List.flatMap_cons, List.flatMap_nil, List.append_nil]
               · rw [e]; simp only [List.map_append, List.append_assoc])
            | (have e := (wl_snoc (l := l) (j := j) (by omega)).trans (congrArg (wl (l.take j) ++ ·) (witem_1 h0 h1))
               replace hS := (hS.pick (A := blkA g6 52 (itf l j)) (by repeat first | exact .here _ _ | assumption | apply Pick.there)).drop
               replace hS := hS.pick (A := wrA g3 _) (by repeat first | exact .here _ _ | assumption | apply Pick.there)
               refine ⟨k - 1, by omega, j + 1, _, _, _, rfl, rfl, ?_, by omega, by omega, hS.two (congrArg (wrA g3) ?_) (congrArg (rowA 5 1 _ _ _) ?_)⟩
               · rw [e]; simp only [List.length_append, List.length_cons, List.length_nil]; omega
               · rw [e]; simp only [ints, List.flatMap_cons, List.flatMap_nil, List.append_nil]
               · rw [e]; simp only [List.map_append, List.append_assoc])
            | (have e := (wl_snoc (l := l) (j := j) (by omega)).trans (congrArg (wl (l.take j) ++ ·) (witem_2 h0 h1 h2))
               replace hS := (hS.pick (A := blkA g6 52 (itf l j)) (by repeat first | exact .here _ _ | assumption | apply Pick.there)).drop
               replace hS := hS.pick (A := wrA g3 _) (by repeat first | exact .here _ _ | assumption | apply Pick.there)
               refine ⟨k - 1, by omega, j + 1, _, _, _, rfl, rfl, ?_, by omega, by omega, hS.two (congrArg (wrA g3) ?_) (congrArg (rowA 5 1 _ _ _) ?_)⟩
               · rw [e]; simp only [List.length_append, List.length_cons, List.length_nil]; omega
               · rw [e]
               · rw [e]; simp only [List.map_append, List.append_assoc])
            | (have e := (wl_snoc (l := l) (j := j) (by omega)).trans (congrArg (wl (l.take j) ++ ·) (witem_3 h0 h1 h2))
               replace hS := (hS.pick (A := blkA g6 52 (itf l j)) (by repeat first | exact .here _ _ | assumption | apply Pick.there)).drop
               replace hS := hS.pick (A := wrA g3 _) (by repeat first | exact .here _ _ | assumption | apply Pick.there)
               refine ⟨k - 1, by omega, j + 1, _, _, _, rfl, rfl, ?_, by omega, by omega, hS.two (congrArg (wrA g3) ?_) (congrArg (rowA 5 1 _ _ _) ?_)⟩
               · rw [e]; simp only [List.length_append, List.length_cons, List.length_nil]; omega
               · rw [e]; simp only [List.append_assoc]
               · rw [e]; simp only [List.map_append, List.append_assoc])
          · intro hc17
            have hc17d := of_decide_eq_false hc17
            have h2 := hc17d
            refine c_seq ?_
            refine c_region ?_
            refine t_q (q_fieldAddr 4 Try.runUnderlying52 rfl Try.sizeOf9 (by decide) rfl rfl) ?_
            refine t_q (q_load1 Try.isAgg9 rfl (hS.cell (by repeat first | exact .here _ _ | assumption | apply Pick.there) rfl)) ?_
            refine t_call Try.call48 (Text_calls hS (by repeat first | exact .here _ _ | assumption | apply Pick.there) (by omega) (by first | omega | (simp only [List.length_append, List.length_cons, List.length_nil]; omega))) rfl ?_
            rintro e w ⟨rfl, hS⟩
            refine ⟨_, rfl, ?_⟩
            refine t_nil ?_
            refine c_region ?_
            refine t_q (q_mv (.slice _ _ _) rfl) ?_
            refine t_q (q_fieldAddr 4 Try.runUnderlying52 rfl Try.sizeOf9 (by decide) rfl rfl) ?_
            refine t_q (q_load1 Try.isAgg9 rfl (hS.cell (by repeat first | exact .here _ _ | assumption | apply Pick.there) rfl)) ?_
            refine t_call Try.call49 (qwText hS (by omega)) rfl ?_
            rintro e w ⟨A25, n25, c25, rfl, hn25, hS⟩
            refine ⟨_, rfl, ?_⟩
            rw [List.length_append] at hn25
            refine t_append_own (size := 1) (bytes := 1) Try.underlying48 (info_of Try.type5) rfl rfl rfl rfl (by decide) hS (by repeat first | exact .here _ _ | assumption | apply Pick.there) (by repeat first | exact .here _ _ | assumption | apply Pick.there) rfl rfl (by first | exact allOne_bv _ | exact allOne_ints _ _ | rfl) (by unfold maxLen; omega) (by omega) (fun A26 c26 w hS => ?_)
            refine t_q (q_as (.slice _ _ _) rfl) ?_
            refine t_nil ?_
            refine c_region ?_
            refine t_q (q_add_i64 rfl rfl (by omega)) ?_
            refine t_q (q_mv (.int _ _) rfl) ?_
            refine t_nil ?_
            first
            | (have e := (wl_snoc (l := l) (j := j) (by omega)).trans (congrArg (wl (l.take j) ++ ·) (witem_0 h0))
               replace hS := (hS.pick (A := blkA g6 52 (itf l j)) (by repeat first | exact .here _ _ | assumption | apply Pick.there)).drop
               replace hS := hS.pick (A := wrA g3 _) (by repeat first | exact .here _ _ | assumption | apply Pick.there)
               refine ⟨k - 1, by omega, j + 1, _, _, _, rfl, rfl, ?_, by omega, by omega, hS.two (congrArg (wrA g3) ?_) (congrArg (rowA 5 1 _ _ _) ?_)⟩
               · rw [e]; simp only [List.length_append, List.length_cons, List.length_nil]; omega
               · rw [e]; simp only [encs, List.flatMap_cons, List.flatMap_nil, List.append_nil]
               · rw [e]; simp only [List.map_append, List.append_assoc])
            | (have e := (wl_snoc (l := l) (j := j) (by omega)).trans (congrArg (wl (l.take j) ++ ·) (witem_1 h0 h1))
               replace hS := (hS.pick (A := blkA g6 52 (itf l j)) (by repeat first | exact .here _ _ | assumption | apply Pick.there)).drop
               replace hS := hS.pick (A := wrA g3 _) (by repeat first | exact .here _ _ | assumption | apply Pick.there)
               refine ⟨k - 1, by omega, j + 1, _, _, _, rfl, rfl, ?_, by omega, by omega, hS.two (congrArg (wrA g3) ?_) (congrArg (rowA 5 1 _ _ _) ?_)⟩
               · rw [e]; simp only [List.length_append, List.length_cons, List.length_nil]; omega
               · rw [e]; simp only [ints, List.flatMap_cons, List.flatMap_nil, List.append_nil]
               · rw [e]; simp only [List.map_append, List.append_assoc])
            | (have e := (wl_snoc (l := l) (j := j) (by omega)).trans (congrArg (wl (l.take j) ++ ·) (witem_2 h0 h1 h2))
               replace hS := (hS.pick (A := blkA g6 52 (itf l j)) (by repeat first | exact .here _ _ | assumption | apply Pick.there)).drop
               replace hS := hS.pick (A := wrA g3 _) (by repeat first | exact .here _ _ | assumption | apply Pick.there)
               refine ⟨k - 1, by omega, j + 1, _, _, _, rfl, rfl, ?_, by omega, by omega, hS.two (congrArg (wrA g3) ?_) (congrArg (rowA 5 1 _ _ _) ?_)⟩
               · rw [e]; simp only [List.length_append, List.length_cons, List.length_nil]; omega
               · rw [e]
               · rw [e]; simp only [List.map_append, List.append_assoc])
            | (have e := (wl_snoc (l := l) (j := j) (by omega)).trans (congrArg (wl (l.take j) ++ ·) (witem_3 h0 h1 h2))
               replace hS := (hS.pick (A := blkA g6 52 (itf l j)) (by repeat first | exact .here _ _ | assumption | apply Pick.there)).drop
               replace hS := hS.pick (A := wrA g3 _) (by repeat first | exact .here _ _ | assumption | apply Pick.there)
               refine ⟨k - 1, by omega, j + 1, _, _, _, rfl, rfl, ?_, by omega, by omega, hS.two (congrArg (wrA g3) ?_) (congrArg (rowA 5 1 _ _ _) ?_)⟩
               · rw [e]; simp only [List.length_append, List.length_cons, List.length_nil]; omega
               · rw [e]; simp only [List.append_assoc]
               · rw [e]; simp only [List.map_append, List.append_assoc])
    · intro hc5
      have hc5d := of_decide_eq_false hc5
      obtain rfl : j = l.length := by omega
      rw [List.take_length] at hS hn hwl
      refine c_exit ?_
      refine ite_t rfl ?_
      refine c_seq ?_
      refine c_draw ?_
      refine d_keep (rowA 5 1 A' n c' ((wl l).map bv)) 9 [0, 1, 2, 3, 4, 5, 6, 7, 8] [0, 1, 2, 3, 4, 5, 6, 7, 8] hS rfl (by kernel_rfl) (by kernel_rfl) (by kernel_rfl) (by kernel_rfl) (fun hap hsel w hS => ?_)
      refine p_q hap hsel 2 rfl rfl ⟨_, hS.pick (by repeat first | exact .here _ _ | assumption | apply Pick.there)⟩ (fun w hI => q_mv (.slice _ _ _) rfl) ?_
      refine p_q hap hsel 3 rfl rfl ⟨_, hS.pick (by repeat first | exact .here _ _ | assumption | apply Pick.there)⟩ (fun w hI => q_string Try.runUnderlying48 Try.runUnderlying5 Try.runUnderlying9 rfl hn (hI.choose_spec.rowRd (bs := wl l) (.here _ _) hn)) ?_
      refine p_one 0 rfl (by kernel_rfl) ?_
      refine t_call Try.call50 (Bytes_calls hS (by repeat first | exact .here _ _ | assumption | apply Pick.there) (by omega)) rfl ?_
      rintro e w ⟨A68, c68, rfl, hc68, hS⟩
      refine ⟨_, rfl, ?_⟩
      refine t_nil ?_
      refine ⟨.inr ⟨_, hS.pick (by repeat first | exact .here _ _ | assumption | apply Pick.there)⟩, ?_⟩
      refine p_one 1 rfl (by kernel_rfl) ?_
      refine t_q (q_string Try.runUnderlying48 Try.runUnderlying5 Try.runUnderlying9 rfl rfl (hS.rowRd (bs := wl l) (.here _ _) rfl)) ?_
      refine t_nil ?_
      refine ⟨.inr ⟨_, hS.pick (by repeat first | exact .here _ _ | assumption | apply Pick.there)⟩, ?_⟩
      refine p_q hap hsel 4 rfl rfl ⟨_, hS.pick (by repeat first | exact .here _ _ | assumption | apply Pick.there)⟩ (fun w hI => (q_cast (v' := .bool true) (q_eql_string rfl rfl) (by simp))) ?_
      refine p_q hap hsel 5 rfl rfl ⟨_, hS.pick (by repeat first | exact .here _ _ | assumption | apply Pick.there)⟩ (fun w hI => q_mv (.bool _) rfl) ?_
      refine p_one 6 rfl (by kernel_rfl) ?_
      refine t_yes rfl rfl rfl ?_
      refine t_call Try.call41 (lives_calls) rfl ?_
      rintro e w ⟨rfl, hT⟩
      refine ⟨_, rfl, ?_⟩
      replace hS := hS.after hT
      refine t_nil ?_
      refine ⟨.inr ⟨_, hS.pick (by repeat first | exact .here _ _ | assumption | apply Pick.there)⟩, ?_⟩
      refine p_q hap hsel 7 rfl rfl ⟨_, hS.pick (by repeat first | exact .here _ _ | assumption | apply Pick.there)⟩ (fun w hI => q_pick_t rfl rfl) ?_
      refine p_q hap hsel 8 rfl rfl ⟨_, hS.pick (by repeat first | exact .here _ _ | assumption | apply Pick.there)⟩ (fun w hI => q_as (.bool _) rfl) ?_
      refine p_end (by kernel_rfl) ?_
      refine c_ret ?_
      refine r_one rfl rfl ?_
      exact ⟨rfl, hS.nil⟩
end Go.Proofs.Ytcikoealneldkaa
