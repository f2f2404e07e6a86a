/- Parcels one behind the other: where they end. -/
import Derived.Test.YtlppgpidakfnlaaPe
import Derived.Test.YtlppgpidakfnlaaRf
namespace Go.Proofs.Ytlppgpidakfnlaa
open Go Go.RowKit Go.Lib
variable {W : World}
/-- where the k-th parcel begins -/
def pos (bs : List UInt8) : Nat → Nat
  | 0 => 0
  | k + 1 => pos bs k + tkN (bs.drop (pos bs k))
def whole (bs : List UInt8) : Nat → Bool
  | 0 => true
  | k + 1 => whole bs k && decide (tkE (bs.drop (pos bs k)) = 0)
theorem whole_at {bs : List UInt8} : ∀ {k i : Nat}, whole bs k = true → i < k → tkE (bs.drop (pos bs i)) = 0
  | k + 1, i, h, hi => by
    rw [whole, Bool.and_eq_true, decide_eq_true_eq] at h
    rcases Nat.lt_or_ge i k with h1 | h1
    · exact whole_at h.1 h1
    · rw [show i = k by omega]; exact h.2
theorem tk_zero {b : List UInt8} (h : tkE b = 0) : b.length ≠ 0 ∧ b.getD 0 0 ≠ 0 ∧ szN b + 4 ≤ (szS b).left.length ∧ szN b ≤ 65536 := by
  by_cases h0 : b.length = 0
  · rw [tkE_1 h0] at h; cases h
  · by_cases h1 : b.getD 0 0 = 0
    · rw [tkE_2 h0 h1] at h; cases h
    · cases h2 : openB (b.drop 1) with
      | true => rw [tkE_3 h0 h1 h2] at h; cases h
      | false =>
        cases h3 : (szS b).bad with
        | true => rw [tkE_4 h0 h1 h2 h3] at h; cases h
        | false =>
          by_cases h4 : 65536 < szN b
          · rw [tkE_5 h0 h1 h2 h3 h4] at h; cases h
          · by_cases h5 : (szS b).left.length < szN b + 4
            · rw [tkE_6 h0 h1 h2 h3 h4 h5] at h; cases h
            · exact ⟨h0, h1, by omega, by omega⟩
theorem tkN_le {b : List UInt8} (h : tkE b = 0) : 0 < tkN b ∧ tkN b ≤ b.length := by
  have h1 := (tk_zero h).1
  have h3 := (tk_zero h).2.2.1
  have h2 := sz_left b
  refine ⟨by unfold tkN; omega, ?_⟩
  unfold tkN tkFrom
  omega
theorem tkM_le (b : List UInt8) : 0 ≤ tkM b ∧ tkM b ≤ b.length := by
  unfold tkM
  split
  · rename_i h; have := tkN_le h; omega
  · omega
theorem pos_le {bs : List UInt8} : ∀ {k : Nat}, whole bs k = true → k ≤ pos bs k ∧ pos bs k ≤ bs.length
  | 0, _ => ⟨Nat.le_refl 0, Nat.zero_le _⟩
  | k + 1, h => by
    rw [whole, Bool.and_eq_true, decide_eq_true_eq] at h
    have h1 := pos_le h.1
    have h2 := tkN_le h.2
    rw [List.length_drop] at h2
    rw [pos]
    omega
theorem whole_uniq {bs : List UInt8} {j k : Nat} (hj : whole bs j = true) (hj2 : tkE (bs.drop (pos bs j)) ≠ 0) (hk : whole bs k = true) (hk2 : tkE (bs.drop (pos bs k)) ≠ 0) : j = k := by
  rcases Nat.lt_trichotomy j k with h | h | h
  · exact absurd (whole_at hk h) hj2
  · exact h
  · exact absurd (whole_at hj h) hk2
theorem tkE_nil {bs : List UInt8} {p : Nat} (h : p = bs.length) : tkE (bs.drop p) = 31 := tkE_1 (by rw [List.length_drop]; omega)
def endE (bs : List UInt8) (k : Nat) : Int := if pos bs k = bs.length then 0 else tkE (bs.drop (pos bs k))

set_option maxRecDepth 100000 in
theorem ends1_calls {A : Option Addr} {c : Nat} {bs : List UInt8} (hR : RdB W A bs) (hc : bs.length ≤ c ∧ bs.length ≤ 100000000) {l g : Nat} {J : List Int → List Asn → World → Prop} {Jx : List Int → World → Prop} (hJ : ∀ pre M w, J pre M w → ∃ E, St W w (M ++ (blkA g 25 [.slice A bs.length c] :: E))) (hL : ∀ pre M w w', J pre [] w → St w w' M → J pre M w') (hD : ∀ pre M w, J pre M w → J pre [] w)
    (hY : ∀ pre x w, J pre [] w → (x = ((pos bs (pre.length + 1) : Nat) : Int) ∧ whole bs (pre.length + 1) = true) → YieldAt Fence.wide 0 Try.prog l #[.int .i64 x] w fun e w' => (e = .returned (.bool true) ∧ J (pre ++ [x]) [] w') ∨ (e = .returned (.bool false) ∧ Jx (pre ++ [x]) w')) {w : World} (hj : J [] [] w) :
  Calls Try.prog 128 #[.func (.yield l) #[] #[], .pointer (some ⟨g, 0, none⟩)] w fun e w' => (∃ v, e = .returned v) ∧ ((∃ xs : List Int, (whole bs xs.length = true ∧ tkE (bs.drop (pos bs xs.length)) ≠ 0) ∧ J xs [] w') ∨ ∃ pre, Jx pre w') := by
  refine calls_of_wpE (args := [_, _]) Try.func128 rfl rfl rfl ?_
  refine c_seq ?_
  refine c_region ?_
  refine t_q (q_assign) ?_
  refine t_nil ?_
  refine c_block ?_
  refine c_loop [3, 4, 5, 6, 7, 8, 9, 10, 11, 12, 13, 14, 15, 16, 17, 18, 19, 20, 21, 22, 23, 24, 25, 26, 27] (fun k σ w => ∃ pre : List Int, σ 3 = .int .i64 ((pos bs pre.length : Nat) : Int) ∧ whole bs pre.length = true ∧ bs.length - pos bs pre.length ≤ k ∧ J pre [] w) (bs.length + 1) rfl (⟨[], rfl, rfl, by omega, hj⟩) ?_
  skip
  rintro k σ w ⟨pre, h3, hw, hk, hj⟩
  refine c_know 3 h3 ?_
  clear h3
  have hpl := pos_le hw
  refine c_block ?_
  refine c_seq ?_
  refine c_region ?_
  refine t_q (q_load1 Try.isAgg25 rfl ((hJ pre [] _ hj).choose_spec.cell (.here _ _) rfl)) ?_
  refine t_q (q_mv (.int _ _) rfl) ?_
  refine t_q (q_cast (v' := .slice (if c = pos bs pre.length then A else A.map (·.add (pos bs pre.length * 1))) (bs.drop (pos bs pre.length)).length (c - pos bs pre.length)) (q_slice Try.runUnderlying25 Try.sizeOf5 rfl rfl ⟨_, _, rfl, by omega, by omega, rfl⟩) (by rw [List.length_drop]; rfl)) ?_
  refine t_call Try.call68 (take_calls (Rd.st (drop_rd hR (k := pos bs pre.length) (c := c) (by omega) ⟨hc.1, by omega⟩) (hJ pre [] _ hj).choose_spec) ⟨by rw [List.length_drop]; omega, by rw [List.length_drop]; omega⟩) rfl ?_
  rintro e w ⟨A12, m12, c12, rfl, hm12, hT⟩
  refine ⟨_, rfl, ?_⟩
  replace hj := hL pre [] _ _ hj hT.nil
  have htm : 0 ≤ tkM (bs.drop (pos bs pre.length)) ∧ tkM (bs.drop (pos bs pre.length)) ≤ bs.length := by
    have h := tkM_le (bs.drop (pos bs pre.length))
    have h2 : (bs.drop (pos bs pre.length)).length ≤ bs.length := by rw [List.length_drop]; omega
    omega
  refine t_q (q_mv (.tuple _) rfl) ?_
  refine t_q (q_extract rfl rfl) ?_
  refine t_q (q_extract rfl rfl) ?_
  refine t_q (q_extract rfl rfl) ?_
  refine t_q (q_extract rfl rfl) ?_
  refine t_q (q_as (.int _ _) rfl) ?_
  refine t_q (q_as (.slice _ _ _) rfl) ?_
  refine t_q (q_as (.int _ _) rfl) ?_
  refine t_q (q_as (.int _ _) rfl) ?_
  refine t_nil ?_
  refine c_seq ?_
  refine c_region ?_
  refine t_q (q_mv (.int _ _) rfl) ?_
  refine t_q (q_mv (.int _ _) rfl) ?_
  refine t_q (q_add_i64 rfl rfl (by omega)) ?_
  refine t_q (q_as (.int _ _) rfl) ?_
  refine t_nil ?_
  refine c_seq ?_
  refine c_region ?_
  refine t_q (q_mv (.int _ _) rfl) ?_
  refine t_q (q_neq rfl rfl) ?_
  refine t_q (q_mv (.bool _) rfl) ?_
  refine t_case 22 rfl ?_ ?_
  · intro hg7
    have hg7d := of_decide_eq_true hg7
    refine t_no rfl rfl (by rw [hg7]; decide) ?_
    refine t_no rfl rfl (by rw [hg7]; decide) ?_
    refine t_no rfl rfl (by rw [hg7]; decide) ?_
    refine t_no rfl rfl (by rw [hg7]; decide) ?_
    refine t_q (q_pick_t rfl hg7) ?_
    refine t_nil ?_
    refine c_cond_t rfl rfl ?_
    have hfin : tkE (bs.drop (pos bs pre.length)) ≠ 0 ∨ ∃ b, b = false ∧ ((b = true ∧ J (pre ++ [(((pos bs (pre.length + 1) : Nat) : Int))]) [] w) ∨ (b = false ∧ Jx (pre ++ [(((pos bs (pre.length + 1) : Nat) : Int))]) w)) := by
      first
        | exact .inl (by assumption)
        | exact .inr ⟨_, by simpa using rfl, hb⟩
    refine c_ret ?_
    refine r_none rfl  ?_
    refine ⟨⟨_, rfl⟩, ?_⟩
    rcases hfin with h | ⟨b, rfl, hb⟩
    · first
        | exact .inl ⟨pre, ⟨hw, h⟩, hj⟩
        | exact absurd he0 h
    · exact .inr ⟨_, (hb.resolve_left fun h => by cases h.1).2⟩
  · intro hg7
    have hg7d := of_decide_eq_false hg7
    refine t_yes rfl rfl hg7 ?_
    refine t_q (q_mv (.func _ _ _) rfl) ?_
    have he0 : tkE (bs.drop (pos bs pre.length)) = 0 := by omega
    have hw2 : whole bs (pre.length + 1) = true := by rw [whole, hw, he0]; rfl
    have hnx : ((pos bs pre.length : Nat) : Int) + tkM (bs.drop (pos bs pre.length)) = (((pos bs (pre.length + 1) : Nat) : Int)) := by rw [(tk_ok he0).2.2, pos]; omega
    refine t_yes rfl rfl hg7 ?_
    refine t_q (q_cast (v' := .int .i64 (((pos bs (pre.length + 1) : Nat) : Int))) (q_mv (.int _ _) rfl) (congrArg (Value.int .i64) hnx)) ?_
    refine t_yes rfl rfl hg7 ?_
    refine t_yield rfl (hY pre (((pos bs (pre.length + 1) : Nat) : Int)) _ hj ⟨rfl, hw2⟩) rfl ?_
    rintro e w he
    obtain ⟨b, rfl, hb⟩ : ∃ b, e = .returned (.bool b) ∧ ((b = true ∧ J (pre ++ [(((pos bs (pre.length + 1) : Nat) : Int))]) [] w) ∨ (b = false ∧ Jx (pre ++ [(((pos bs (pre.length + 1) : Nat) : Int))]) w)) := by
      rcases he with ⟨rfl, h⟩ | ⟨rfl, h⟩
      · exact ⟨true, rfl, .inl ⟨rfl, h⟩⟩
      · exact ⟨false, rfl, .inr ⟨rfl, h⟩⟩
    refine ⟨_, rfl, ?_⟩
    refine t_yes rfl rfl hg7 ?_
    refine t_q (q_not rfl) ?_
    refine t_q (q_pick_f rfl hg7) ?_
    refine t_nil ?_
    refine c_cond rfl ?_ ?_
    · intro hc9
      have hfin : tkE (bs.drop (pos bs pre.length)) ≠ 0 ∨ ∃ b, b = false ∧ ((b = true ∧ J (pre ++ [(((pos bs (pre.length + 1) : Nat) : Int))]) [] w) ∨ (b = false ∧ Jx (pre ++ [(((pos bs (pre.length + 1) : Nat) : Int))]) w)) := by
        first
          | exact .inl (by assumption)
          | exact .inr ⟨_, by simpa using hc9, hb⟩
      refine c_ret ?_
      refine r_none rfl  ?_
      refine ⟨⟨_, rfl⟩, ?_⟩
      rcases hfin with h | ⟨b, rfl, hb⟩
      · first
          | exact .inl ⟨pre, ⟨hw, h⟩, hj⟩
          | exact absurd he0 h
      · exact .inr ⟨_, (hb.resolve_left fun h => by cases h.1).2⟩
    · intro hc9
      have hbt : b = true := by simpa using hc9
      refine c_skip ?_
      first
        | (have hjn := (hb.resolve_right fun h => by rw [h.1] at hbt; cases hbt).2
           refine ⟨bs.length - pos bs (pre.length + 1), by have := pos_le hw2; have := (tkN_le he0).1; rw [pos] at *; omega, _, ((congrArg (Value.int .i64) hnx).trans (by rw [List.length_append]; rfl)), (by rw [List.length_append]; exact hw2), (by rw [List.length_append]; exact Nat.le_refl _), hjn⟩)
set_option maxRecDepth 100000 in
theorem ends_calls {w : World} {L : List Asn} {A : Option Addr} {n c : Nat} (hS : St W w L) : Calls Try.prog 73 #[.slice A n c] w fun e w' => ∃ g, e = .returned (.func (.func 128) #[] #[.pointer (some ⟨g, 0, none⟩)]) ∧ St W w' (blkA g 25 [.slice A n c] :: L) := by
  refine calls_of_wpE (args := [_]) Try.func73 rfl rfl rfl ?_
  refine c_seq ?_
  refine c_region ?_
  refine t_box (v := (.slice _ _ _)) rfl rfl hS (fun g1 w hS => ?_)
  refine t_q (q_assign) ?_
  refine t_nil ?_
  refine c_seq ?_
  refine c_region ?_
  refine t_q (q_makeFunc rfl) ?_
  refine t_q (q_as (.func _ _ _) rfl) ?_
  refine t_nil ?_
  refine c_ret ?_
  refine r_one rfl rfl ?_
  exact ⟨g1, rfl, hS⟩
set_option maxRecDepth 100000 in
theorem end_calls {A : Option Addr} {c : Nat} {bs : List UInt8} (hR : RdB W A bs) (hc : bs.length ≤ c ∧ bs.length ≤ 100000000) : Calls Try.prog 21 #[.slice A bs.length c] W fun e w' => ∃ k, whole bs k = true ∧ tkE (bs.drop (pos bs k)) ≠ 0 ∧ e = .returned (.tuple #[.int .i64 ((pos bs k : Nat) : Int), .int .i64 (endE bs k)]) ∧ St W w' [] := by
  have hS := St.init W
  refine calls_of_wpM (args := [_]) Try.func21 rfl rfl rfl ?_
  refine m_seq ?_
  refine m_of ?_
  refine c_region ?_
  refine t_q (q_assign) ?_
  refine t_q (q_assign) ?_
  refine t_nil ?_
  refine m_seq ?_
  refine m_of ?_
  refine c_region ?_
  refine t_alloc Try.zeroValue3 rfl hS (fun g4 w hS => ?_)
  refine t_store (v := (.int _ _)) Try.sizeOf3 hS (by repeat first | exact .here _ _ | assumption | apply Pick.there) rfl rfl rfl rfl rfl rfl (fun w hS => ?_)
  refine t_nil ?_
  refine m_seq ?_
  refine m_seq ?_
  refine m_of ?_
  refine c_region ?_
  refine t_q (q_mv (.slice _ _ _) rfl) ?_
  refine t_call Try.call73 (ends_calls hS) rfl ?_
  rintro e w ⟨gE, rfl, hS⟩
  refine ⟨_, rfl, ?_⟩
  refine t_nil ?_
  refine m_block ?_
  replace hS : St W w [blkA gE 25 [.slice A bs.length c], blkA g4 3 [.int .i64 ((pos bs ([] : List Int).length : Nat) : Int)]] := ((hS.pick (A := blkA g4 3 _) (by repeat first | exact .here _ _ | assumption | apply Pick.there)).pick (A := blkA gE 25 [.slice A bs.length c]) (by repeat first | exact .here _ _ | assumption | apply Pick.there))
  refine m_range (encs := fun x : Int => #[.int .i64 x]) (gf := 128) (fun pre => [blkA gE 25 [.slice A bs.length c], blkA g4 3 [.int .i64 ((pos bs pre.length : Nat) : Int)]]) (fun _ _ => [pureA False (blkA 0 0 [])]) (fun _ => []) (fun pre x => x = ((pos bs (pre.length + 1) : Nat) : Int) ∧ whole bs (pre.length + 1) = true) (fun xs => whole bs xs.length = true ∧ tkE (bs.drop (pos bs xs.length)) ≠ 0) ?env hS rfl Try.call128 (fun _ => rfl) ?ass ?body ?hit ?done ?exit ?ret
  case ass =>
    intro x w K hK
    refine c_region ?_
    refine t_q (q_as (.int _ _) rfl) ?_
    refine t_nil ?_
    exact hK
  case body =>
    intro E pre x w hn hS
    replace hS : St W w (blkA gE 25 [.slice A bs.length c] :: blkA g4 3 [.int .i64 ((pos bs pre.length : Nat) : Int)] :: E) := hS
    refine c_block ?_
    refine c_region ?_
    refine t_q (q_mv (.int _ _) rfl) ?_
    refine t_store (v := (.int _ _)) Try.sizeOf3 hS (by repeat first | exact .here _ _ | assumption | apply Pick.there) rfl rfl rfl rfl rfl rfl (fun w hS => ?_)
    refine t_nil ?_
    show St W _ (blkA gE 25 [.slice A bs.length c] :: blkA g4 3 [.int .i64 ((pos bs (pre ++ [x]).length : Nat) : Int)] :: E)
    rw [show (pre ++ [x]).length = pre.length + 1 by simp, ← hn.1]
    exact ((hS.pick (A := blkA g4 3 _) (by repeat first | exact .here _ _ | assumption | apply Pick.there)).pick (A := blkA gE 25 [.slice A bs.length c]) (by repeat first | exact .here _ _ | assumption | apply Pick.there))
  case hit =>
    intro l J Jx h1 h2 h3 hY w h0
    exact ends1_calls hR hc (fun pre M w h => by obtain ⟨E, hS⟩ := h1 pre M w h; exact ⟨_, hS⟩) h2 h3 hY h0
  case exit =>
    intro D1 i pre w hS
    exact hS.pure.1.elim
  case ret =>
    intro D1 pre w hS
    exact hS.pure.1.elim
  case done =>
    intro D1 xs w hx hS
    replace hS : St W w [blkA gE 25 [.slice A bs.length c], blkA g4 3 [.int .i64 ((pos bs xs.length : Nat) : Int)], objA D1 doneObj] := hS
    obtain ⟨hw, hne⟩ := hx
    have hpl := pos_le hw
    refine m_of ?_
    refine c_seq ?_
    refine c_seq ?_
    refine c_region ?_
    refine t_q (q_load1 Try.isAgg3 rfl (hS.cell (by repeat first | exact .here _ _ | assumption | apply Pick.there) rfl)) ?_
    refine t_q (q_mv (.slice _ _ _) rfl) ?_
    refine t_q (q_len_slice Try.runUnderlying25 rfl) ?_
    refine t_q (q_eql rfl rfl) ?_
    refine t_nil ?_
    refine c_cond rfl ?_ ?_
    · intro hc3
      have hc3d := of_decide_eq_true hc3
      refine c_seq ?_
      refine c_region ?_
      refine t_q (q_load1 Try.isAgg3 rfl (hS.cell (by repeat first | exact .here _ _ | assumption | apply Pick.there) rfl)) ?_
      refine t_q (q_as (.int _ _) rfl) ?_
      refine t_q (q_assign) ?_
      refine t_nil ?_
      refine c_ret ?_
      refine l_mark (hS.obj (g := D1) (by repeat first | exact .here _ _ | assumption | apply Pick.there)) ?_
      replace hS := (hS.pick (A := objA D1 _) (by repeat first | exact .here _ _ | assumption | apply Pick.there)).setObj (.deferred none)
      refine l_nil ?_
      refine r_two rfl rfl rfl ?_
      refine ⟨xs.length, hw, hne, ?_, hS.nil⟩
      first
        | (have hE : endE bs xs.length = 0 := by unfold endE; rw [if_pos (by omega)]
           rw [hE]; rfl)
        | (have hE : endE bs xs.length = tkE (bs.drop (pos bs xs.length)) := by unfold endE; rw [if_neg (by omega)]
           rw [hE]; rfl)
    · intro hc3
      have hc3d := of_decide_eq_false hc3
      refine c_skip ?_
      refine c_seq ?_
      refine c_region ?_
      refine t_q (q_mv (.slice _ _ _) rfl) ?_
      refine t_q (q_load1 Try.isAgg3 rfl (hS.cell (by repeat first | exact .here _ _ | assumption | apply Pick.there) rfl)) ?_
      refine t_q (q_cast (v' := .slice (if c = pos bs xs.length then A else A.map (·.add (pos bs xs.length * 1))) (bs.drop (pos bs xs.length)).length (c - pos bs xs.length)) (q_slice Try.runUnderlying25 Try.sizeOf5 rfl rfl ⟨_, _, rfl, by omega, by omega, rfl⟩) (by rw [List.length_drop]; rfl)) ?_
      refine t_call Try.call68 (take_calls (Rd.st (drop_rd hR (k := pos bs xs.length) (c := c) (by omega) ⟨hc.1, by omega⟩) hS) ⟨by rw [List.length_drop]; omega, by rw [List.length_drop]; omega⟩) rfl ?_
      rintro e w ⟨A23, m23, c23, rfl, hm23, hT⟩
      refine ⟨_, rfl, ?_⟩
      replace hS := hS.after hT.nil
      refine t_q (q_mv (.tuple _) rfl) ?_
      refine t_q (q_extract rfl rfl) ?_
      refine t_q (q_extract rfl rfl) ?_
      refine t_q (q_extract rfl rfl) ?_
      refine t_q (q_extract rfl rfl) ?_
      refine t_q (q_as (.int _ _) rfl) ?_
      refine t_q (q_as (.slice _ _ _) rfl) ?_
      refine t_q (q_as (.int _ _) rfl) ?_
      refine t_q (q_as (.int _ _) rfl) ?_
      refine t_nil ?_
      refine c_seq ?_
      refine c_region ?_
      refine t_q (q_load1 Try.isAgg3 rfl (hS.cell (by repeat first | exact .here _ _ | assumption | apply Pick.there) rfl)) ?_
      refine t_q (q_mv (.int _ _) rfl) ?_
      refine t_q (q_as (.int _ _) rfl) ?_
      refine t_q (q_as (.int _ _) rfl) ?_
      refine t_nil ?_
      refine c_ret ?_
      refine l_mark (hS.obj (g := D1) (by repeat first | exact .here _ _ | assumption | apply Pick.there)) ?_
      replace hS := (hS.pick (A := objA D1 _) (by repeat first | exact .here _ _ | assumption | apply Pick.there)).setObj (.deferred none)
      refine l_nil ?_
      refine r_two rfl rfl rfl ?_
      refine ⟨xs.length, hw, hne, ?_, hS.nil⟩
      first
        | (have hE : endE bs xs.length = 0 := by unfold endE; rw [if_pos (by omega)]
           rw [hE]; rfl)
        | (have hE : endE bs xs.length = tkE (bs.drop (pos bs xs.length)) := by unfold endE; rw [if_neg (by omega)]
           rw [hE]; rfl)
set_option maxRecDepth 100000 in
theorem qend_calls {A : Option Addr} {c : Nat} {bs : List UInt8} (hR : RdB W A bs) (hc : bs.length ≤ c ∧ bs.length ≤ 100000000) : Calls Try.prog 22 #[.slice A bs.length c] W fun e w' => ∃ k, whole bs k = true ∧ tkE (bs.drop (pos bs k)) ≠ 0 ∧ e = .returned (.tuple #[.int .i64 ((pos bs k : Nat) : Int), .int .i64 (endE bs k), .int .i64 (k : Int)]) ∧ St W w' [] := by
  have hS := St.init W
  refine calls_of_wpE (args := [_]) Try.func22 rfl rfl rfl ?_
  refine c_seq ?_
  refine c_region ?_
  refine t_q (q_assign) ?_
  refine t_q (q_assign) ?_
  refine t_q (q_assign) ?_
  refine t_nil ?_
  refine c_seq ?_
  refine c_region ?_
  refine t_q (q_assign) ?_
  refine t_nil ?_
  refine c_seq ?_
  refine c_region ?_
  refine t_q (q_assign) ?_
  refine t_nil ?_
  refine c_seq ?_
  refine c_block ?_
  refine c_loop [2, 3, 4, 5, 6, 7, 8, 9, 10, 11, 12, 13, 14, 15, 16, 17, 18, 19, 20, 21, 22, 23, 24, 25, 26, 27, 28, 29, 30, 31, 32, 33] (fun m σ w => ∃ k : Nat, σ 5 = .int .i64 ((pos bs k : Nat) : Int) ∧ σ 6 = .int .i64 (k : Int) ∧ whole bs k = true ∧ bs.length - pos bs k ≤ m ∧ St W w []) (bs.length) rfl (⟨0, rfl, rfl, rfl, Nat.sub_le _ _, hS⟩) ?_
  skip
  rintro k σ w ⟨k, h5, h6, hw, hk, hS⟩
  refine c_know 5 h5 ?_
  refine c_know 6 h6 ?_
  clear h5 h6
  have hpl := pos_le hw
  refine c_seq ?_
  refine c_seq ?_
  refine c_region ?_
  refine t_q (q_mv (.int _ _) rfl) ?_
  refine t_q (q_mv (.slice _ _ _) rfl) ?_
  refine t_q (q_len_slice Try.runUnderlying25 rfl) ?_
  refine t_q (q_lss rfl rfl) ?_
  refine t_nil ?_
  refine c_cond rfl ?_ ?_
  · intro hc2
    have hc2d := of_decide_eq_true hc2
    refine c_skip ?_
    refine c_block ?_
    refine c_seq ?_
    refine c_region ?_
    refine t_q (q_mv (.slice _ _ _) rfl) ?_
    refine t_q (q_mv (.int _ _) rfl) ?_
    refine t_q (q_cast (v' := .slice (if c = pos bs k then A else A.map (·.add (pos bs k * 1))) (bs.drop (pos bs k)).length (c - pos bs k)) (q_slice Try.runUnderlying25 Try.sizeOf5 rfl rfl ⟨_, _, rfl, by omega, by omega, rfl⟩) (by rw [List.length_drop]; rfl)) ?_
    refine t_call Try.call24 (qtake_calls (Rd.st (drop_rd hR (k := pos bs k) (c := c) (by omega) ⟨hc.1, by omega⟩) hS) ⟨by rw [List.length_drop]; omega, by rw [List.length_drop]; omega⟩) rfl ?_
    rintro e w ⟨A19, m19, c19, rfl, hm19, hT⟩
    refine ⟨_, rfl, ?_⟩
    replace hS := hS.after hT.nil
    have htm : 0 ≤ tkM (bs.drop (pos bs k)) ∧ tkM (bs.drop (pos bs k)) ≤ bs.length := by
      have h := tkM_le (bs.drop (pos bs k))
      have h2 : (bs.drop (pos bs k)).length ≤ bs.length := by rw [List.length_drop]; omega
      omega
    refine t_q (q_mv (.tuple _) rfl) ?_
    refine t_q (q_extract rfl rfl) ?_
    refine t_q (q_extract rfl rfl) ?_
    refine t_q (q_extract rfl rfl) ?_
    refine t_q (q_extract rfl rfl) ?_
    refine t_q (q_as (.int _ _) rfl) ?_
    refine t_q (q_as (.slice _ _ _) rfl) ?_
    refine t_q (q_as (.int _ _) rfl) ?_
    refine t_q (q_as (.int _ _) rfl) ?_
    refine t_nil ?_
    refine c_seq ?_
    refine c_seq ?_
    refine c_region ?_
    refine t_q (q_mv (.int _ _) rfl) ?_
    refine t_q (q_neq rfl rfl) ?_
    refine t_nil ?_
    refine c_cond rfl ?_ ?_
    · intro hc9
      have hc9d := of_decide_eq_true hc9
      refine c_seq ?_
      refine c_region ?_
      refine t_q (q_mv (.int _ _) rfl) ?_
      refine t_q (q_mv (.int _ _) rfl) ?_
      refine t_q (q_mv (.int _ _) rfl) ?_
      refine t_q (q_as (.int _ _) rfl) ?_
      refine t_q (q_as (.int _ _) rfl) ?_
      refine t_q (q_as (.int _ _) rfl) ?_
      refine t_nil ?_
      refine c_ret ?_
      refine r_three rfl rfl rfl rfl ?_
      first
        | (refine ⟨k, hw, (by rw [tkE_nil hend]; decide), ?_, hS⟩
           have hE : endE bs k = 0 := by unfold endE; rw [if_pos hend]
           rw [hE]; rfl)
        | (refine ⟨k, hw, (by omega), ?_, hS⟩
           have hE : endE bs k = tkE (bs.drop (pos bs k)) := by unfold endE; rw [if_neg (by omega)]
           rw [hE]; rfl)
    · intro hc9
      have hc9d := of_decide_eq_false hc9
      have he0 : tkE (bs.drop (pos bs k)) = 0 := by omega
      refine c_skip ?_
      refine c_seq ?_
      refine c_region ?_
      refine t_q (q_mv (.int _ _) rfl) ?_
      refine t_q (q_mv (.int _ _) rfl) ?_
      refine t_q (q_add_i64 rfl rfl (by omega)) ?_
      refine t_q (q_as (.int _ _) rfl) ?_
      refine t_nil ?_
      refine c_region ?_
      refine t_q (q_mv (.int _ _) rfl) ?_
      refine t_q (q_add_i64 rfl rfl (by omega)) ?_
      refine t_q (q_as (.int _ _) rfl) ?_
      refine t_nil ?_
      have hw2 : whole bs (k + 1) = true := by rw [whole, hw, he0]; rfl
      have hpl2 := pos_le hw2
      have hn := (tkN_le he0).1
      exact ⟨bs.length - pos bs (k + 1), by rw [pos] at *; omega, k + 1, (congrArg (Value.int .i64) (by rw [(tk_ok he0).2.2, pos]; omega)), rfl, hw2, Nat.le_refl _, hS⟩
  · intro hc2
    have hc2d := of_decide_eq_false hc2
    have hend : pos bs k = bs.length := by omega
    refine c_exit ?_
    refine ite_t rfl ?_
    refine c_seq ?_
    refine c_region ?_
    refine t_q (q_mv (.int _ _) rfl) ?_
    refine t_q (q_mv (.int _ _) rfl) ?_
    refine t_q (q_as (.int _ _) rfl) ?_
    refine t_q (q_assign) ?_
    refine t_q (q_as (.int _ _) rfl) ?_
    refine t_nil ?_
    refine c_ret ?_
    refine r_three rfl rfl rfl rfl ?_
    first
      | (refine ⟨k, hw, (by rw [tkE_nil hend]; decide), ?_, hS⟩
         have hE : endE bs k = 0 := by unfold endE; rw [if_pos hend]
         rw [hE]; rfl)
      | (refine ⟨k, hw, (by omega), ?_, hS⟩
         have hE : endE bs k = tkE (bs.drop (pos bs k)) := by unfold endE; rw [if_neg (by omega)]
         rw [hE]; rfl)
structure It where
  k : UInt8
  A : Option Addr
  c : Nat
  l : List UInt8
def It.vals (x : It) : Array Value := #[bv x.k, .slice x.A x.l.length x.c]
def It.give (x : It) : List Asn := [rowA 5 1 x.A x.l.length x.c (x.l.map bv)]
def It.nxt (bs : List UInt8) (pre : List It) (x : It) : Prop := whole bs (pre.length + 1) = true ∧ x.k = tkK (bs.drop (pos bs pre.length)) ∧ x.l = tkL (bs.drop (pos bs pre.length))
set_option maxRecDepth 100000 in
theorem each_calls {w : World} {L : List Asn} {A : Option Addr} {n c : Nat} (hS : St W w L) : Calls Try.prog 23 #[.slice A n c] w fun e w' => ∃ g, e = .returned (.func (.func 74) #[] #[.pointer (some ⟨g, 0, none⟩)]) ∧ St W w' (blkA g 25 [.slice A n c] :: L) := by
  refine calls_of_wpE (args := [_]) Try.func23 rfl rfl rfl ?_
  refine c_seq ?_
  refine c_region ?_
  refine t_box (v := (.slice _ _ _)) rfl rfl hS (fun g1 w hS => ?_)
  refine t_q (q_assign) ?_
  refine t_nil ?_
  refine c_seq ?_
  refine c_region ?_
  refine t_q (q_makeFunc rfl) ?_
  refine t_q (q_as (.func _ _ _) rfl) ?_
  refine t_nil ?_
  refine c_ret ?_
  refine r_one rfl rfl ?_
  exact ⟨g1, rfl, hS⟩
set_option maxRecDepth 100000 in
theorem each1_calls {A : Option Addr} {c : Nat} {bs : List UInt8} (hR : RdB W A bs) (hc : bs.length ≤ c ∧ bs.length ≤ 100000000) {l g : Nat} {J : List It → List Asn → World → Prop} {Jx : List It → World → Prop} (hJ : ∀ pre M w, J pre M w → ∃ E, St W w (M ++ (blkA g 25 [.slice A bs.length c] :: E))) (hL : ∀ pre M w w', J pre [] w → St w w' M → J pre M w') (hD : ∀ pre M w, J pre M w → J pre [] w)
    (hY : ∀ pre x w, J pre x.give w → It.nxt bs pre x → YieldAt Fence.wide 0 Try.prog l x.vals w fun e w' => (e = .returned (.bool true) ∧ J (pre ++ [x]) [] w') ∨ (e = .returned (.bool false) ∧ Jx (pre ++ [x]) w')) {w : World} (hj : J [] [] w) :
  Calls Try.prog 74 #[.func (.yield l) #[] #[], .pointer (some ⟨g, 0, none⟩)] w fun e w' => (∃ v, e = .returned v) ∧ ((∃ xs : List It, (whole bs xs.length = true ∧ tkE (bs.drop (pos bs xs.length)) ≠ 0) ∧ J xs [] w') ∨ ∃ pre, Jx pre w') := by
  refine calls_of_wpE (args := [_, _]) Try.func74 rfl rfl rfl ?_
  refine c_seq ?_
  refine c_region ?_
  refine t_q (q_load1 Try.isAgg25 rfl ((hJ [] [] _ hj).choose_spec.cell (.here _ _) rfl)) ?_
  refine t_q (q_as (.slice _ _ _) rfl) ?_
  refine t_nil ?_
  refine c_block ?_
  refine c_loop [3, 4, 5, 6, 7, 9, 10, 11, 12, 13, 14, 15, 16, 17, 18, 19, 20, 21, 22, 23, 24, 25, 26, 27] (fun k σ w => ∃ (pre : List It) (B : Option Addr), σ 3 = .slice B (bs.drop (pos bs pre.length)).length (c - pos bs pre.length) ∧ RdB W B (bs.drop (pos bs pre.length)) ∧ whole bs pre.length = true ∧ bs.length - pos bs pre.length ≤ k ∧ J pre [] w) (bs.length + 1) rfl (⟨[], A, rfl, hR, rfl, by omega, hj⟩) ?_
  skip
  rintro k σ w ⟨pre, B, h3, hB, hw, hk, hj⟩
  refine c_know 3 h3 ?_
  clear h3
  have hpl := pos_le hw
  have hdl : (bs.drop (pos bs pre.length)).length = bs.length - pos bs pre.length := List.length_drop
  refine c_block ?_
  refine c_seq ?_
  refine c_region ?_
  refine t_q (q_mv (.slice _ _ _) rfl) ?_
  refine t_call Try.call68 (take_calls (Rd.st hB (hJ pre [] _ hj).choose_spec) ⟨by omega, by omega⟩) rfl ?_
  rintro e w ⟨A11, m11, c11, rfl, hm11, hT⟩
  refine ⟨_, rfl, ?_⟩
  subst hm11
  have hj2 := hL pre [] _ _ hj hT.nil
  have hj3 := hL pre _ _ _ hj hT
  clear hj
  refine t_q (q_mv (.tuple _) rfl) ?_
  refine t_q (q_extract rfl rfl) ?_
  refine t_q (q_extract rfl rfl) ?_
  refine t_q (q_extract rfl rfl) ?_
  refine t_q (q_extract rfl rfl) ?_
  refine t_q (q_as (.int _ _) rfl) ?_
  refine t_q (q_as (.slice _ _ _) rfl) ?_
  refine t_q (q_as (.int _ _) rfl) ?_
  refine t_q (q_as (.int _ _) rfl) ?_
  refine t_nil ?_
  refine c_seq ?_
  refine c_seq ?_
  refine c_region ?_
  refine t_q (q_mv (.int _ _) rfl) ?_
  refine t_q (q_neq rfl rfl) ?_
  refine t_q (q_mv (.bool _) rfl) ?_
  refine t_case 18 rfl ?_ ?_
  · intro hg7
    have hg7d := of_decide_eq_true hg7
    refine t_no rfl rfl (by rw [hg7]; decide) ?_
    refine t_no rfl rfl (by rw [hg7]; decide) ?_
    refine t_no rfl rfl (by rw [hg7]; decide) ?_
    refine t_no rfl rfl (by rw [hg7]; decide) ?_
    refine t_no rfl rfl (by rw [hg7]; decide) ?_
    refine t_q (q_pick_t rfl hg7) ?_
    refine t_nil ?_
    refine c_cond_t rfl rfl ?_
    have hfin : (tkE (bs.drop (pos bs pre.length)) ≠ 0) ∨ ∃ b, b = false ∧ ((b = true ∧ J (pre ++ [(⟨tkK (bs.drop (pos bs pre.length)), A11, c11, tkL (bs.drop (pos bs pre.length))⟩ : It)]) [] w) ∨ (b = false ∧ Jx (pre ++ [(⟨tkK (bs.drop (pos bs pre.length)), A11, c11, tkL (bs.drop (pos bs pre.length))⟩ : It)]) w)) := by
      first
        | exact .inl (by assumption)
        | exact .inr ⟨_, by simpa using rfl, hb⟩
    refine c_ret ?_
    refine r_none rfl  ?_
    refine ⟨⟨_, rfl⟩, ?_⟩
    rcases hfin with h | ⟨b, rfl, hb⟩
    · first
        | exact .inl ⟨pre, ⟨hw, h⟩, hj2⟩
        | exact absurd he0 h
    · exact .inr ⟨_, (hb.resolve_left fun h => by cases h.1).2⟩
  · intro hg7
    have hg7d := of_decide_eq_false hg7
    refine t_yes rfl rfl hg7 ?_
    refine t_q (q_mv (.func _ _ _) rfl) ?_
    have he0 : tkE (bs.drop (pos bs pre.length)) = 0 := by omega
    have hw2 : whole bs (pre.length + 1) = true := by rw [whole, hw, he0]; rfl
    refine t_yes rfl rfl hg7 ?_
    refine t_q (q_mv (.int _ _) rfl) ?_
    refine t_yes rfl rfl hg7 ?_
    refine t_q (q_mv (.slice _ _ _) rfl) ?_
    refine t_yes rfl rfl hg7 ?_
    refine t_yield rfl (hY pre (⟨tkK (bs.drop (pos bs pre.length)), A11, c11, tkL (bs.drop (pos bs pre.length))⟩ : It) _ hj3 ⟨hw2, rfl, rfl⟩) rfl ?_
    rintro e w he
    obtain ⟨b, rfl, hb⟩ : ∃ b, e = .returned (.bool b) ∧ ((b = true ∧ J (pre ++ [(⟨tkK (bs.drop (pos bs pre.length)), A11, c11, tkL (bs.drop (pos bs pre.length))⟩ : It)]) [] w) ∨ (b = false ∧ Jx (pre ++ [(⟨tkK (bs.drop (pos bs pre.length)), A11, c11, tkL (bs.drop (pos bs pre.length))⟩ : It)]) w)) := by
      rcases he with ⟨rfl, h⟩ | ⟨rfl, h⟩
      · exact ⟨true, rfl, .inl ⟨rfl, h⟩⟩
      · exact ⟨false, rfl, .inr ⟨rfl, h⟩⟩
    refine ⟨_, rfl, ?_⟩
    refine t_yes rfl rfl hg7 ?_
    refine t_q (q_not rfl) ?_
    refine t_q (q_pick_f rfl hg7) ?_
    refine t_nil ?_
    refine c_cond rfl ?_ ?_
    · intro hc9
      have hfin : (tkE (bs.drop (pos bs pre.length)) ≠ 0) ∨ ∃ b, b = false ∧ ((b = true ∧ J (pre ++ [(⟨tkK (bs.drop (pos bs pre.length)), A11, c11, tkL (bs.drop (pos bs pre.length))⟩ : It)]) [] w) ∨ (b = false ∧ Jx (pre ++ [(⟨tkK (bs.drop (pos bs pre.length)), A11, c11, tkL (bs.drop (pos bs pre.length))⟩ : It)]) w)) := by
        first
          | exact .inl (by assumption)
          | exact .inr ⟨_, by simpa using hc9, hb⟩
      refine c_ret ?_
      refine r_none rfl  ?_
      refine ⟨⟨_, rfl⟩, ?_⟩
      rcases hfin with h | ⟨b, rfl, hb⟩
      · first
          | exact .inl ⟨pre, ⟨hw, h⟩, hj2⟩
          | exact absurd he0 h
      · exact .inr ⟨_, (hb.resolve_left fun h => by cases h.1).2⟩
    · intro hc9
      have hbt : b = true := by simpa using hc9
      refine c_skip ?_
      refine c_region ?_
      refine t_q (q_mv (.slice _ _ _) rfl) ?_
      refine t_q (q_cast (v' := .int .i64 (tkN (bs.drop (pos bs pre.length)) : Int)) (q_mv (.int _ _) rfl) (congrArg (Value.int .i64) (tk_ok he0).2.2)) ?_
      have hnl := tkN_le he0
      refine t_q (q_slice Try.runUnderlying25 Try.sizeOf5 rfl rfl ⟨_, _, rfl, by omega, by omega, rfl⟩) ?_
      refine t_q (q_as (.slice _ _ _) rfl) ?_
      refine t_nil ?_
      have hjn := (hb.resolve_right fun h => by rw [h.1] at hbt; cases hbt).2
      have hpe : pos bs (pre ++ [(⟨tkK (bs.drop (pos bs pre.length)), A11, c11, tkL (bs.drop (pos bs pre.length))⟩ : It)]).length = pos bs pre.length + tkN (bs.drop (pos bs pre.length)) := by rw [List.length_append]; rfl
      have hde : bs.drop (pos bs (pre ++ [(⟨tkK (bs.drop (pos bs pre.length)), A11, c11, tkL (bs.drop (pos bs pre.length))⟩ : It)]).length) = (bs.drop (pos bs pre.length)).drop (tkN (bs.drop (pos bs pre.length))) := by rw [hpe, List.drop_drop]
      refine ⟨bs.length - pos bs (pre.length + 1), by have := pos_le hw2; have := (tkN_le he0).1; rw [pos] at *; omega, pre ++ [(⟨tkK (bs.drop (pos bs pre.length)), A11, c11, tkL (bs.drop (pos bs pre.length))⟩ : It)], (if (c - pos bs pre.length) = tkN (bs.drop (pos bs pre.length)) then B else B.map (·.add (tkN (bs.drop (pos bs pre.length)) * 1))), ?_, ?_, (by rw [List.length_append]; exact hw2), (by rw [List.length_append]; exact Nat.le_refl _), hjn⟩
      · show Value.slice _ _ _ = _
        simp only [Int.toNat_natCast]
        rw [hde, hpe]
        congr 1
        · exact List.length_drop.symm
        · omega
      · rw [hde]
        exact drop_rd hB (k := tkN (bs.drop (pos bs pre.length))) (c := (c - pos bs pre.length)) (tkN_le he0).2 ⟨by omega, by omega⟩
end Go.Proofs.Ytlppgpidakfnlaa
