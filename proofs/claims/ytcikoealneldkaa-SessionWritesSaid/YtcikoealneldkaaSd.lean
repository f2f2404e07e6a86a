/- Tables of sessions read from bytes, both ways. -/
import Derived.Test.YtcikoealneldkaaSc
namespace Go.Proofs.Ytcikoealneldkaa
open Go Go.RowKit Go.Lib
variable {W : World}
theorem evS_wf {s : Rs} (h : s.Wf) : (evS s).Wf := by
  cases ho : evOk s with
  | false => rw [(evOk_no ho).2]; exact fun _ => rfl
  | true => rw [(evOk_yes ho).2]; exact evk_wf h _
theorem Sk.wf1 {q : Sk} (h : q.s.Wf) : q.s1.Wf := h.nat 8
theorem Sk.wf2 {q : Sk} (h : q.s.Wf) : q.s2.Wf := (h.nat 8).all
theorem sk_wf {s : Rs} (h : s.Wf) : ∀ k, (sk s k).s.Wf
  | 0 => h.nat 8
  | k + 1 => evS_wf (Sk.wf2 (sk_wf h k))
theorem good_f1 {q : Sk} (h : evOk q.s2 = false) : q.good = false := by unfold Sk.good; rw [h, Bool.false_and]
theorem good_f2 {q : Sk} (h : q.cl ≤ q.last) : q.good = false := by unfold Sk.good; rw [decide_eq_false (by omega), Bool.false_and, Bool.and_false]
theorem good_f3 {q : Sk} (h : q.rq = 0) : q.good = false := by unfold Sk.good; rw [h]; simp
theorem rCl {w : World} {L R : List Asn} {g : Nat} {q : Sk} (hS : St W w L) (pk : Pick L (rdrA W 106 g q.s) R) : Calls Try.prog 59 #[.pointer (some ⟨g, 0, none⟩), .int .u64 8] w fun e w' => e = .returned (.int .u64 q.cl) ∧ St W w' (rdrA W 106 g q.s1 :: R) := rNat (most := 8) hS pk (by decide) (by decide)
theorem rRq {w : World} {L R : List Asn} {g : Nat} {q : Sk} (hS : St W w L) (pk : Pick L (rdrA W 106 g q.s1) R) : Calls Try.prog 59 #[.pointer (some ⟨g, 0, none⟩), .int .u64 18446744073709551615] w fun e w' => e = .returned (.int .u64 q.rq) ∧ St W w' (rdrA W 106 g q.s2 :: R) := rAll hS pk
theorem rN8 {w : World} {L R : List Asn} {g : Nat} {s : Rs} (hS : St W w L) (pk : Pick L (rdrA W 106 g s) R) : Calls Try.prog 59 #[.pointer (some ⟨g, 0, none⟩), .int .u64 8] w fun e w' => e = .returned (.int .u64 (sN s : Int)) ∧ St W w' (rdrA W 106 g (sk s 0).s :: R) := rNat (most := 8) hS pk (by decide) (by decide)
theorem qCl {w : World} {L R : List Asn} {g : Nat} {q : Sk} (hS : St W w L) (pk : Pick L (rdrA W 81 g q.s) R) : Calls Try.prog 60 #[.pointer (some ⟨g, 0, none⟩), .int .u64 8] w fun e w' => e = .returned (.int .u64 q.cl) ∧ St W w' (rdrA W 81 g q.s1 :: R) := qNat (most := 8) hS pk (by decide) (by decide)
theorem qRq {w : World} {L R : List Asn} {g : Nat} {q : Sk} (hS : St W w L) (pk : Pick L (rdrA W 81 g q.s1) R) : Calls Try.prog 60 #[.pointer (some ⟨g, 0, none⟩), .int .u64 18446744073709551615] w fun e w' => e = .returned (.int .u64 q.rq) ∧ St W w' (rdrA W 81 g q.s2 :: R) := qAll hS pk
theorem qN8 {w : World} {L R : List Asn} {g : Nat} {s : Rs} (hS : St W w L) (pk : Pick L (rdrA W 81 g s) R) : Calls Try.prog 60 #[.pointer (some ⟨g, 0, none⟩), .int .u64 8] w fun e w' => e = .returned (.int .u64 (sN s : Int)) ∧ St W w' (rdrA W 81 g (sk s 0).s :: R) := qNat (most := 8) hS pk (by decide) (by decide)
theorem wf_fail {s x : Rs} (h : x.Wf) (hb : x.bad = true) : x = s.fail := by
  have h1 := h hb
  cases x with
  | mk l b =>
    dsimp only at h1 hb
    rw [h1, hb]
    rfl
theorem sAll_snoc (s : Rs) (k : Nat) : sAll s (k + 1) = (sAll s k && (sk s k).good) := rfl
attribute [local irreducible] blkA rowA rdrA mapA mapS rdsA tabA refA wrA Sk.good Sk.cl Sk.rq Sk.s1 Sk.s2 evS
set_option maxRecDepth 100000 in
theorem snext_calls {w : World} {R : List Asn} {g g1 gL gT gt : Nat} {q : Sk} (hS : St W w (rdrA W 106 g q.s :: blkA g1 77 [.pointer (some ⟨g, 0, none⟩)] :: blkA gL 24 [.int .u64 q.last] :: blkA gT 62 [.pointer (some ⟨gt, 0, none⟩)] :: tabA gt q.T :: R)) (hW : q.s.Wf) (hl : 0 ≤ q.last ∧ q.last ≤ 8) :
  Calls Try.prog 178 #[.pointer (some ⟨g1, 0, none⟩), .pointer (some ⟨gL, 0, none⟩), .pointer (some ⟨gT, 0, none⟩)] w fun e w' => ∃ T l', e = .returned (.bool q.good) ∧ (q.good = true → T = q.next.T ∧ l' = q.next.last) ∧ St W w' (rdrA W 106 g (evS q.s2) :: blkA g1 77 [.pointer (some ⟨g, 0, none⟩)] :: blkA gL 24 [.int .u64 l'] :: blkA gT 62 [.pointer (some ⟨gt, 0, none⟩)] :: tabA gt T :: R) := by
  have hcl := q.cl_rng
  have hrq := q.rq_rng
  refine calls_of_wpE (args := [_, _, _]) Try.func178 rfl rfl rfl ?_
  refine c_seq ?_
  refine c_region ?_
  refine t_q (q_assign) ?_
  refine t_nil ?_
  refine c_seq ?_
  refine c_draw ?_
  refine d_keep (blkA g1 77 [.pointer (some ⟨g, 0, none⟩)]) 6 [0, 1, 2, 3, 4, 5] [0, 1, 2, 3, 4, 5] hS rfl (by kernel_rfl) (by kernel_rfl) (by kernel_rfl) (by kernel_rfl) (fun hap hsel w hS => ?_)
  refine p_q hap hsel 0 rfl rfl ⟨_, hS.pick (by repeat first | exact .here _ _ | assumption | apply Pick.there)⟩ (fun w hI => q_load1 Try.isAgg77 rfl (hI.choose_spec.cell (by repeat first | exact .here _ _ | assumption | apply Pick.there) rfl)) ?_
  refine p_q hap hsel 2 rfl rfl ⟨_, hS.pick (by repeat first | exact .here _ _ | assumption | apply Pick.there)⟩ (fun w hI => q_load1 Try.isAgg77 rfl (hI.choose_spec.cell (by repeat first | exact .here _ _ | assumption | apply Pick.there) rfl)) ?_
  refine p_one 1 rfl (by kernel_rfl) ?_
  refine t_call Try.call59 (rCl hS (by repeat first | exact .here _ _ | assumption | apply Pick.there)) rfl ?_
  rintro e w ⟨rfl, hS⟩
  refine ⟨_, rfl, ?_⟩
  refine t_nil ?_
  refine ⟨.inr ⟨_, hS.pick (by repeat first | exact .here _ _ | assumption | apply Pick.there)⟩, ?_⟩
  refine p_one 3 rfl (by kernel_rfl) ?_
  refine t_call Try.call59 (rRq hS (by repeat first | exact .here _ _ | assumption | apply Pick.there)) rfl ?_
  rintro e w ⟨rfl, hS⟩
  refine ⟨_, rfl, ?_⟩
  refine t_nil ?_
  refine ⟨.inr ⟨_, hS.pick (by repeat first | exact .here _ _ | assumption | apply Pick.there)⟩, ?_⟩
  refine p_q hap hsel 4 rfl rfl ⟨_, hS.pick (by repeat first | exact .here _ _ | assumption | apply Pick.there)⟩ (fun w hI => q_as (.int _ _) rfl) ?_
  refine p_q hap hsel 5 rfl rfl ⟨_, hS.pick (by repeat first | exact .here _ _ | assumption | apply Pick.there)⟩ (fun w hI => q_as (.int _ _) rfl) ?_
  refine p_end (by kernel_rfl) ?_
  refine c_seq ?_
  refine c_region ?_
  refine t_q (q_load1 Try.isAgg77 rfl (hS.cell (by repeat first | exact .here _ _ | assumption | apply Pick.there) rfl)) ?_
  refine t_call Try.call100 (eread_calls hS (by repeat first | exact .here _ _ | assumption | apply Pick.there) (Sk.wf2 hW)) rfl ?_
  rintro e w ⟨A14, m14, c14, rfl, hm14, hS⟩
  refine ⟨_, rfl, ?_⟩
  refine t_q (q_mv (.tuple _) rfl) ?_
  refine t_q (q_extract rfl rfl) ?_
  refine t_q (q_extract rfl rfl) ?_
  refine t_q (q_as (.slice _ _ _) rfl) ?_
  refine t_q (q_as (.bool _) rfl) ?_
  refine t_nil ?_
  refine c_seq ?_
  refine c_seq ?_
  refine c_region ?_
  refine t_q (q_mv (.bool _) rfl) ?_
  refine t_q (q_not rfl) ?_
  refine t_q (q_mv (.bool _) rfl) ?_
  refine t_case 19 rfl ?_ ?_
  · intro hg6
    refine t_no rfl rfl (by rw [(congrArg not (not_back hg6))]; decide) ?_
    refine t_no rfl rfl (by rw [(congrArg not (not_back hg6))]; decide) ?_
    refine t_no rfl rfl (by rw [(congrArg not (not_back hg6))]; decide) ?_
    refine t_q (q_pick_t rfl (congrArg not (not_back hg6))) ?_
    refine t_q (q_mv (.bool _) rfl) ?_
    refine t_no rfl rfl (by decide) ?_
    refine t_no rfl rfl (by decide) ?_
    refine t_q (q_pick_t rfl rfl) ?_
    refine t_nil ?_
    refine c_cond_t rfl rfl ?_
    have hbad : q.good = false := by first | exact good_f1 (by simpa using (show (!evOk q.s2) = true from by assumption)) | exact good_f2 (by omega) | exact good_f3 (by omega)
    refine c_seq ?_
    refine c_region ?_
    refine t_q (q_assign) ?_
    refine t_nil ?_
    refine c_ret ?_
    refine r_one rfl rfl ?_
    first
      | (rw [hbad]
         replace hS := (hS.pick (A := rowA 130 12 A14 _ c14 _) (by repeat first | exact .here _ _ | assumption | apply Pick.there)).drop
         exact ⟨q.T, q.last, rfl, (fun h => by cases h), (((((hS.pick (A := tabA gt _) (by repeat first | exact .here _ _ | assumption | apply Pick.there)).pick (A := blkA gT 62 _) (by repeat first | exact .here _ _ | assumption | apply Pick.there)).pick (A := blkA gL 24 _) (by repeat first | exact .here _ _ | assumption | apply Pick.there)).pick (A := blkA g1 77 [.pointer (some ⟨g, 0, none⟩)]) (by repeat first | exact .here _ _ | assumption | apply Pick.there)).pick (A := rdrA W 106 g _) (by repeat first | exact .here _ _ | assumption | apply Pick.there))⟩)
      | (rw [hgood]
         replace hS := (((((hS.pick (A := rdsA _) (by repeat first | exact .here _ _ | assumption | apply Pick.there)).pick (A := rowA 130 12 A14 _ c14 _) (by repeat first | exact .here _ _ | assumption | apply Pick.there)).pick (A := mapA .u64 r _) (by repeat first | exact .here _ _ | assumption | apply Pick.there)).pick (A := blkA gt 65 _) (by repeat first | exact .here _ _ | assumption | apply Pick.there))).tab_set hE hm14 (by omega) (by omega)
         exact ⟨_, _, rfl, fun _ => ⟨rfl, rfl⟩, (((((hS.pick (A := tabA gt _) (by repeat first | exact .here _ _ | assumption | apply Pick.there)).pick (A := blkA gT 62 _) (by repeat first | exact .here _ _ | assumption | apply Pick.there)).pick (A := blkA gL 24 _) (by repeat first | exact .here _ _ | assumption | apply Pick.there)).pick (A := blkA g1 77 [.pointer (some ⟨g, 0, none⟩)]) (by repeat first | exact .here _ _ | assumption | apply Pick.there)).pick (A := rdrA W 106 g _) (by repeat first | exact .here _ _ | assumption | apply Pick.there))⟩)
  · intro hg6
    refine t_yes rfl rfl (congrArg not (not_back hg6)) ?_
    refine t_q (q_mv (.int _ _) rfl) ?_
    refine t_yes rfl rfl (congrArg not (not_back hg6)) ?_
    refine t_q (q_load1 Try.isAgg24 rfl (hS.cell (by repeat first | exact .here _ _ | assumption | apply Pick.there) rfl)) ?_
    refine t_yes rfl rfl (congrArg not (not_back hg6)) ?_
    refine t_q (q_leq rfl rfl) ?_
    refine t_q (q_pick_f rfl (congrArg not (not_back hg6))) ?_
    refine t_q (q_mv (.bool _) rfl) ?_
    refine t_case 24 rfl ?_ ?_
    · intro hg8
      have hg8d := of_decide_eq_true hg8
      refine t_no rfl rfl (by rw [hg8]; decide) ?_
      refine t_no rfl rfl (by rw [hg8]; decide) ?_
      refine t_q (q_pick_t rfl hg8) ?_
      refine t_nil ?_
      refine c_cond_t rfl rfl ?_
      have hbad : q.good = false := by first | exact good_f1 (by simpa using (show (!evOk q.s2) = true from by assumption)) | exact good_f2 (by omega) | exact good_f3 (by omega)
      refine c_seq ?_
      refine c_region ?_
      refine t_q (q_assign) ?_
      refine t_nil ?_
      refine c_ret ?_
      refine r_one rfl rfl ?_
      first
        | (rw [hbad]
           replace hS := (hS.pick (A := rowA 130 12 A14 _ c14 _) (by repeat first | exact .here _ _ | assumption | apply Pick.there)).drop
           exact ⟨q.T, q.last, rfl, (fun h => by cases h), (((((hS.pick (A := tabA gt _) (by repeat first | exact .here _ _ | assumption | apply Pick.there)).pick (A := blkA gT 62 _) (by repeat first | exact .here _ _ | assumption | apply Pick.there)).pick (A := blkA gL 24 _) (by repeat first | exact .here _ _ | assumption | apply Pick.there)).pick (A := blkA g1 77 [.pointer (some ⟨g, 0, none⟩)]) (by repeat first | exact .here _ _ | assumption | apply Pick.there)).pick (A := rdrA W 106 g _) (by repeat first | exact .here _ _ | assumption | apply Pick.there))⟩)
        | (rw [hgood]
           replace hS := (((((hS.pick (A := rdsA _) (by repeat first | exact .here _ _ | assumption | apply Pick.there)).pick (A := rowA 130 12 A14 _ c14 _) (by repeat first | exact .here _ _ | assumption | apply Pick.there)).pick (A := mapA .u64 r _) (by repeat first | exact .here _ _ | assumption | apply Pick.there)).pick (A := blkA gt 65 _) (by repeat first | exact .here _ _ | assumption | apply Pick.there))).tab_set hE hm14 (by omega) (by omega)
           exact ⟨_, _, rfl, fun _ => ⟨rfl, rfl⟩, (((((hS.pick (A := tabA gt _) (by repeat first | exact .here _ _ | assumption | apply Pick.there)).pick (A := blkA gT 62 _) (by repeat first | exact .here _ _ | assumption | apply Pick.there)).pick (A := blkA gL 24 _) (by repeat first | exact .here _ _ | assumption | apply Pick.there)).pick (A := blkA g1 77 [.pointer (some ⟨g, 0, none⟩)]) (by repeat first | exact .here _ _ | assumption | apply Pick.there)).pick (A := rdrA W 106 g _) (by repeat first | exact .here _ _ | assumption | apply Pick.there))⟩)
    · intro hg8
      have hg8d := of_decide_eq_false hg8
      refine t_yes rfl rfl hg8 ?_
      refine t_q (q_mv (.int _ _) rfl) ?_
      refine t_yes rfl rfl hg8 ?_
      refine t_q (q_eql rfl rfl) ?_
      refine t_q (q_pick_f rfl hg8) ?_
      refine t_nil ?_
      refine c_cond rfl ?_ ?_
      · intro hc10
        have hc10d := of_decide_eq_true hc10
        have hbad : q.good = false := by first | exact good_f1 (by simpa using (show (!evOk q.s2) = true from by assumption)) | exact good_f2 (by omega) | exact good_f3 (by omega)
        refine c_seq ?_
        refine c_region ?_
        refine t_q (q_assign) ?_
        refine t_nil ?_
        refine c_ret ?_
        refine r_one rfl rfl ?_
        first
          | (rw [hbad]
             replace hS := (hS.pick (A := rowA 130 12 A14 _ c14 _) (by repeat first | exact .here _ _ | assumption | apply Pick.there)).drop
             exact ⟨q.T, q.last, rfl, (fun h => by cases h), (((((hS.pick (A := tabA gt _) (by repeat first | exact .here _ _ | assumption | apply Pick.there)).pick (A := blkA gT 62 _) (by repeat first | exact .here _ _ | assumption | apply Pick.there)).pick (A := blkA gL 24 _) (by repeat first | exact .here _ _ | assumption | apply Pick.there)).pick (A := blkA g1 77 [.pointer (some ⟨g, 0, none⟩)]) (by repeat first | exact .here _ _ | assumption | apply Pick.there)).pick (A := rdrA W 106 g _) (by repeat first | exact .here _ _ | assumption | apply Pick.there))⟩)
          | (rw [hgood]
             replace hS := (((((hS.pick (A := rdsA _) (by repeat first | exact .here _ _ | assumption | apply Pick.there)).pick (A := rowA 130 12 A14 _ c14 _) (by repeat first | exact .here _ _ | assumption | apply Pick.there)).pick (A := mapA .u64 r _) (by repeat first | exact .here _ _ | assumption | apply Pick.there)).pick (A := blkA gt 65 _) (by repeat first | exact .here _ _ | assumption | apply Pick.there))).tab_set hE hm14 (by omega) (by omega)
             exact ⟨_, _, rfl, fun _ => ⟨rfl, rfl⟩, (((((hS.pick (A := tabA gt _) (by repeat first | exact .here _ _ | assumption | apply Pick.there)).pick (A := blkA gT 62 _) (by repeat first | exact .here _ _ | assumption | apply Pick.there)).pick (A := blkA gL 24 _) (by repeat first | exact .here _ _ | assumption | apply Pick.there)).pick (A := blkA g1 77 [.pointer (some ⟨g, 0, none⟩)]) (by repeat first | exact .here _ _ | assumption | apply Pick.there)).pick (A := rdrA W 106 g _) (by repeat first | exact .here _ _ | assumption | apply Pick.there))⟩)
      · intro hc10
        have hc10d := of_decide_eq_false hc10
        have hok : evOk q.s2 = true := by simpa using (show (!evOk q.s2) = false from by assumption)
        have hlt : q.last < q.cl := by omega
        have hpos : 0 < q.rq := by omega
        refine c_skip ?_
        refine c_seq ?_
        have hgood := Sk.good_iff.2 ⟨hok, hlt, hpos⟩
        obtain ⟨r, E, hE, hS⟩ := (hS.pick (A := tabA gt q.T) (by repeat first | exact .here _ _ | assumption | apply Pick.there)).tab
        refine c_region ?_
        refine t_q (q_load1 Try.isAgg62 rfl (hS.cell (by repeat first | exact .here _ _ | assumption | apply Pick.there) rfl)) ?_
        refine t_q (q_nilCheck rfl) ?_
        refine t_q (q_fieldAddr 0 Try.runUnderlying65 rfl Try.sizeOf63 (by decide) rfl rfl) ?_
        refine t_q (q_load1 Try.isAgg63 rfl (hS.cell (by repeat first | exact .here _ _ | assumption | apply Pick.there) rfl)) ?_
        refine t_q (q_mv (.int _ _) rfl) ?_
        refine t_q (q_mv (.int _ _) rfl) ?_
        refine t_q (q_mv (.slice _ _ _) rfl) ?_
        refine t_q (q_build (qs := [(0, 1), (1, 1)]) [(.int _ _), (.slice _ _ _)] Try.zeroValue195 Try.runUnderlying195 ⟨rfl, Try.sizeOf24, rfl, Try.sizeOf70, trivial⟩ rfl rfl) ?_
        refine t_q (q_mv (.int _ _) rfl) ?_
        refine t_mapEntry Try.underlying63 Try.underlying24 Try.zeroValue195 hS (by repeat first | exact .here _ _ | assumption | apply Pick.there) rfl rfl (fun s37 w hS => ?_)
        refine t_q (q_extract rfl rfl) ?_
        refine t_entryStore hS (by repeat first | exact .here _ _ | assumption | apply Pick.there) rfl rfl rfl (fun w hS => ?_)
        refine t_store (v := (.int _ _)) Try.sizeOf24 hS (by repeat first | exact .here _ _ | assumption | apply Pick.there) rfl rfl rfl rfl rfl rfl (fun w hS => ?_)
        refine t_nil ?_
        refine c_seq ?_
        refine c_region ?_
        refine t_q (q_assign) ?_
        refine t_nil ?_
        refine c_ret ?_
        refine r_one rfl rfl ?_
        first
          | (rw [hbad]
             replace hS := (hS.pick (A := rowA 130 12 A14 _ c14 _) (by repeat first | exact .here _ _ | assumption | apply Pick.there)).drop
             exact ⟨q.T, q.last, rfl, (fun h => by cases h), (((((hS.pick (A := tabA gt _) (by repeat first | exact .here _ _ | assumption | apply Pick.there)).pick (A := blkA gT 62 _) (by repeat first | exact .here _ _ | assumption | apply Pick.there)).pick (A := blkA gL 24 _) (by repeat first | exact .here _ _ | assumption | apply Pick.there)).pick (A := blkA g1 77 [.pointer (some ⟨g, 0, none⟩)]) (by repeat first | exact .here _ _ | assumption | apply Pick.there)).pick (A := rdrA W 106 g _) (by repeat first | exact .here _ _ | assumption | apply Pick.there))⟩)
          | (rw [hgood]
             replace hS := (((((hS.pick (A := rdsA _) (by repeat first | exact .here _ _ | assumption | apply Pick.there)).pick (A := rowA 130 12 A14 _ c14 _) (by repeat first | exact .here _ _ | assumption | apply Pick.there)).pick (A := mapA .u64 r _) (by repeat first | exact .here _ _ | assumption | apply Pick.there)).pick (A := blkA gt 65 _) (by repeat first | exact .here _ _ | assumption | apply Pick.there))).tab_set hE hm14 (by omega) (by omega)
             exact ⟨_, _, rfl, fun _ => ⟨rfl, rfl⟩, (((((hS.pick (A := tabA gt _) (by repeat first | exact .here _ _ | assumption | apply Pick.there)).pick (A := blkA gT 62 _) (by repeat first | exact .here _ _ | assumption | apply Pick.there)).pick (A := blkA gL 24 _) (by repeat first | exact .here _ _ | assumption | apply Pick.there)).pick (A := blkA g1 77 [.pointer (some ⟨g, 0, none⟩)]) (by repeat first | exact .here _ _ | assumption | apply Pick.there)).pick (A := rdrA W 106 g _) (by repeat first | exact .here _ _ | assumption | apply Pick.there))⟩)
set_option maxHeartbeats 2000000 in
set_option maxRecDepth 100000 in
theorem sread_calls {w : World} {L R : List Asn} {g : Nat} {s : Rs} (hS : St W w L) (pk : Pick L (rdrA W 106 g s) R) (hW : s.Wf) :
  Calls Try.prog 116 #[.pointer (some ⟨g, 0, none⟩)] w fun e w' => ∃ p, e = .returned (.tuple #[.pointer p, .bool (sOk s)]) ∧ ((sOk s = true ∧ ∃ gt, p = some ⟨gt, 0, none⟩ ∧ St W w' (rdrA W 106 g (sS s) :: tabA gt (sT s) :: R)) ∨ (sOk s = false ∧ p = none ∧ St W w' (rdrA W 106 g s.fail :: R))) := by
  replace hS := hS.pick pk
  clear pk
  have hN := sN_le s
  refine calls_of_wpE (args := [_]) Try.func116 rfl rfl rfl ?_
  refine c_seq ?_
  refine c_region ?_
  refine t_box (v := (.pointer _)) rfl rfl hS (fun g1 w hS => ?_)
  refine t_q (q_assign) ?_
  refine t_q (q_assign) ?_
  refine t_nil ?_
  refine c_seq ?_
  refine c_region ?_
  refine t_call Try.call120 (snew_calls hS) rfl ?_
  rintro e w ⟨gt, rfl, hS⟩
  refine ⟨_, rfl, ?_⟩
  refine t_alloc Try.zeroValue62 rfl hS (fun g4 w hS => ?_)
  refine t_store (v := (.pointer _)) Try.sizeOf62 hS (by repeat first | exact .here _ _ | assumption | apply Pick.there) rfl rfl rfl rfl rfl rfl (fun w hS => ?_)
  refine t_nil ?_
  refine c_seq ?_
  refine c_region ?_
  refine t_alloc Try.zeroValue24 rfl hS (fun g5 w hS => ?_)
  refine t_store (v := (.int _ _)) Try.sizeOf24 hS (by repeat first | exact .here _ _ | assumption | apply Pick.there) rfl rfl rfl rfl rfl rfl (fun w hS => ?_)
  refine t_nil ?_
  refine c_seq ?_
  refine c_region ?_
  refine t_q (q_makeFunc rfl) ?_
  refine t_q (q_as (.func _ _ _) rfl) ?_
  refine t_nil ?_
  refine c_seq ?_
  refine c_seq ?_
  refine c_region ?_
  refine t_q (q_load1 Try.isAgg77 rfl (hS.cell (by repeat first | exact .here _ _ | assumption | apply Pick.there) rfl)) ?_
  refine t_call Try.call59 (rN8 hS (by repeat first | exact .here _ _ | assumption | apply Pick.there)) rfl ?_
  rintro e w ⟨rfl, hS⟩
  refine ⟨_, rfl, ?_⟩
  refine t_q (q_move) ?_
  refine t_nil ?_
  refine c_block ?_
  refine c_loop [11, 12, 13, 14, 15, 16, 17, 18] (fun k σ w => ∃ i : Nat, σ 11 = .int .u64 (i : Int) ∧ i ≤ sN s ∧ sN s - i ≤ k ∧ sAll s i = true ∧ St W w (rdrA W 106 g (sk s i).s :: blkA g1 77 [.pointer (some ⟨g, 0, none⟩)] :: blkA g5 24 [.int .u64 (sk s i).last] :: blkA g4 62 [.pointer (some ⟨gt, 0, none⟩)] :: tabA gt (sk s i).T :: R)) (sN s) rfl (⟨0, rfl, by omega, by omega, rfl, (((((hS.pick (A := tabA gt T0) (by repeat first | exact .here _ _ | assumption | apply Pick.there)).pick (A := blkA g4 62 [.pointer (some ⟨gt, 0, none⟩)]) (by repeat first | exact .here _ _ | assumption | apply Pick.there)).pick (A := blkA g5 24 [.int .u64 0]) (by repeat first | exact .here _ _ | assumption | apply Pick.there)).pick (A := blkA g1 77 _) (by repeat first | exact .here _ _ | assumption | apply Pick.there)).pick (A := rdrA W 106 g (sk s 0).s) (by repeat first | exact .here _ _ | assumption | apply Pick.there))⟩) ?_
  skip
  rintro k σ w ⟨i, h11, hi, hk, hall, hS⟩
  refine c_know 11 h11 ?_
  clear h11
  have hko := sk_ok s i hall
  refine c_seq ?_
  refine c_region ?_
  refine t_q (q_lss rfl rfl) ?_
  refine t_nil ?_
  refine c_seq ?_
  refine c_cond rfl ?_ ?_
  · intro hc4
    have hc4d := of_decide_eq_true hc4
    refine c_skip ?_
    refine c_seq ?_
    refine c_block ?_
    refine c_seq ?_
    refine c_region ?_
    refine t_q (q_mv (.func _ _ _) rfl) ?_
    refine t_callv Try.call178 rfl (snext_calls hS (sk_wf hW i) hko.last) rfl ?_
    rintro e w ⟨T', l', rfl, hnx, hS⟩
    refine ⟨_, rfl, ?_⟩
    refine t_q (q_not rfl) ?_
    refine t_nil ?_
    refine c_cond rfl ?_ ?_
    · intro hc6
      have hgd : (sk s i).good = false := by simpa using hc6
      refine c_seq ?_
      refine c_region ?_
      refine t_q (q_load1 Try.isAgg77 rfl (hS.cell (by repeat first | exact .here _ _ | assumption | apply Pick.there) rfl)) ?_
      refine t_call Try.call67 (rFail hS (by repeat first | exact .here _ _ | assumption | apply Pick.there)) rfl ?_
      rintro e w ⟨rfl, hS⟩
      refine ⟨_, rfl, ?_⟩
      refine t_nil ?_
      refine c_exit ?_
      refine ite_f (by decide) ?_
      refine ite_t rfl ?_
      refine c_seq ?_
      refine c_seq ?_
      refine c_region ?_
      refine t_q (q_load1 Try.isAgg77 rfl (hS.cell (by repeat first | exact .here _ _ | assumption | apply Pick.there) rfl)) ?_
      refine t_call Try.call70 (rBad hS (by repeat first | exact .here _ _ | assumption | apply Pick.there)) rfl ?_
      rintro e w ⟨rfl, hS⟩
      refine ⟨_, rfl, ?_⟩
      refine t_nil ?_
      refine c_cond rfl ?_ ?_
      · intro hc9
        first
          | have hfin := sOk_f2 (s := s) (i := i) (by omega) hgd
          | (have hfin := sOk_f1 hc9; have hst := wf_fail (s := s) (sk_wf hW _) hc9)
        refine c_seq ?_
        refine c_region ?_
        refine t_q (q_assign) ?_
        refine t_q (q_assign) ?_
        refine t_nil ?_
        refine c_ret ?_
        refine r_two rfl rfl rfl ?_
        first
          | (rw [hfin]
             refine ⟨none, rfl, .inr ⟨rfl, rfl, ?_⟩⟩
             first
               | (rw [← hst]; exact (((((hS.pick (A := tabA gt _) (by repeat first | exact .here _ _ | assumption | apply Pick.there)).pick (A := blkA g4 62 _) (by repeat first | exact .here _ _ | assumption | apply Pick.there)).pick (A := blkA g5 24 _) (by repeat first | exact .here _ _ | assumption | apply Pick.there)).pick (A := blkA g1 77 _) (by repeat first | exact .here _ _ | assumption | apply Pick.there))).drop.drop.drop.drop)
               | exact (((((hS.pick (A := tabA gt _) (by repeat first | exact .here _ _ | assumption | apply Pick.there)).pick (A := blkA g4 62 _) (by repeat first | exact .here _ _ | assumption | apply Pick.there)).pick (A := blkA g5 24 _) (by repeat first | exact .here _ _ | assumption | apply Pick.there)).pick (A := blkA g1 77 _) (by repeat first | exact .here _ _ | assumption | apply Pick.there))).drop.drop.drop.drop)
          | exact Bool.noConfusion (show true = false from hbf)
          | (have hfin := sOk_t hbf hall
             obtain ⟨e1, e2, _, _⟩ := sOk_yes hfin
             rw [hfin, e1, e2]
             exact ⟨_, rfl, .inl ⟨rfl, gt, rfl, ((((((hS.pick (A := tabA gt _) (by repeat first | exact .here _ _ | assumption | apply Pick.there)).pick (A := rdrA W 106 g _) (by repeat first | exact .here _ _ | assumption | apply Pick.there)).pick (A := blkA g4 62 _) (by repeat first | exact .here _ _ | assumption | apply Pick.there)).pick (A := blkA g5 24 _) (by repeat first | exact .here _ _ | assumption | apply Pick.there)).pick (A := blkA g1 77 _) (by repeat first | exact .here _ _ | assumption | apply Pick.there))).drop.drop.drop⟩⟩)
      · intro hc9
        have hbf := hc9
        refine c_skip ?_
        refine c_seq ?_
        refine c_region ?_
        refine t_q (q_load1 Try.isAgg62 rfl (hS.cell (by repeat first | exact .here _ _ | assumption | apply Pick.there) rfl)) ?_
        refine t_q (q_as (.pointer _) rfl) ?_
        refine t_q (q_assign) ?_
        refine t_nil ?_
        refine c_ret ?_
        refine r_two rfl rfl rfl ?_
        first
          | (rw [hfin]
             refine ⟨none, rfl, .inr ⟨rfl, rfl, ?_⟩⟩
             first
               | (rw [← hst]; exact (((((hS.pick (A := tabA gt _) (by repeat first | exact .here _ _ | assumption | apply Pick.there)).pick (A := blkA g4 62 _) (by repeat first | exact .here _ _ | assumption | apply Pick.there)).pick (A := blkA g5 24 _) (by repeat first | exact .here _ _ | assumption | apply Pick.there)).pick (A := blkA g1 77 _) (by repeat first | exact .here _ _ | assumption | apply Pick.there))).drop.drop.drop.drop)
               | exact (((((hS.pick (A := tabA gt _) (by repeat first | exact .here _ _ | assumption | apply Pick.there)).pick (A := blkA g4 62 _) (by repeat first | exact .here _ _ | assumption | apply Pick.there)).pick (A := blkA g5 24 _) (by repeat first | exact .here _ _ | assumption | apply Pick.there)).pick (A := blkA g1 77 _) (by repeat first | exact .here _ _ | assumption | apply Pick.there))).drop.drop.drop.drop)
          | exact Bool.noConfusion (show true = false from hbf)
          | (have hfin := sOk_t hbf hall
             obtain ⟨e1, e2, _, _⟩ := sOk_yes hfin
             rw [hfin, e1, e2]
             exact ⟨_, rfl, .inl ⟨rfl, gt, rfl, ((((((hS.pick (A := tabA gt _) (by repeat first | exact .here _ _ | assumption | apply Pick.there)).pick (A := rdrA W 106 g _) (by repeat first | exact .here _ _ | assumption | apply Pick.there)).pick (A := blkA g4 62 _) (by repeat first | exact .here _ _ | assumption | apply Pick.there)).pick (A := blkA g5 24 _) (by repeat first | exact .here _ _ | assumption | apply Pick.there)).pick (A := blkA g1 77 _) (by repeat first | exact .here _ _ | assumption | apply Pick.there))).drop.drop.drop⟩⟩)
    · intro hc6
      have hgd : (sk s i).good = true := by simpa using hc6
      refine c_skip ?_
      refine c_region ?_
      refine t_q (q_add_u64 rfl rfl (by omega)) ?_
      refine t_q (q_mv (.int _ _) rfl) ?_
      refine t_nil ?_
      obtain ⟨hT, hl⟩ := hnx hgd
      subst hT hl
      exact ⟨k - 1, by omega, i + 1, rfl, by omega, by omega, by rw [sAll_snoc, hall, hgd]; rfl, hS⟩
  · intro hc4
    have hc4d := of_decide_eq_false hc4
    obtain rfl : i = sN s := by omega
    refine c_exit ?_
    refine ite_t rfl ?_
    refine c_seq ?_
    refine c_seq ?_
    refine c_region ?_
    refine t_q (q_load1 Try.isAgg77 rfl (hS.cell (by repeat first | exact .here _ _ | assumption | apply Pick.there) rfl)) ?_
    refine t_call Try.call70 (rBad hS (by repeat first | exact .here _ _ | assumption | apply Pick.there)) rfl ?_
    rintro e w ⟨rfl, hS⟩
    refine ⟨_, rfl, ?_⟩
    refine t_nil ?_
    refine c_cond rfl ?_ ?_
    · intro hc11
      first
        | have hfin := sOk_f2 (s := s) (i := i) (by omega) hgd
        | (have hfin := sOk_f1 hc11; have hst := wf_fail (s := s) (sk_wf hW _) hc11)
      refine c_seq ?_
      refine c_region ?_
      refine t_q (q_assign) ?_
      refine t_q (q_assign) ?_
      refine t_nil ?_
      refine c_ret ?_
      refine r_two rfl rfl rfl ?_
      first
        | (rw [hfin]
           refine ⟨none, rfl, .inr ⟨rfl, rfl, ?_⟩⟩
           first
             | (rw [← hst]; exact (((((hS.pick (A := tabA gt _) (by repeat first | exact .here _ _ | assumption | apply Pick.there)).pick (A := blkA g4 62 _) (by repeat first | exact .here _ _ | assumption | apply Pick.there)).pick (A := blkA g5 24 _) (by repeat first | exact .here _ _ | assumption | apply Pick.there)).pick (A := blkA g1 77 _) (by repeat first | exact .here _ _ | assumption | apply Pick.there))).drop.drop.drop.drop)
             | exact (((((hS.pick (A := tabA gt _) (by repeat first | exact .here _ _ | assumption | apply Pick.there)).pick (A := blkA g4 62 _) (by repeat first | exact .here _ _ | assumption | apply Pick.there)).pick (A := blkA g5 24 _) (by repeat first | exact .here _ _ | assumption | apply Pick.there)).pick (A := blkA g1 77 _) (by repeat first | exact .here _ _ | assumption | apply Pick.there))).drop.drop.drop.drop)
        | exact Bool.noConfusion (show true = false from hbf)
        | (have hfin := sOk_t hbf hall
           obtain ⟨e1, e2, _, _⟩ := sOk_yes hfin
           rw [hfin, e1, e2]
           exact ⟨_, rfl, .inl ⟨rfl, gt, rfl, ((((((hS.pick (A := tabA gt _) (by repeat first | exact .here _ _ | assumption | apply Pick.there)).pick (A := rdrA W 106 g _) (by repeat first | exact .here _ _ | assumption | apply Pick.there)).pick (A := blkA g4 62 _) (by repeat first | exact .here _ _ | assumption | apply Pick.there)).pick (A := blkA g5 24 _) (by repeat first | exact .here _ _ | assumption | apply Pick.there)).pick (A := blkA g1 77 _) (by repeat first | exact .here _ _ | assumption | apply Pick.there))).drop.drop.drop⟩⟩)
    · intro hc11
      have hbf := hc11
      refine c_skip ?_
      refine c_seq ?_
      refine c_region ?_
      refine t_q (q_load1 Try.isAgg62 rfl (hS.cell (by repeat first | exact .here _ _ | assumption | apply Pick.there) rfl)) ?_
      refine t_q (q_as (.pointer _) rfl) ?_
      refine t_q (q_assign) ?_
      refine t_nil ?_
      refine c_ret ?_
      refine r_two rfl rfl rfl ?_
      first
        | (rw [hfin]
           refine ⟨none, rfl, .inr ⟨rfl, rfl, ?_⟩⟩
           first
             | (rw [← hst]; exact (((((hS.pick (A := tabA gt _) (by repeat first | exact .here _ _ | assumption | apply Pick.there)).pick (A := blkA g4 62 _) (by repeat first | exact .here _ _ | assumption | apply Pick.there)).pick (A := blkA g5 24 _) (by repeat first | exact .here _ _ | assumption | apply Pick.there)).pick (A := blkA g1 77 _) (by repeat first | exact .here _ _ | assumption | apply Pick.there))).drop.drop.drop.drop)
             | exact (((((hS.pick (A := tabA gt _) (by repeat first | exact .here _ _ | assumption | apply Pick.there)).pick (A := blkA g4 62 _) (by repeat first | exact .here _ _ | assumption | apply Pick.there)).pick (A := blkA g5 24 _) (by repeat first | exact .here _ _ | assumption | apply Pick.there)).pick (A := blkA g1 77 _) (by repeat first | exact .here _ _ | assumption | apply Pick.there))).drop.drop.drop.drop)
        | exact Bool.noConfusion (show true = false from hbf)
        | (have hfin := sOk_t hbf hall
           obtain ⟨e1, e2, _, _⟩ := sOk_yes hfin
           rw [hfin, e1, e2]
           exact ⟨_, rfl, .inl ⟨rfl, gt, rfl, ((((((hS.pick (A := tabA gt _) (by repeat first | exact .here _ _ | assumption | apply Pick.there)).pick (A := rdrA W 106 g _) (by repeat first | exact .here _ _ | assumption | apply Pick.there)).pick (A := blkA g4 62 _) (by repeat first | exact .here _ _ | assumption | apply Pick.there)).pick (A := blkA g5 24 _) (by repeat first | exact .here _ _ | assumption | apply Pick.there)).pick (A := blkA g1 77 _) (by repeat first | exact .here _ _ | assumption | apply Pick.there))).drop.drop.drop⟩⟩)
end Go.Proofs.Ytcikoealneldkaa
