/- Disks: what is done with a file. -/
import Derived.Test.YtlppgpidakfnlaaDb
namespace Go.Proofs.Ytlppgpidakfnlaa
open Go Go.RowKit Go.Lib
variable {W : World}
def apE (F : Nat → List UInt8 × Nat) (i m : Nat) : Int := if 1048576 < (F i).1.length + m then 21 else 0
def apF (F : Nat → List UInt8 × Nat) (i : Nat) (ys : List UInt8) : Nat → List UInt8 × Nat := updF F i ((F i).1 ++ ys, (F i).2)
def syF (F : Nat → List UInt8 × Nat) (i : Nat) : Nat → List UInt8 × Nat := updF F i ((F i).1, (F i).1.length)
def cuE (F : Nat → List UInt8 × Nat) (i : Nat) (n : Int) : Int := if n < 0 ∨ ((F i).1.length : Int) < n then 2 else 0
def cuF (F : Nat → List UInt8 × Nat) (i : Nat) (n : Int) : Nat → List UInt8 × Nat := updF F i ((F i).1.take n.toNat, min (F i).2 n.toNat)
def drF (F : Nat → List UInt8 × Nat) (i : Nat) : Nat → List UInt8 × Nat := updF F i ([], 0)
def FGood (F : Nat → List UInt8 × Nat) : Prop := ∀ i, (F i).2 ≤ (F i).1.length ∧ (F i).1.length ≤ 1048576
attribute [local irreducible] blkA rowA rdrA rowC packA fcells
set_option maxRecDepth 100000 in
theorem apa_calls {w : World} {R : List Asn} {g i : Nat} {F : Nat → List UInt8 × Nat} {rw : Rws} {tl : List Value} (hi : i < 32) {g5 m cm : Nat} {B : Option Addr} {ys : List UInt8} (hS : St W w (blkA g 157 (fcells F rw ++ tl) :: packA (filesL F rw) :: blkA g5 25 [.slice B m cm] :: R)) (hrd : ∀ w', St W w' R → RdB w' B ys) (hm : m = ys.length) (hl : (F i).1.length + ys.length ≤ 1048576) :
  Calls Try.prog 90 #[.pointer (some ⟨g, 0 + i * 2, none⟩), .pointer (some ⟨g5, 0, none⟩)] w fun e w' => ∃ rw', e = .returned (.tuple #[]) ∧ St W w' (blkA g 157 (fcells (apF F i ys) rw' ++ tl) :: packA (filesL (apF F i ys) rw') :: blkA g5 25 [.slice B m cm] :: R) := by
  replace hS := (hS.pick (A := packA (filesL F rw)) (by repeat first | exact .here _ _ | assumption | apply Pick.there)).file hi
  refine calls_of_wpE (args := [_, _]) Try.func90 rfl rfl rfl ?_
  refine c_draw ?_
  refine d_keep2 (blkA g 157 (fcells F rw ++ tl)) (blkA g5 25 [.slice B m cm]) 10 [0, 1, 2, 3, 4, 5, 6, 7, 8, 9] [0, 1, 2, 3, 4, 5, 6, 7, 8, 9] hS rfl (by kernel_rfl) (by kernel_rfl) (by kernel_rfl) (by kernel_rfl) (fun hap hsel w hS => ?_)
  refine p_q hap hsel 0 rfl rfl ⟨_, ((hS.pick (A := blkA g5 25 [.slice B m cm]) (by repeat first | exact .here _ _ | assumption | apply Pick.there)).pick (A := blkA g 157 (fcells F rw ++ tl)) (by repeat first | exact .here _ _ | assumption | apply Pick.there))⟩ (fun w hI => q_mv (.pointer _) rfl) ?_
  refine p_q hap hsel 1 rfl rfl ⟨_, ((hS.pick (A := blkA g5 25 [.slice B m cm]) (by repeat first | exact .here _ _ | assumption | apply Pick.there)).pick (A := blkA g 157 (fcells F rw ++ tl)) (by repeat first | exact .here _ _ | assumption | apply Pick.there))⟩ (fun w hI => q_mv (.pointer _) rfl) ?_
  refine p_q hap hsel 2 rfl rfl ⟨_, ((hS.pick (A := blkA g5 25 [.slice B m cm]) (by repeat first | exact .here _ _ | assumption | apply Pick.there)).pick (A := blkA g 157 (fcells F rw ++ tl)) (by repeat first | exact .here _ _ | assumption | apply Pick.there))⟩ (fun w hI => q_nilCheck rfl) ?_
  refine p_q hap hsel 3 rfl rfl ⟨_, ((hS.pick (A := blkA g5 25 [.slice B m cm]) (by repeat first | exact .here _ _ | assumption | apply Pick.there)).pick (A := blkA g 157 (fcells F rw ++ tl)) (by repeat first | exact .here _ _ | assumption | apply Pick.there))⟩ (fun w hI => q_fieldAddr 0 Try.runUnderlying154 rfl Try.sizeOf25 (by decide) rfl rfl) ?_
  refine p_q hap hsel 4 rfl rfl ⟨_, ((hS.pick (A := blkA g5 25 [.slice B m cm]) (by repeat first | exact .here _ _ | assumption | apply Pick.there)).pick (A := blkA g 157 (fcells F rw ++ tl)) (by repeat first | exact .here _ _ | assumption | apply Pick.there))⟩ (fun w hI => q_load1 Try.isAgg25 rfl (hI.choose_spec.cell (by repeat first | exact .here _ _ | assumption | apply Pick.there) (fc_b hi))) ?_
  refine p_q hap hsel 5 rfl rfl ⟨_, ((hS.pick (A := blkA g5 25 [.slice B m cm]) (by repeat first | exact .here _ _ | assumption | apply Pick.there)).pick (A := blkA g 157 (fcells F rw ++ tl)) (by repeat first | exact .here _ _ | assumption | apply Pick.there))⟩ (fun w hI => q_load1 Try.isAgg25 rfl (hI.choose_spec.cell (by repeat first | exact .here _ _ | assumption | apply Pick.there) rfl)) ?_
  refine p_one 6 rfl (by kernel_rfl) ?_
  refine t_append_C Try.underlying25 (info_of Try.type5) rfl rfl rfl hS (by repeat first | exact .here _ _ | assumption | apply Pick.there) (hrd _ ((((((hS.pick (A := blkA g5 25 [.slice B m cm]) (by repeat first | exact .here _ _ | assumption | apply Pick.there)).pick (A := blkA g 157 _) (by repeat first | exact .here _ _ | assumption | apply Pick.there)).pick (A := packA _) (by repeat first | exact .here _ _ | assumption | apply Pick.there)).pick (A := rowC 5 _ _ _) (by repeat first | exact .here _ _ | assumption | apply Pick.there))).drop.drop.drop.drop)) rfl rfl rfl hm (by omega) (fun A9 c9 w hS => ?_)
  refine t_nil ?_
  refine ⟨.inr ⟨_, ((hS.pick (A := blkA g5 25 [.slice B m cm]) (by repeat first | exact .here _ _ | assumption | apply Pick.there)).pick (A := blkA g 157 (fcells F rw ++ tl)) (by repeat first | exact .here _ _ | assumption | apply Pick.there))⟩, ?_⟩
  refine p_q hap hsel 7 rfl rfl ⟨_, ((hS.pick (A := blkA g5 25 [.slice B m cm]) (by repeat first | exact .here _ _ | assumption | apply Pick.there)).pick (A := blkA g 157 (fcells F rw ++ tl)) (by repeat first | exact .here _ _ | assumption | apply Pick.there))⟩ (fun w hI => q_nilCheck rfl) ?_
  refine p_q hap hsel 8 rfl rfl ⟨_, ((hS.pick (A := blkA g5 25 [.slice B m cm]) (by repeat first | exact .here _ _ | assumption | apply Pick.there)).pick (A := blkA g 157 (fcells F rw ++ tl)) (by repeat first | exact .here _ _ | assumption | apply Pick.there))⟩ (fun w hI => q_fieldAddr 0 Try.runUnderlying154 rfl Try.sizeOf25 (by decide) rfl rfl) ?_
  refine p_one 9 rfl (by kernel_rfl) ?_
  refine t_store (v := (.slice _ _ _)) Try.sizeOf25 hS (by repeat first | exact .here _ _ | assumption | apply Pick.there) rfl rfl rfl rfl rfl (Nat.ble_eq_true_of_le (by show 0 + i * 2 + 0 + 1 ≤ (fcells F rw ++ _).length; rw [List.length_append, fcells_len]; omega)) (fun w hS => ?_)
  refine t_nil ?_
  refine ⟨.inl (by kernel_rfl), ?_⟩
  refine p_end (by kernel_rfl) ?_
  refine r_none rfl  ?_
  replace hS := (hS.pick (A := blkA g 157 _) (by repeat first | exact .here _ _ | assumption | apply Pick.there)).recast (congrArg (blkA g 157 ·) (st_b hi rfl))
  exact ⟨_, rfl, (((((hS.pick (A := packA _) (by repeat first | exact .here _ _ | assumption | apply Pick.there)).pick (A := rowC 5 A9 c9 _) (by repeat first | exact .here _ _ | assumption | apply Pick.there))).unfile hi (F i).2).pick (A := blkA g 157 _) (by repeat first | exact .here _ _ | assumption | apply Pick.there))⟩
set_option maxRecDepth 100000 in
theorem apc_calls {w : World} {R : List Asn} {g i : Nat} {F : Nat → List UInt8 × Nat} {rw : Rws} {d : Dk} (hi : i < 32) {g5 g3 g7 m cm : Nat} {B : Option Addr} {ys : List UInt8} (hS : St W w (blkA g 157 (fcells F rw ++ dtl d) :: packA (filesL F rw) :: blkA g5 25 [.slice B m cm] :: blkA g3 58 [.pointer (some ⟨g, 0, none⟩)] :: blkA g7 160 [.func (.func 90) #[] #[.pointer (some ⟨g5, 0, none⟩)]] :: R)) (hrd : ∀ w', St W w' R → RdB w' B ys) (hm : m = ys.length) (hF : FGood F) (hml : ys.length ≤ 1000000000) :
  Calls Try.prog 92 #[.pointer (some ⟨g, 0 + i * 2, none⟩), .pointer (some ⟨g5, 0, none⟩), .pointer (some ⟨g3, 0, none⟩), .pointer (some ⟨g7, 0, none⟩)] w fun e w' => ∃ rw' F', e = .returned (.int .i64 (apE F i ys.length)) ∧ (apE F i ys.length = 0 → F' = if d.fuse = 0 then apF F i ys else F) ∧ (apE F i ys.length ≠ 0 → F' = F) ∧ St W w' (blkA g 157 (fcells F' rw' ++ dtl d) :: packA (filesL F' rw') :: blkA g5 25 [.slice B m cm] :: blkA g3 58 [.pointer (some ⟨g, 0, none⟩)] :: blkA g7 160 [.func (.func 90) #[] #[.pointer (some ⟨g5, 0, none⟩)]] :: R) := by
  have hFi := hF i
  refine calls_of_wpE (args := [_, _, _, _]) Try.func92 rfl rfl rfl ?_
  refine c_seq ?_
  refine c_region ?_
  refine t_q (q_assign) ?_
  refine t_nil ?_
  refine c_seq ?_
  refine c_seq ?_
  refine c_draw ?_
  refine d_quiet 9 [0, 1, 2, 3, 4, 5, 6, 7, 8] [0, 1, 2, 3, 4, 5, 6, 7, 8] hS rfl (by kernel_rfl) (by kernel_rfl) (by kernel_rfl) (by kernel_rfl) (fun hap hsel w hS => ?_)
  refine p_q hap hsel 0 rfl rfl hS (fun w hS => q_mv (.pointer _) rfl) ?_
  refine p_q hap hsel 1 rfl rfl hS (fun w hS => q_nilCheck rfl) ?_
  refine p_q hap hsel 2 rfl rfl hS (fun w hS => q_fieldAddr 0 Try.runUnderlying154 rfl Try.sizeOf25 (by decide) rfl rfl) ?_
  refine p_q hap hsel 3 rfl rfl hS (fun w hS => q_load1 Try.isAgg25 rfl (hS.cell (by repeat first | exact .here _ _ | assumption | apply Pick.there) (fc_b hi))) ?_
  refine p_q hap hsel 4 rfl rfl hS (fun w hS => q_len_slice Try.runUnderlying25 rfl) ?_
  refine p_q hap hsel 5 rfl rfl hS (fun w hS => q_load1 Try.isAgg25 rfl (hS.cell (by repeat first | exact .here _ _ | assumption | apply Pick.there) rfl)) ?_
  refine p_q hap hsel 6 rfl rfl hS (fun w hS => q_len_slice Try.runUnderlying25 rfl) ?_
  refine p_q hap hsel 7 rfl rfl hS (fun w hS => q_add_i64 rfl rfl (by omega)) ?_
  refine p_q hap hsel 8 rfl rfl hS (fun w hS => q_gtr rfl rfl) ?_
  refine p_end (by kernel_rfl) ?_
  refine c_cond rfl ?_ ?_
  · intro hc2
    have hc2d := of_decide_eq_true hc2
    have hE : apE F i ys.length = 21 := by unfold apE; rw [if_pos (by omega)]
    refine c_seq ?_
    refine c_region ?_
    refine t_q (q_assign) ?_
    refine t_nil ?_
    refine c_ret ?_
    refine r_one rfl rfl ?_
    rw [hE]
    first
      | exact ⟨rw, F, rfl, (fun h => absurd h (by decide)), (fun _ => rfl), hS⟩
      | exact ⟨rw, F, rfl, (fun _ => by rw [if_neg hf0]), (fun h => absurd rfl h), hS⟩
      | exact ⟨rw', _, rfl, (fun _ => by rw [if_pos hf0]), (fun h => absurd rfl h), (((((hS.pick (A := blkA g7 160 [.func (.func 90) #[] #[.pointer (some ⟨g5, 0, none⟩)]]) (by repeat first | exact .here _ _ | assumption | apply Pick.there)).pick (A := blkA g3 58 [.pointer (some ⟨g, 0, none⟩)]) (by repeat first | exact .here _ _ | assumption | apply Pick.there)).pick (A := blkA g5 25 [.slice B m cm]) (by repeat first | exact .here _ _ | assumption | apply Pick.there)).pick (A := packA _) (by repeat first | exact .here _ _ | assumption | apply Pick.there)).pick (A := blkA g 157 _) (by repeat first | exact .here _ _ | assumption | apply Pick.there))⟩
  · intro hc2
    have hc2d := of_decide_eq_false hc2
    have hE : apE F i ys.length = 0 := by unfold apE; rw [if_neg (by omega)]
    refine c_skip ?_
    refine c_seq ?_
    refine c_seq ?_
    refine c_region ?_
    refine t_q (q_load1 Try.isAgg58 rfl (hS.cell (by repeat first | exact .here _ _ | assumption | apply Pick.there) rfl)) ?_
    refine t_q (q_nilCheck rfl) ?_
    refine t_q (q_fieldAddr 64 Try.runUnderlying157 rfl Try.sizeOf4 (by decide) rfl rfl) ?_
    refine t_q (q_load1 Try.isAgg4 rfl (hS.cell (by repeat first | exact .here _ _ | assumption | apply Pick.there) ((fc_tl 0).trans rfl))) ?_
    refine t_q (q_mv (.bool _) rfl) ?_
    refine t_case 19 rfl ?_ ?_
    · intro hg4
      refine t_yes rfl rfl hg4 ?_
      refine t_q (q_load1 Try.isAgg58 rfl (hS.cell (by repeat first | exact .here _ _ | assumption | apply Pick.there) rfl)) ?_
      refine t_yes rfl rfl hg4 ?_
      refine t_q (q_nilCheck rfl) ?_
      refine t_yes rfl rfl hg4 ?_
      refine t_q (q_fieldAddr 65 Try.runUnderlying157 rfl Try.sizeOf3 (by decide) rfl rfl) ?_
      refine t_yes rfl rfl hg4 ?_
      refine t_q (q_load1 Try.isAgg3 rfl (hS.cell (by repeat first | exact .here _ _ | assumption | apply Pick.there) ((fc_tl 1).trans rfl))) ?_
      refine t_yes rfl rfl hg4 ?_
      refine t_q (q_eql rfl rfl) ?_
      refine t_q (q_pick_t rfl hg4) ?_
      refine t_nil ?_
      refine c_cond rfl ?_ ?_
      · intro hc6
        have hc6d := of_decide_eq_true hc6
        have hf0 : d.fuse = 0 := by
          have h1 : 0 ≤ d.fuse := of_decide_eq_true (by assumption)
          omega
        refine c_region ?_
        refine t_q (q_load1 Try.isAgg160 rfl (hS.cell (by repeat first | exact .here _ _ | assumption | apply Pick.there) rfl)) ?_
        refine t_q (q_mv (.pointer _) rfl) ?_
        refine t_callv Try.call90 rfl (apa_calls hi ((((hS.pick (A := blkA g5 25 [.slice B m cm]) (by repeat first | exact .here _ _ | assumption | apply Pick.there)).pick (A := packA (filesL F rw)) (by repeat first | exact .here _ _ | assumption | apply Pick.there)).pick (A := blkA g 157 (fcells F rw ++ dtl d)) (by repeat first | exact .here _ _ | assumption | apply Pick.there))) (fun w h => hrd w h.drop.drop) hm (by omega)) rfl ?_
        rintro e w ⟨rw', rfl, hS⟩
        refine ⟨_, rfl, ?_⟩
        refine t_nil ?_
        refine c_seq ?_
        refine c_region ?_
        refine t_q (q_assign) ?_
        refine t_nil ?_
        refine c_ret ?_
        refine r_one rfl rfl ?_
        rw [hE]
        first
          | exact ⟨rw, F, rfl, (fun h => absurd h (by decide)), (fun _ => rfl), hS⟩
          | exact ⟨rw, F, rfl, (fun _ => by rw [if_neg hf0]), (fun h => absurd rfl h), hS⟩
          | exact ⟨rw', _, rfl, (fun _ => by rw [if_pos hf0]), (fun h => absurd rfl h), (((((hS.pick (A := blkA g7 160 [.func (.func 90) #[] #[.pointer (some ⟨g5, 0, none⟩)]]) (by repeat first | exact .here _ _ | assumption | apply Pick.there)).pick (A := blkA g3 58 [.pointer (some ⟨g, 0, none⟩)]) (by repeat first | exact .here _ _ | assumption | apply Pick.there)).pick (A := blkA g5 25 [.slice B m cm]) (by repeat first | exact .here _ _ | assumption | apply Pick.there)).pick (A := packA _) (by repeat first | exact .here _ _ | assumption | apply Pick.there)).pick (A := blkA g 157 _) (by repeat first | exact .here _ _ | assumption | apply Pick.there))⟩
      · intro hc6
        have hc6d := of_decide_eq_false hc6
        have hf0 : d.fuse ≠ 0 := by
          intro h0
          first
            | omega
            | (have h1 : ¬ 0 ≤ d.fuse := of_decide_eq_false (by assumption); omega)
        refine c_skip ?_
        refine c_seq ?_
        refine c_region ?_
        refine t_q (q_assign) ?_
        refine t_nil ?_
        refine c_ret ?_
        refine r_one rfl rfl ?_
        rw [hE]
        first
          | exact ⟨rw, F, rfl, (fun h => absurd h (by decide)), (fun _ => rfl), hS⟩
          | exact ⟨rw, F, rfl, (fun _ => by rw [if_neg hf0]), (fun h => absurd rfl h), hS⟩
          | exact ⟨rw', _, rfl, (fun _ => by rw [if_pos hf0]), (fun h => absurd rfl h), (((((hS.pick (A := blkA g7 160 [.func (.func 90) #[] #[.pointer (some ⟨g5, 0, none⟩)]]) (by repeat first | exact .here _ _ | assumption | apply Pick.there)).pick (A := blkA g3 58 [.pointer (some ⟨g, 0, none⟩)]) (by repeat first | exact .here _ _ | assumption | apply Pick.there)).pick (A := blkA g5 25 [.slice B m cm]) (by repeat first | exact .here _ _ | assumption | apply Pick.there)).pick (A := packA _) (by repeat first | exact .here _ _ | assumption | apply Pick.there)).pick (A := blkA g 157 _) (by repeat first | exact .here _ _ | assumption | apply Pick.there))⟩
    · intro hg4
      refine t_no rfl rfl (by rw [hg4]; decide) ?_
      refine t_no rfl rfl (by rw [hg4]; decide) ?_
      refine t_no rfl rfl (by rw [hg4]; decide) ?_
      refine t_no rfl rfl (by rw [hg4]; decide) ?_
      refine t_no rfl rfl (by rw [hg4]; decide) ?_
      refine t_q (q_pick_f rfl hg4) ?_
      refine t_nil ?_
      refine c_cond_f rfl rfl ?_
      have hf0 : d.fuse ≠ 0 := by
        intro h0
        first
          | omega
          | (have h1 : ¬ 0 ≤ d.fuse := of_decide_eq_false (by assumption); omega)
      refine c_skip ?_
      refine c_seq ?_
      refine c_region ?_
      refine t_q (q_assign) ?_
      refine t_nil ?_
      refine c_ret ?_
      refine r_one rfl rfl ?_
      rw [hE]
      first
        | exact ⟨rw, F, rfl, (fun h => absurd h (by decide)), (fun _ => rfl), hS⟩
        | exact ⟨rw, F, rfl, (fun _ => by rw [if_neg hf0]), (fun h => absurd rfl h), hS⟩
        | exact ⟨rw', _, rfl, (fun _ => by rw [if_pos hf0]), (fun h => absurd rfl h), (((((hS.pick (A := blkA g7 160 [.func (.func 90) #[] #[.pointer (some ⟨g5, 0, none⟩)]]) (by repeat first | exact .here _ _ | assumption | apply Pick.there)).pick (A := blkA g3 58 [.pointer (some ⟨g, 0, none⟩)]) (by repeat first | exact .here _ _ | assumption | apply Pick.there)).pick (A := blkA g5 25 [.slice B m cm]) (by repeat first | exact .here _ _ | assumption | apply Pick.there)).pick (A := packA _) (by repeat first | exact .here _ _ | assumption | apply Pick.there)).pick (A := blkA g 157 _) (by repeat first | exact .here _ _ | assumption | apply Pick.there))⟩
set_option maxRecDepth 100000 in
theorem always_calls {p : Option Addr} : Calls Try.prog 94 #[.pointer p] W fun e w' => e = .returned (.int .i64 0) ∧ St W w' [] := by
  have hS := St.init W
  refine calls_of_wpE (args := [_]) Try.func94 rfl rfl rfl ?_
  refine c_seq ?_
  refine c_region ?_
  refine t_q (q_assign) ?_
  refine t_nil ?_
  refine c_seq ?_
  refine c_region ?_
  refine t_q (q_assign) ?_
  refine t_nil ?_
  refine c_ret ?_
  refine r_one rfl rfl ?_
  exact ⟨rfl, hS⟩
set_option maxRecDepth 100000 in
theorem sya_calls {w : World} {R : List Asn} {g i : Nat} {F : Nat → List UInt8 × Nat} {rw : Rws} {tl : List Value} (hi : i < 32) (hS : St W w (blkA g 157 (fcells F rw ++ tl) :: packA (filesL F rw) :: R)) (hl : (F i).1.length ≤ 1048576) : Calls Try.prog 95 #[.pointer (some ⟨g, 0 + i * 2, none⟩)] w fun e w' => ∃ rw', e = .returned (.tuple #[]) ∧ St W w' (blkA g 157 (fcells (syF F i) rw' ++ tl) :: packA (filesL (syF F i) rw') :: R) := by
  refine calls_of_wpE (args := [_]) Try.func95 rfl rfl rfl ?_
  refine c_region ?_
  refine t_q (q_mv (.pointer _) rfl) ?_
  refine t_q (q_mv (.pointer _) rfl) ?_
  refine t_q (q_nilCheck rfl) ?_
  refine t_q (q_fieldAddr 0 Try.runUnderlying154 rfl Try.sizeOf25 (by decide) rfl rfl) ?_
  refine t_q (q_load1 Try.isAgg25 rfl (hS.cell (by repeat first | exact .here _ _ | assumption | apply Pick.there) (fc_b hi))) ?_
  refine t_q (q_len_slice Try.runUnderlying25 rfl) ?_
  refine t_q (q_nilCheck rfl) ?_
  refine t_q (q_fieldAddr 1 Try.runUnderlying154 rfl Try.sizeOf3 (by decide) rfl rfl) ?_
  refine t_store (v := (.int _ _)) Try.sizeOf3 hS (by repeat first | exact .here _ _ | assumption | apply Pick.there) rfl rfl rfl rfl rfl (Nat.ble_eq_true_of_le (by show 0 + i * 2 + 1 + 1 ≤ (fcells F rw ++ _).length; rw [List.length_append, fcells_len]; omega)) (fun w hS => ?_)
  refine t_nil ?_
  refine r_none rfl  ?_
  replace hS := (((hS.pick (A := packA (filesL F rw)) (by repeat first | exact .here _ _ | assumption | apply Pick.there))).file hi)
  replace hS := (hS.pick (A := blkA g 157 _) (by repeat first | exact .here _ _ | assumption | apply Pick.there)).recast (congrArg (blkA g 157 ·) (st_s hi rfl))
  exact ⟨_, rfl, (((((hS.pick (A := packA _) (by repeat first | exact .here _ _ | assumption | apply Pick.there)).pick (A := rowC 5 (rw i).1 (rw i).2 _) (by repeat first | exact .here _ _ | assumption | apply Pick.there))).unfile hi (F i).1.length).pick (A := blkA g 157 _) (by repeat first | exact .here _ _ | assumption | apply Pick.there))⟩
set_option maxRecDepth 100000 in
theorem cuc_calls {w : World} {R : List Asn} {g i : Nat} {F : Nat → List UInt8 × Nat} {rw : Rws} {tl : List Value} (hi : i < 32) {g5 : Nat} {n : Int} (hS : St W w (blkA g 157 (fcells F rw ++ tl) :: packA (filesL F rw) :: blkA g5 3 [.int .i64 n] :: R)) : Calls Try.prog 154 #[.pointer (some ⟨g, 0 + i * 2, none⟩), .pointer (some ⟨g5, 0, none⟩)] w fun e w' => e = .returned (.int .i64 (cuE F i n)) ∧ St W w' (blkA g 157 (fcells F rw ++ tl) :: packA (filesL F rw) :: blkA g5 3 [.int .i64 n] :: R) := by
  refine calls_of_wpE (args := [_, _]) Try.func154 rfl rfl rfl ?_
  refine c_seq ?_
  refine c_region ?_
  refine t_q (q_assign) ?_
  refine t_nil ?_
  refine c_seq ?_
  refine c_seq ?_
  refine c_draw ?_
  refine d_quiet 11 [0, 1, 2, 3, 4, 5, 6, 7, 8, 9, 10] [0, 1, 2, 3, 4, 5, 6, 7, 8, 9, 10] hS rfl (by kernel_rfl) (by kernel_rfl) (by kernel_rfl) (by kernel_rfl) (fun hap hsel w hS => ?_)
  refine p_q hap hsel 0 rfl rfl hS (fun w hS => q_load1 Try.isAgg3 rfl (hS.cell (by repeat first | exact .here _ _ | assumption | apply Pick.there) rfl)) ?_
  refine p_q hap hsel 1 rfl rfl hS (fun w hS => q_lss rfl rfl) ?_
  refine p_q hap hsel 2 rfl rfl hS (fun w hS => q_mv (.bool _) rfl) ?_
  refine p_case 6 rfl ?_ ?_
  · intro hg2
    have hg2d := of_decide_eq_true hg2
    refine p_no hap hsel 3 rfl rfl hS rfl rfl (by rw [hg2]; decide) ?_
    refine p_no hap hsel 4 rfl rfl hS rfl rfl (by rw [hg2]; decide) ?_
    refine p_no hap hsel 5 rfl rfl hS rfl rfl (by rw [hg2]; decide) ?_
    refine p_no hap hsel 6 rfl rfl hS rfl rfl (by rw [hg2]; decide) ?_
    refine p_no hap hsel 7 rfl rfl hS rfl rfl (by rw [hg2]; decide) ?_
    refine p_no hap hsel 8 rfl rfl hS rfl rfl (by rw [hg2]; decide) ?_
    refine p_no hap hsel 9 rfl rfl hS rfl rfl (by rw [hg2]; decide) ?_
    refine p_q hap hsel 10 rfl rfl hS (fun w hS => q_pick_t rfl hg2) ?_
    refine p_end (by kernel_rfl) ?_
    refine c_cond_t rfl rfl ?_
    have hE : cuE F i n = 2 := by unfold cuE; rw [if_pos (by omega)]
    refine c_seq ?_
    refine c_region ?_
    refine t_q (q_assign) ?_
    refine t_nil ?_
    refine c_ret ?_
    refine r_one rfl rfl ?_
    rw [hE]
    exact ⟨rfl, hS⟩
  · intro hg2
    have hg2d := of_decide_eq_false hg2
    refine p_yes hap hsel 3 rfl rfl hS rfl rfl hg2 (fun w hS => q_load1 Try.isAgg3 rfl (hS.cell (by repeat first | exact .here _ _ | assumption | apply Pick.there) rfl)) ?_
    refine p_yes hap hsel 4 rfl rfl hS rfl rfl hg2 (fun w hS => q_mv (.pointer _) rfl) ?_
    refine p_yes hap hsel 5 rfl rfl hS rfl rfl hg2 (fun w hS => q_nilCheck rfl) ?_
    refine p_yes hap hsel 6 rfl rfl hS rfl rfl hg2 (fun w hS => q_fieldAddr 0 Try.runUnderlying154 rfl Try.sizeOf25 (by decide) rfl rfl) ?_
    refine p_yes hap hsel 7 rfl rfl hS rfl rfl hg2 (fun w hS => q_load1 Try.isAgg25 rfl (hS.cell (by repeat first | exact .here _ _ | assumption | apply Pick.there) (fc_b hi))) ?_
    refine p_yes hap hsel 8 rfl rfl hS rfl rfl hg2 (fun w hS => q_len_slice Try.runUnderlying25 rfl) ?_
    refine p_yes hap hsel 9 rfl rfl hS rfl rfl hg2 (fun w hS => q_gtr rfl rfl) ?_
    refine p_q hap hsel 10 rfl rfl hS (fun w hS => q_pick_f rfl hg2) ?_
    refine p_end (by kernel_rfl) ?_
    refine c_cond rfl ?_ ?_
    · intro hc4
      have hc4d := of_decide_eq_true hc4
      have hE : cuE F i n = 2 := by unfold cuE; rw [if_pos (by omega)]
      refine c_seq ?_
      refine c_region ?_
      refine t_q (q_assign) ?_
      refine t_nil ?_
      refine c_ret ?_
      refine r_one rfl rfl ?_
      rw [hE]
      exact ⟨rfl, hS⟩
    · intro hc4
      have hc4d := of_decide_eq_false hc4
      have hE : cuE F i n = 0 := by unfold cuE; rw [if_neg (by omega)]
      refine c_skip ?_
      refine c_seq ?_
      refine c_region ?_
      refine t_q (q_assign) ?_
      refine t_nil ?_
      refine c_ret ?_
      refine r_one rfl rfl ?_
      rw [hE]
      exact ⟨rfl, hS⟩
set_option maxRecDepth 100000 in
theorem cua_calls {w : World} {R : List Asn} {g i : Nat} {F : Nat → List UInt8 × Nat} {rw : Rws} {tl : List Value} (hi : i < 32) {g5 : Nat} {n : Int} (hS : St W w (blkA g 157 (fcells F rw ++ tl) :: packA (filesL F rw) :: blkA g5 3 [.int .i64 n] :: R)) (hE : cuE F i n = 0) (hF : FGood F) : Calls Try.prog 155 #[.pointer (some ⟨g, 0 + i * 2, none⟩), .pointer (some ⟨g5, 0, none⟩)] w fun e w' => ∃ rw', e = .returned (.tuple #[]) ∧ St W w' (blkA g 157 (fcells (cuF F i n) rw' ++ tl) :: packA (filesL (cuF F i n) rw') :: blkA g5 3 [.int .i64 n] :: R) := by
  have hFi := hF i
  have hn : 0 ≤ n ∧ n ≤ ((F i).1.length : Int) := by
    unfold cuE at hE
    split at hE
    · cases hE
    · omega
  replace hS := ((hS.pick (A := packA (filesL F rw)) (by repeat first | exact .here _ _ | assumption | apply Pick.there))).file hi
  have hle := (hS.rowC_le (.here _ _)).1
  have hAd := hS.rowC_add (.here _ _)
  refine calls_of_wpE (args := [_, _]) Try.func155 rfl rfl rfl ?_
  refine c_draw ?_
  refine d_keep (blkA g5 3 [.int .i64 n]) 21 [0, 1, 2, 3, 4, 5, 6, 7, 8, 9, 10, 11, 12, 13, 14, 15, 16, 17, 18, 19, 20] [0, 2, 3, 4, 5, 6, 7, 8, 9, 10, 11, 12, 13, 14, 15, 16, 17, 1, 18, 19, 20] hS rfl (by kernel_rfl) (by kernel_rfl) (by kernel_rfl) (by kernel_rfl) (fun hap hsel w hS => ?_)
  refine p_q hap hsel 0 rfl rfl ⟨_, hS.pick (by repeat first | exact .here _ _ | assumption | apply Pick.there)⟩ (fun w hI => q_mv (.pointer _) rfl) ?_
  refine p_q hap hsel 1 rfl rfl ⟨_, hS.pick (by repeat first | exact .here _ _ | assumption | apply Pick.there)⟩ (fun w hI => q_mv (.pointer _) rfl) ?_
  refine p_q hap hsel 2 rfl rfl ⟨_, hS.pick (by repeat first | exact .here _ _ | assumption | apply Pick.there)⟩ (fun w hI => q_mv (.pointer _) rfl) ?_
  refine p_q hap hsel 3 rfl rfl ⟨_, hS.pick (by repeat first | exact .here _ _ | assumption | apply Pick.there)⟩ (fun w hI => q_nilCheck rfl) ?_
  refine p_q hap hsel 4 rfl rfl ⟨_, hS.pick (by repeat first | exact .here _ _ | assumption | apply Pick.there)⟩ (fun w hI => q_fieldAddr 0 Try.runUnderlying154 rfl Try.sizeOf25 (by decide) rfl rfl) ?_
  refine p_q hap hsel 6 rfl rfl ⟨_, hS.pick (by repeat first | exact .here _ _ | assumption | apply Pick.there)⟩ (fun w hI => q_load1 Try.isAgg3 rfl (hI.choose_spec.cell (by repeat first | exact .here _ _ | assumption | apply Pick.there) rfl)) ?_
  refine p_q hap hsel 7 rfl rfl ⟨_, hS.pick (by repeat first | exact .here _ _ | assumption | apply Pick.there)⟩ (fun w hI => q_load1 Try.isAgg3 rfl (hI.choose_spec.cell (by repeat first | exact .here _ _ | assumption | apply Pick.there) rfl)) ?_
  refine p_q hap hsel 9 rfl rfl ⟨_, hS.pick (by repeat first | exact .here _ _ | assumption | apply Pick.there)⟩ (fun w hI => q_mv (.pointer _) rfl) ?_
  refine p_q hap hsel 10 rfl rfl ⟨_, hS.pick (by repeat first | exact .here _ _ | assumption | apply Pick.there)⟩ (fun w hI => q_nilCheck rfl) ?_
  refine p_q hap hsel 11 rfl rfl ⟨_, hS.pick (by repeat first | exact .here _ _ | assumption | apply Pick.there)⟩ (fun w hI => q_fieldAddr 1 Try.runUnderlying154 rfl Try.sizeOf3 (by decide) rfl rfl) ?_
  refine p_q hap hsel 13 rfl rfl ⟨_, hS.pick (by repeat first | exact .here _ _ | assumption | apply Pick.there)⟩ (fun w hI => q_load1 Try.isAgg3 rfl (hI.choose_spec.cell (by repeat first | exact .here _ _ | assumption | apply Pick.there) rfl)) ?_
  refine p_two 5 12 rfl rfl (by kernel_rfl) ?_ ?_
  ·
    refine t_q (q_load1 Try.isAgg25 rfl (hS.cell (by repeat first | exact .here _ _ | assumption | apply Pick.there) (fc_b hi))) ?_
    refine t_nil ?_
    refine ⟨.inr ⟨_, hS.pick (by repeat first | exact .here _ _ | assumption | apply Pick.there)⟩, ?_⟩
    refine p_q hap hsel 8 rfl rfl ⟨_, hS.pick (by repeat first | exact .here _ _ | assumption | apply Pick.there)⟩ (fun w hI => q_slice3 Try.runUnderlying25 Try.sizeOf5 rfl rfl rfl hn.1 (by omega) hAd) ?_
    refine p_one 12 rfl (by kernel_rfl) ?_
    refine t_q (q_load1 Try.isAgg3 rfl (hS.cell (by repeat first | exact .here _ _ | assumption | apply Pick.there) (fc_s hi))) ?_
    refine t_nil ?_
    refine ⟨.inr ⟨_, hS.pick (by repeat first | exact .here _ _ | assumption | apply Pick.there)⟩, ?_⟩
    refine p_q hap hsel 14 rfl rfl ⟨_, hS.pick (by repeat first | exact .here _ _ | assumption | apply Pick.there)⟩ (fun w hI => q_min rfl rfl) ?_
    refine p_q hap hsel 15 rfl rfl ⟨_, hS.pick (by repeat first | exact .here _ _ | assumption | apply Pick.there)⟩ (fun w hI => q_nilCheck rfl) ?_
    refine p_q hap hsel 16 rfl rfl ⟨_, hS.pick (by repeat first | exact .here _ _ | assumption | apply Pick.there)⟩ (fun w hI => q_fieldAddr 0 Try.runUnderlying154 rfl Try.sizeOf25 (by decide) rfl rfl) ?_
    refine p_one 17 rfl (by kernel_rfl) ?_
    refine t_store (v := (.slice _ _ _)) Try.sizeOf25 hS (by repeat first | exact .here _ _ | assumption | apply Pick.there) rfl rfl rfl rfl rfl (Nat.ble_eq_true_of_le (by show 0 + i * 2 + 0 + 1 ≤ (fcells F rw ++ _).length; rw [List.length_append, fcells_len]; omega)) (fun w hS => ?_)
    refine t_nil ?_
    refine ⟨.inr ⟨_, hS.pick (by repeat first | exact .here _ _ | assumption | apply Pick.there)⟩, ?_⟩
    refine p_q hap hsel 18 rfl rfl ⟨_, hS.pick (by repeat first | exact .here _ _ | assumption | apply Pick.there)⟩ (fun w hI => q_nilCheck rfl) ?_
    refine p_q hap hsel 19 rfl rfl ⟨_, hS.pick (by repeat first | exact .here _ _ | assumption | apply Pick.there)⟩ (fun w hI => q_fieldAddr 1 Try.runUnderlying154 rfl Try.sizeOf3 (by decide) rfl rfl) ?_
    refine p_one 20 rfl (by kernel_rfl) ?_
    refine t_store (v := (.int _ _)) Try.sizeOf3 hS (by repeat first | exact .here _ _ | assumption | apply Pick.there) rfl rfl rfl rfl rfl (Nat.ble_eq_true_of_le (by show 0 + i * 2 + 1 + 1 ≤ (setN _ _ _).length; rw [setN_length, List.length_append, fcells_len]; omega)) (fun w hS => ?_)
    refine t_nil ?_
    refine ⟨.inl (by kernel_rfl), ?_⟩
    refine p_end (by kernel_rfl) ?_
    refine r_none rfl  ?_
    have e2 : min ((F i).2 : Int) n = ((min (F i).2 n.toNat : Nat) : Int) := by omega
    have hl1 : n.toNat = ((F i).1.take n.toNat).length := by rw [List.length_take]; omega
    rw [e2] at hS
    replace hS := (hS.pick (A := blkA g 157 _) (by repeat first | exact .here _ _ | assumption | apply Pick.there)).recast (congrArg (blkA g 157 ·) (show _ = fcells (cuF F i n) (updR rw i ((rw i).1, n.toNat)) ++ tl from st_2 hi hl1 rfl))
    have hcut := (((hS.pick (A := packA _) (by repeat first | exact .here _ _ | assumption | apply Pick.there)).pick (A := rowC 5 _ _ _) (by repeat first | exact .here _ _ | assumption | apply Pick.there))).rowC_cut (m := n.toNat) (by omega)
    exact ⟨_, rfl, ((hcut.unfile hi (min (F i).2 n.toNat)).pick (A := blkA g 157 _) (by repeat first | exact .here _ _ | assumption | apply Pick.there))⟩
  ·
    refine t_q (q_load1 Try.isAgg3 rfl (hS.cell (by repeat first | exact .here _ _ | assumption | apply Pick.there) (fc_s hi))) ?_
    refine t_nil ?_
    refine ⟨.inr ⟨_, hS.pick (by repeat first | exact .here _ _ | assumption | apply Pick.there)⟩, ?_⟩
    refine p_q hap hsel 14 rfl rfl ⟨_, hS.pick (by repeat first | exact .here _ _ | assumption | apply Pick.there)⟩ (fun w hI => q_min rfl rfl) ?_
    refine p_one 5 rfl (by kernel_rfl) ?_
    refine t_q (q_load1 Try.isAgg25 rfl (hS.cell (by repeat first | exact .here _ _ | assumption | apply Pick.there) (fc_b hi))) ?_
    refine t_nil ?_
    refine ⟨.inr ⟨_, hS.pick (by repeat first | exact .here _ _ | assumption | apply Pick.there)⟩, ?_⟩
    refine p_q hap hsel 8 rfl rfl ⟨_, hS.pick (by repeat first | exact .here _ _ | assumption | apply Pick.there)⟩ (fun w hI => q_slice3 Try.runUnderlying25 Try.sizeOf5 rfl rfl rfl hn.1 (by omega) hAd) ?_
    refine p_q hap hsel 15 rfl rfl ⟨_, hS.pick (by repeat first | exact .here _ _ | assumption | apply Pick.there)⟩ (fun w hI => q_nilCheck rfl) ?_
    refine p_q hap hsel 16 rfl rfl ⟨_, hS.pick (by repeat first | exact .here _ _ | assumption | apply Pick.there)⟩ (fun w hI => q_fieldAddr 0 Try.runUnderlying154 rfl Try.sizeOf25 (by decide) rfl rfl) ?_
    refine p_one 17 rfl (by kernel_rfl) ?_
    refine t_store (v := (.slice _ _ _)) Try.sizeOf25 hS (by repeat first | exact .here _ _ | assumption | apply Pick.there) rfl rfl rfl rfl rfl (Nat.ble_eq_true_of_le (by show 0 + i * 2 + 0 + 1 ≤ (fcells F rw ++ _).length; rw [List.length_append, fcells_len]; omega)) (fun w hS => ?_)
    refine t_nil ?_
    refine ⟨.inr ⟨_, hS.pick (by repeat first | exact .here _ _ | assumption | apply Pick.there)⟩, ?_⟩
    refine p_q hap hsel 18 rfl rfl ⟨_, hS.pick (by repeat first | exact .here _ _ | assumption | apply Pick.there)⟩ (fun w hI => q_nilCheck rfl) ?_
    refine p_q hap hsel 19 rfl rfl ⟨_, hS.pick (by repeat first | exact .here _ _ | assumption | apply Pick.there)⟩ (fun w hI => q_fieldAddr 1 Try.runUnderlying154 rfl Try.sizeOf3 (by decide) rfl rfl) ?_
    refine p_one 20 rfl (by kernel_rfl) ?_
    refine t_store (v := (.int _ _)) Try.sizeOf3 hS (by repeat first | exact .here _ _ | assumption | apply Pick.there) rfl rfl rfl rfl rfl (Nat.ble_eq_true_of_le (by show 0 + i * 2 + 1 + 1 ≤ (setN _ _ _).length; rw [setN_length, List.length_append, fcells_len]; omega)) (fun w hS => ?_)
    refine t_nil ?_
    refine ⟨.inl (by kernel_rfl), ?_⟩
    refine p_end (by kernel_rfl) ?_
    refine r_none rfl  ?_
    have e2 : min ((F i).2 : Int) n = ((min (F i).2 n.toNat : Nat) : Int) := by omega
    have hl1 : n.toNat = ((F i).1.take n.toNat).length := by rw [List.length_take]; omega
    rw [e2] at hS
    replace hS := (hS.pick (A := blkA g 157 _) (by repeat first | exact .here _ _ | assumption | apply Pick.there)).recast (congrArg (blkA g 157 ·) (show _ = fcells (cuF F i n) (updR rw i ((rw i).1, n.toNat)) ++ tl from st_2 hi hl1 rfl))
    have hcut := (((hS.pick (A := packA _) (by repeat first | exact .here _ _ | assumption | apply Pick.there)).pick (A := rowC 5 _ _ _) (by repeat first | exact .here _ _ | assumption | apply Pick.there))).rowC_cut (m := n.toNat) (by omega)
    exact ⟨_, rfl, ((hcut.unfile hi (min (F i).2 n.toNat)).pick (A := blkA g 157 _) (by repeat first | exact .here _ _ | assumption | apply Pick.there))⟩
set_option maxRecDepth 100000 in
theorem dra_calls {w : World} {R : List Asn} {g i : Nat} {F : Nat → List UInt8 × Nat} {rw : Rws} {tl : List Value} (hi : i < 32) (hS : St W w (blkA g 157 (fcells F rw ++ tl) :: packA (filesL F rw) :: R)) : Calls Try.prog 133 #[.pointer (some ⟨g, 0 + i * 2, none⟩)] w fun e w' => ∃ rw', e = .returned (.tuple #[]) ∧ St W w' (blkA g 157 (fcells (drF F i) rw' ++ tl) :: packA (filesL (drF F i) rw') :: R) := by
  refine calls_of_wpE (args := [_]) Try.func133 rfl rfl rfl ?_
  refine c_region ?_
  refine t_q (q_mv (.pointer _) rfl) ?_
  refine t_q (q_build (qs := [(0, 1), (1, 1)]) [(.slice _ _ _), (.int _ _)] Try.zeroValue154 Try.runUnderlying154 ⟨rfl, Try.sizeOf25, rfl, Try.sizeOf3, trivial⟩ rfl rfl) ?_
  refine t_q (q_nilCheck rfl) ?_
  refine t_store (v := (.agg _)) Try.sizeOf154 hS (by repeat first | exact .here _ _ | assumption | apply Pick.there) rfl rfl rfl rfl rfl (Nat.ble_eq_true_of_le (by show 0 + i * 2 + 2 ≤ (fcells F rw ++ _).length; rw [List.length_append, fcells_len]; omega)) (fun w hS => ?_)
  refine t_nil ?_
  refine r_none rfl  ?_
  replace hS := (((hS.pick (A := packA (filesL F rw)) (by repeat first | exact .here _ _ | assumption | apply Pick.there))).file hi).drop
  replace hS := (hS.pick (A := blkA g 157 _) (by repeat first | exact .here _ _ | assumption | apply Pick.there)).recast (congrArg (blkA g 157 ·) (st_2 (n := 0) (b := []) hi rfl rfl))
  exact ⟨_, rfl, ((((hS.pick (A := packA _) (by repeat first | exact .here _ _ | assumption | apply Pick.there))).rowC_nil 5).unfile hi 0).pick (A := blkA g 157 _) (by repeat first | exact .here _ _ | assumption | apply Pick.there)⟩
end Go.Proofs.Ytlppgpidakfnlaa
