/- The laws on the codec: what they need. -/
import Derived.Test.YtcikoealneldkaaCe
import Derived.Test.YtcikoealneldkaaOp
namespace Go.Proofs.Ytcikoealneldkaa
open Go Go.RowKit Go.Lib
variable {W : World}
structure Item where
  kind : Int
  n : Int
  i : Int
  is : Bool
  s : ByteArray
  most : Int
instance : Inhabited Item := ⟨⟨0, 0, 0, false, ByteArray.empty, 0⟩⟩
def Item.cells (x : Item) : List Value := [.int .i64 x.kind, .int .u64 x.n, .int .i64 x.i, .bool x.is, .string x.s, .int .i64 x.most]
structure Item.Ok (w : World) (x : Item) : Prop where
  kind : -9223372036854775808 ≤ x.kind ∧ x.kind ≤ 9223372036854775807
  n : 0 ≤ x.n ∧ x.n < 18446744073709551616
  i : -9223372036854775808 ≤ x.i ∧ x.i ≤ 9223372036854775807
  is : True
  s : x.s.size ≤ maxLen
  most : -9223372036854775808 ≤ x.most ∧ x.most ≤ 9223372036854775807
set_option maxRecDepth 100000 in
theorem opn_Item {H : Type} {enc : TypeId × Value → H} {w : World} : Opn enc Try.prog w 52 Item.cells (Item.Ok w) := fun _ _ _ h => by
  obtain ⟨parts, rfl, hl, hf⟩ := opn_parts Try.underlying52 (by kernel_rfl) (by kernel_rfl) h
  match parts, hl with
  | [p0, p1, p2, p3, p4, p5], _ =>
    obtain ⟨f0, x0, h0⟩ := hf 0 _ rfl
    obtain ⟨a0, e0, k0⟩ := (opn_i64 Try.underlying3) _ _ _ h0
    replace e0 : p0 = _ := e0
    obtain ⟨f1, x1, h1⟩ := hf 1 _ rfl
    obtain ⟨a1, e1, k1⟩ := (opn_u64 Try.underlying24) _ _ _ h1
    replace e1 : p1 = _ := e1
    obtain ⟨f2, x2, h2⟩ := hf 2 _ rfl
    obtain ⟨a2, e2, k2⟩ := (opn_i64 Try.underlying2) _ _ _ h2
    replace e2 : p2 = _ := e2
    obtain ⟨f3, x3, h3⟩ := hf 3 _ rfl
    obtain ⟨a3, e3, k3⟩ := (opn_bool Try.underlying4) _ _ _ h3
    replace e3 : p3 = _ := e3
    obtain ⟨f4, x4, h4⟩ := hf 4 _ rfl
    obtain ⟨a4, e4, k4⟩ := (opn_string Try.underlying9) _ _ _ h4
    replace e4 : p4 = _ := e4
    obtain ⟨f5, x5, h5⟩ := hf 5 _ rfl
    obtain ⟨a5, e5, k5⟩ := (opn_i64 Try.underlying3) _ _ _ h5
    replace e5 : p5 = _ := e5
    subst e0 e1 e2 e3 e4 e5
    exact ⟨⟨a0, a1, a2, a3, a4, a5⟩, by simp [Item.cells], ⟨k0, k1, k2, k3, k4, k5⟩⟩
def itf (l : List Item) (i : Nat) : List Value := (l.getD i default).cells
def RdIt (w : World) (A : Option Addr) (l : List Item) : Prop := Rd w 6 A l.length (itf l)
def lightB (l : List Item) : Bool := l.all (fun x => decide (x.s.size ≤ 1000)) && decide (l.length ≤ 60)
theorem getD_mem {α : Type} {l : List α} {j : Nat} {d : α} (h : j < l.length) : l.getD j d ∈ l := by
  rw [List.getD_eq_getElem?_getD, List.getElem?_eq_getElem h]; exact List.getElem_mem h
theorem light_at {l : List Item} (h : lightB l = true) {j : Nat} (hj : j < l.length) : (l.getD j default).s.size ≤ 1000 := by
  unfold lightB at h
  simp only [Bool.and_eq_true, List.all_eq_true, decide_eq_true_eq] at h
  exact h.1 _ (getD_mem hj)
theorem light_len {l : List Item} (h : lightB l = true) : l.length ≤ 60 := by
  unfold lightB at h
  simp only [Bool.and_eq_true, List.all_eq_true, decide_eq_true_eq] at h
  exact h.2
theorem light_no {l : List Item} {j : Nat} (hj : j < l.length) (h : 1000 < (l.getD j default).s.size) : lightB l = false := by
  cases hb : lightB l with
  | false => rfl
  | true => have := light_at hb hj; omega
theorem light_yes {l : List Item} (h : ∀ j, j < l.length → (l.getD j default).s.size ≤ 1000) : lightB l = decide (l.length ≤ 60) := by
  unfold lightB
  have : (l.all fun x => decide (x.s.size ≤ 1000)) = true := by
    rw [List.all_eq_true]
    intro x hx
    obtain ⟨j, hj, rfl⟩ := List.mem_iff_getElem.1 hx
    have := h j hj
    rw [List.getD_eq_getElem?_getD, List.getElem?_eq_getElem hj] at this
    exact decide_eq_true this
  rw [this, Bool.true_and]
theorem enc_300 : enc 300 = [172, 2] := by
  rw [enc_big (by decide), enc_small (by decide)]; rfl

set_option maxRecDepth 100000 in
theorem light_calls {A : Option Addr} {c : Nat} {l : List Item} (hl : RdIt W A l) (hm : l.length ≤ maxLen) :
  Calls Try.prog 40 #[.slice A l.length c] W fun e w' => e = .returned (.bool (lightB l)) ∧ St W w' [] := by
  have hS := St.init W
  unfold maxLen at hm
  refine calls_of_wpE (args := [_]) Try.func40 rfl rfl rfl ?_
  refine c_seq ?_
  refine c_region ?_
  refine t_q (q_assign) ?_
  refine t_nil ?_
  refine c_seq ?_
  refine c_seq ?_
  refine c_region ?_
  refine t_q (q_mv (.slice _ _ _) rfl) ?_
  refine t_q (q_len_slice Try.runUnderlying46 rfl) ?_
  refine t_q (q_move) ?_
  refine t_nil ?_
  refine c_block ?_
  refine c_loop [2, 4, 7, 8, 9, 10, 11, 12, 13, 14, 15] (fun k σ w => ∃ j : Nat, σ 7 = .int .i64 (j : Int) ∧ j ≤ l.length ∧ l.length - j ≤ k ∧ (∀ i, i < j → (l.getD i default).s.size ≤ 1000) ∧ St W w []) (l.length) rfl (⟨0, rfl, by omega, by omega, fun i h => absurd h (by omega), hS⟩) ?_
  skip
  rintro k σ w ⟨j, h7, hj, hk, hall, hS⟩
  refine c_know 7 h7 ?_
  clear h7
  refine c_seq ?_
  refine c_region ?_
  refine t_q (q_lss rfl rfl) ?_
  refine t_nil ?_
  refine c_seq ?_
  refine c_cond rfl ?_ ?_
  · intro hc2
    have hc2d := of_decide_eq_true hc2
    refine c_skip ?_
    refine c_seq ?_
    refine c_block ?_
    refine c_seq ?_
    refine c_region ?_
    first | refine t_index_nat Try.runUnderlying46 Try.sizeOf52 (hl.st hS) rfl rfl (by omega) (fun ad3 hl3 hx3 => ?_) | refine t_index Try.runUnderlying46 Try.sizeOf52 (hl.st hS) rfl rfl (by omega) (fun ad3 hl3 hx3 => ?_)
    refine t_q (q_loadN Try.isAgg52 Try.sizeOf52 rfl hl3 hx3) ?_
    refine t_alloc Try.zeroValue52 rfl hS (fun g4 w hS => ?_)
    refine t_store (v := (.agg _)) Try.sizeOf52 hS (by repeat first | exact .here _ _ | assumption | apply Pick.there) rfl rfl rfl rfl rfl rfl (fun w hS => ?_)
    refine t_nil ?_
    refine c_seq ?_
    refine c_region ?_
    refine t_q (q_fieldAddr 4 Try.runUnderlying52 rfl Try.sizeOf9 (by decide) rfl rfl) ?_
    refine t_q (q_load1 Try.isAgg9 rfl (hS.cell (by repeat first | exact .here _ _ | assumption | apply Pick.there) rfl)) ?_
    refine t_q (q_len_string Try.runUnderlying9 rfl) ?_
    refine t_q (q_gtr rfl rfl) ?_
    refine t_nil ?_
    refine c_cond rfl ?_ ?_
    · intro hc5
      have hc5d := of_decide_eq_true hc5
      have hno := light_no (l := l) (j := j) (by omega) (by omega)
      refine c_seq ?_
      refine c_region ?_
      refine t_q (q_assign) ?_
      refine t_nil ?_
      refine c_ret ?_
      refine r_one rfl rfl ?_
      first
        | exact ⟨congrArg (fun b => Ending.returned (.bool b)) hno.symm, hS.nil⟩
        | exact ⟨congrArg (fun b => Ending.returned (.bool b)) (by rw [light_yes fun i hi => hall i (by omega), decide_eq_decide]; omega), hS⟩
    · intro hc5
      have hc5d := of_decide_eq_false hc5
      refine c_skip ?_
      refine c_region ?_
      refine t_q (q_add_i64 rfl rfl (by omega)) ?_
      refine t_q (q_mv (.int _ _) rfl) ?_
      refine t_nil ?_
      exact ⟨k - 1, by omega, j + 1, rfl, by omega, by omega, fun i hi => (by
        rcases Nat.lt_or_ge i j with h | h
        · exact hall i h
        · have : i = j := by omega
          subst this; omega), hS.nil⟩
  · intro hc2
    have hc2d := of_decide_eq_false hc2
    refine c_exit ?_
    refine ite_t rfl ?_
    refine c_seq ?_
    refine c_region ?_
    refine t_q (q_mv (.slice _ _ _) rfl) ?_
    refine t_q (q_len_slice Try.runUnderlying46 rfl) ?_
    refine t_q (q_leq rfl rfl) ?_
    refine t_q (q_as (.bool _) rfl) ?_
    refine t_nil ?_
    refine c_ret ?_
    refine r_one rfl rfl ?_
    first
      | exact ⟨congrArg (fun b => Ending.returned (.bool b)) hno.symm, hS.nil⟩
      | exact ⟨congrArg (fun b => Ending.returned (.bool b)) (by rw [light_yes fun i hi => hall i (by omega), decide_eq_decide]; omega), hS⟩
set_option maxRecDepth 100000 in
theorem lives_calls : Calls Try.prog 41 #[] W fun e w' => e = .returned (.bool true) ∧ St W w' [] := by
  have hS := St.init W
  refine calls_of_wpE (args := []) Try.func41 rfl rfl rfl ?_
  refine c_seq ?_
  refine c_region ?_
  refine t_q (q_assign) ?_
  refine t_nil ?_
  refine c_seq ?_
  refine c_region ?_
  refine t_alloc Try.zeroValue50 rfl hS (fun g1 w hS => ?_)
  replace hS := hS.wr0
  refine t_nil ?_
  refine c_seq ?_
  refine c_region ?_
  refine t_build_ints [_] Try.runUnderlying191 Try.sizeOf24 Try.zeroValue24 rfl rfl (by decide) hS (fun g4 w hS => ?_)
  refine t_call Try.call42 (Nat_calls hS (by repeat first | exact .here _ _ | assumption | apply Pick.there) (fun _ h => h.rowInts (.here _ _) rfl) (by simp) (by simp) (by simp)) rfl ?_
  rintro e w ⟨rfl, hS⟩
  refine ⟨_, rfl, ?_⟩
  replace hS := hS.swap.recast (congrArg (wrA g1) (show _ = [172, 2] from by unfold encs; simp only [List.flatMap_cons, List.flatMap_nil]; rw [show (300 : Int).toNat = 300 from rfl, enc_300]; rfl))
  refine t_nil ?_
  refine c_seq ?_
  refine c_region ?_
  refine t_build_ints [_] Try.runUnderlying192 Try.sizeOf2 Try.zeroValue2 rfl rfl (by decide) hS (fun g6 w hS => ?_)
  refine t_call Try.call44 (Int_calls hS (by repeat first | exact .here _ _ | assumption | apply Pick.there) (fun _ h => h.rowInts (.here _ _) rfl) (by simp) (by simp) (by simp)) rfl ?_
  rintro e w ⟨rfl, hS⟩
  refine ⟨_, rfl, ?_⟩
  replace hS := hS.swap.recast (congrArg (wrA g1) (show _ = [172, 2, 1] from by unfold ints; simp only [List.flatMap_cons, List.flatMap_nil]; rw [show zig (-1) = 1 from rfl, enc_small (by decide)]; rfl))
  refine t_nil ?_
  refine c_seq ?_
  refine c_region ?_
  refine t_build_bytes [_, _] Try.runUnderlying48 Try.sizeOf5 Try.zeroValue5 rfl rfl (by simp; try omega) (by decide) hS (fun g8 w hS => ?_)
  have hb := hS.rowRd (bs := [128, 0]) (.here _ _) rfl
  have hT := St.init w
  refine t_call Try.call58 (Open_calls (bs := [128, 0]) hT hb (by decide)) rfl ?_
  rintro e w ⟨g, rfl, hT⟩
  refine ⟨_, rfl, ?_⟩
  refine t_q (q_as (.pointer _) rfl) ?_
  refine t_nil ?_
  refine c_seq ?_
  refine c_region ?_
  refine t_q (q_mv (.pointer _) rfl) ?_
  refine t_call Try.call59 (rNat hT (by repeat first | exact .here _ _ | assumption | apply Pick.there) (by omega) (by omega)) rfl ?_
  rintro e w ⟨rfl, hT⟩
  refine ⟨_, rfl, ?_⟩
  refine t_q (q_as (.int _ _) rfl) ?_
  refine t_nil ?_
  refine c_seq ?_
  have hS : St W w (_ :: _) := hS.lift hT
  refine c_region ?_
  refine t_call Try.call50 (Bytes_calls hS (by repeat first | exact .here _ _ | assumption | apply Pick.there) (by simp)) rfl ?_
  rintro e w ⟨A12, c12, rfl, hc12, hS⟩
  refine ⟨_, rfl, ?_⟩
  refine t_q (q_string Try.runUnderlying48 Try.runUnderlying5 Try.runUnderlying9 rfl rfl (hS.rowRd (bs := [172, 2, 1]) (.here _ _) rfl)) ?_
  refine t_q (q_cast (v' := .bool true) (q_eql_string rfl rfl) (rfl)) ?_
  refine t_q (q_mv (.bool _) rfl) ?_
  refine t_yes rfl rfl rfl ?_
  refine t_q (q_mv (.int _ _) rfl) ?_
  refine t_yes rfl rfl rfl ?_
  refine t_q (q_cast (v' := .bool true) (q_eql rfl rfl) (rfl)) ?_
  refine t_q (q_pick_t rfl rfl) ?_
  refine t_q (q_mv (.bool _) rfl) ?_
  refine t_yes rfl rfl rfl ?_
  refine t_q (q_mv (.pointer _) rfl) ?_
  refine t_yes rfl rfl rfl ?_
  refine t_call Try.call70 (rBad hS (by repeat first | exact .here _ _ | assumption | apply Pick.there)) rfl ?_
  rintro e w ⟨rfl, hS⟩
  refine ⟨_, rfl, ?_⟩
  refine t_q (q_pick_t rfl rfl) ?_
  refine t_q (q_as (.bool _) rfl) ?_
  refine t_nil ?_
  refine c_ret ?_
  refine r_one rfl rfl ?_
  exact ⟨rfl, hS.nil⟩
end Go.Proofs.Ytcikoealneldkaa
