/- Disks: the program's calls. -/
import Derived.Test.YtlppgpidakfnlaaDd
namespace Go.Proofs.Ytlppgpidakfnlaa
open Go Go.RowKit Go.Lib
variable {W : World}
theorem tn_o {d : Dk} {i c : Int} {F : Nat → List UInt8 × Nat} (ho : i < 0 ∨ 32 ≤ i) : tnE d i c = (if d.gone = true then 70 else 2) ∧ tnD d i c F = d ∧ apD d i c F = d := by
  cases h : d.gone with
  | true => rw [if_pos rfl]; exact tn_gone h
  | false => rw [if_neg (by decide)]; exact tn_out h ho
theorem turnA_calls {w : World} {R : List Asn} {g : Nat} {d : Dk} {i : Int} {g5 g3 g7 m cm : Nat} {B : Option Addr} {ys : List UInt8} (hS : St W w (dskA g d :: blkA g5 25 [.slice B m cm] :: blkA g3 58 [.pointer (some ⟨g, 0, none⟩)] :: blkA g7 160 [.func (.func 90) #[] #[.pointer (some ⟨g5, 0, none⟩)]] :: R)) (hG : DGood d) (hc : d.calls ≤ 1000000000) (hrd : ∀ w', St W w' R → RdB w' B ys) (hm : m = ys.length) (hml : ys.length ≤ 1000000000) :
  Calls Try.prog 91 #[.pointer (some ⟨g, 0, none⟩), .int .i64 i, .func (.func 92) #[] #[.pointer (some ⟨g5, 0, none⟩), .pointer (some ⟨g3, 0, none⟩), .pointer (some ⟨g7, 0, none⟩)], .func (.func 90) #[] #[.pointer (some ⟨g5, 0, none⟩)]] w fun e w' => e = .returned (.int .i64 (tnE d i (apE d.F i.toNat ys.length))) ∧ St W w' (dskA g (apD d i (apE d.F i.toNat ys.length) (apF d.F i.toNat ys)) :: blkA g5 25 [.slice B m cm] :: blkA g3 58 [.pointer (some ⟨g, 0, none⟩)] :: blkA g7 160 [.func (.func 90) #[] #[.pointer (some ⟨g5, 0, none⟩)]] :: R) := by
  by_cases ho : i < 0 ∨ 32 ≤ i
  · refine (turn_out hS (.here _ _) ho).mono fun e w' hh => ?_
    obtain ⟨e1, e2, e3⟩ := tn_o (d := d) (c := apE d.F i.toNat ys.length) (F := apF d.F i.toNat ys) ho
    rw [e1, e3]
    exact hh
  · exact turnA_in hS (by omega) hG hc hrd hm hml
theorem turnS_calls {w : World} {R : List Asn} {g : Nat} {d : Dk} {i : Int}  (hS : St W w (dskA g d :: R)) (hG : DGood d) (hc : d.calls ≤ 1000000000)  :
  Calls Try.prog 91 #[.pointer (some ⟨g, 0, none⟩), .int .i64 i, .func (.func 94) #[] #[], .func (.func 95) #[] #[]] w fun e w' => e = .returned (.int .i64 (tnE d i (0))) ∧ St W w' (dskA g (tnD d i (0) (syF d.F i.toNat)) :: R) := by
  by_cases ho : i < 0 ∨ 32 ≤ i
  · refine (turn_out hS (.here _ _) ho).mono fun e w' hh => ?_
    obtain ⟨e1, e2, e3⟩ := tn_o (d := d) (c := 0) (F := syF d.F i.toNat) ho
    rw [e1, e2]
    exact hh
  · exact turnS_in hS (by omega) hG hc
theorem turnD_calls {w : World} {R : List Asn} {g : Nat} {d : Dk} {i : Int}  (hS : St W w (dskA g d :: R)) (hG : DGood d) (hc : d.calls ≤ 1000000000)  :
  Calls Try.prog 91 #[.pointer (some ⟨g, 0, none⟩), .int .i64 i, .func (.func 94) #[] #[], .func (.func 133) #[] #[]] w fun e w' => e = .returned (.int .i64 (tnE d i (0))) ∧ St W w' (dskA g (tnD d i (0) (drF d.F i.toNat)) :: R) := by
  by_cases ho : i < 0 ∨ 32 ≤ i
  · refine (turn_out hS (.here _ _) ho).mono fun e w' hh => ?_
    obtain ⟨e1, e2, e3⟩ := tn_o (d := d) (c := 0) (F := drF d.F i.toNat) ho
    rw [e1, e2]
    exact hh
  · exact turnD_in hS (by omega) hG hc
theorem turnC_calls {w : World} {R : List Asn} {g : Nat} {d : Dk} {i : Int} {g5 : Nat} {n : Int} (hS : St W w (dskA g d :: blkA g5 3 [.int .i64 n] :: R)) (hG : DGood d) (hc : d.calls ≤ 1000000000)  :
  Calls Try.prog 91 #[.pointer (some ⟨g, 0, none⟩), .int .i64 i, .func (.func 154) #[] #[.pointer (some ⟨g5, 0, none⟩)], .func (.func 155) #[] #[.pointer (some ⟨g5, 0, none⟩)]] w fun e w' => e = .returned (.int .i64 (tnE d i (cuE d.F i.toNat n))) ∧ St W w' (dskA g (tnD d i (cuE d.F i.toNat n) (cuF d.F i.toNat n)) :: blkA g5 3 [.int .i64 n] :: R) := by
  by_cases ho : i < 0 ∨ 32 ≤ i
  · refine (turn_out hS (.here _ _) ho).mono fun e w' hh => ?_
    obtain ⟨e1, e2, e3⟩ := tn_o (d := d) (c := cuE d.F i.toNat n) (F := cuF d.F i.toNat n) ho
    rw [e1, e2]
    exact hh
  · exact turnC_in hS (by omega) hG hc
def rdL (d : Dk) (i : Int) : List UInt8 := if i < 0 ∨ 32 ≤ i then [] else (d.F i.toNat).1
set_option maxRecDepth 100000 in
theorem dnew_calls {w : World} {L : List Asn} (hS : St W w L) : Calls Try.prog 32 #[] w fun e w' => ∃ g, e = .returned (.pointer (some ⟨g, 0, none⟩)) ∧ St W w' (dskA g D0 :: L) := by
  refine calls_of_wpE (args := []) Try.func32 rfl rfl rfl ?_
  refine c_seq ?_
  refine c_region ?_
  refine t_q (q_assign) ?_
  refine t_nil ?_
  refine c_seq ?_
  refine c_region ?_
  refine t_q (q_build (qs := [(0, 64), (64, 1), (65, 1), (66, 1), (67, 1)]) (fcells F0 rw0 ++ dtl D0) Try.zeroValue157 Try.runUnderlying157 ⟨rfl, Try.sizeOf155, rfl, Try.sizeOf4, rfl, Try.sizeOf3, rfl, Try.sizeOf4, rfl, Try.sizeOf3, trivial⟩ rfl rfl) ?_
  refine t_box (v := (.agg _)) rfl rfl hS (fun g2 w hS => ?_)
  refine t_q (q_as (.pointer _) rfl) ?_
  refine t_nil ?_
  refine c_ret ?_
  refine r_one rfl rfl ?_
  exact ⟨g2, rfl, St.undsk (d := D0) (rw := rw0) ((files_zero hS).pick (A := blkA g2 157 _) (.there (.here _ _)))⟩
theorem dtl_eq (d : Dk) : dtl d = ([.bool (decide (0 ≤ d.fuse)), .int .i64 (d.fuse.toNat : Int), .bool d.gone, .int .i64 d.calls] : List Value) := rfl
attribute [local irreducible] blkA rowA rdrA rowC packA fcells dtl dskA
set_option maxRecDepth 100000 in
theorem app_nil {i : Int} {B : Option Addr} {m cm : Nat} : Calls Try.prog 39 #[.pointer none, .int .i64 i, .slice B m cm] W fun e w' => e = .returned (.int .i64 1) ∧ St W w' [] := by
  have hS := St.init W
  refine calls_of_wpE (args := [_, _, _]) Try.func39 rfl rfl rfl ?_
  refine c_seq ?_
  refine c_region ?_
  refine t_box (v := (.pointer _)) rfl rfl hS (fun g3 w hS => ?_)
  refine t_box (v := (.slice _ _ _)) rfl rfl hS (fun g5 w hS => ?_)
  refine t_q (q_assign) ?_
  refine t_nil ?_
  refine c_seq ?_
  refine c_region ?_
  refine t_q (q_makeFunc rfl) ?_
  refine t_alloc Try.zeroValue160 rfl hS (fun g7 w hS => ?_)
  refine t_store (v := (.func _ _ _)) Try.sizeOf160 hS (by repeat first | exact .here _ _ | assumption | apply Pick.there) rfl rfl rfl rfl rfl rfl (fun w hS => ?_)
  refine t_nil ?_
  refine c_seq ?_
  refine c_region ?_
  refine t_q (q_load1 Try.isAgg58 rfl (hS.cell (by repeat first | exact .here _ _ | assumption | apply Pick.there) rfl)) ?_
  refine t_q (q_mv (.int _ _) rfl) ?_
  refine t_q (q_makeFunc rfl) ?_
  refine t_q (q_load1 Try.isAgg160 rfl (hS.cell (by repeat first | exact .here _ _ | assumption | apply Pick.there) rfl)) ?_
  refine t_call Try.call91 (turn_nil) rfl ?_
  rintro e w ⟨rfl, hT⟩
  refine ⟨_, rfl, ?_⟩
  replace hS := hS.after hT
  refine t_q (q_as (.int _ _) rfl) ?_
  refine t_nil ?_
  refine c_seq ?_
  refine c_region ?_
  refine t_q (q_mv (.int _ _) rfl) ?_
  refine t_q (q_as (.int _ _) rfl) ?_
  refine t_nil ?_
  refine c_ret ?_
  refine r_one rfl rfl ?_
  exact ⟨rfl, hS.nil⟩
set_option maxRecDepth 100000 in
theorem app_calls {w : World} {L R : List Asn} {g : Nat} {d : Dk} (hS : St W w L) (pk : Pick L (dskA g d) R) {i : Int} {B : Option Addr} {m cm : Nat} {ys : List UInt8} (hG : DGood d) (hc : d.calls ≤ 1000000000) (hrd : ∀ w', St W w' R → RdB w' B ys) (hm : m = ys.length) (hml : ys.length ≤ 1000000000) : Calls Try.prog 39 #[.pointer (some ⟨g, 0, none⟩), .int .i64 i, .slice B m cm] w fun e w' => e = .returned (.int .i64 (tnE d i (apE d.F i.toNat ys.length))) ∧ St W w' (dskA g (apD d i (apE d.F i.toNat ys.length) (apF d.F i.toNat ys)) :: R) := by
  replace hS := hS.pick pk
  clear pk
  refine calls_of_wpE (args := [_, _, _]) Try.func39 rfl rfl rfl ?_
  refine c_seq ?_
  refine c_region ?_
  refine t_box (v := (.pointer _)) rfl rfl hS (fun g3 w hS => ?_)
  refine t_box (v := (.slice _ _ _)) rfl rfl hS (fun g5 w hS => ?_)
  refine t_q (q_assign) ?_
  refine t_nil ?_
  refine c_seq ?_
  refine c_region ?_
  refine t_q (q_makeFunc rfl) ?_
  refine t_alloc Try.zeroValue160 rfl hS (fun g7 w hS => ?_)
  refine t_store (v := (.func _ _ _)) Try.sizeOf160 hS (by repeat first | exact .here _ _ | assumption | apply Pick.there) rfl rfl rfl rfl rfl rfl (fun w hS => ?_)
  replace hS := hS.recast (show blkA g7 160 _ = blkA g7 160 [.func (.func 90) #[] #[.pointer (some ⟨g5, 0, none⟩)]] from rfl)
  refine t_nil ?_
  refine c_seq ?_
  refine c_region ?_
  refine t_q (q_load1 Try.isAgg58 rfl (hS.cell (by repeat first | exact .here _ _ | assumption | apply Pick.there) rfl)) ?_
  refine t_q (q_mv (.int _ _) rfl) ?_
  refine t_q (q_makeFunc rfl) ?_
  refine t_q (q_load1 Try.isAgg160 rfl (hS.cell (by repeat first | exact .here _ _ | assumption | apply Pick.there) rfl)) ?_
  refine t_call Try.call91 (turnA_calls (((((hS.pick (A := blkA g7 160 [.func (.func 90) #[] #[.pointer (some ⟨g5, 0, none⟩)]]) (by repeat first | exact .here _ _ | assumption | apply Pick.there)).pick (A := blkA g3 58 [.pointer (some ⟨g, 0, none⟩)]) (by repeat first | exact .here _ _ | assumption | apply Pick.there)).pick (A := blkA g5 25 [.slice B m cm]) (by repeat first | exact .here _ _ | assumption | apply Pick.there)).pick (A := dskA g d) (by repeat first | exact .here _ _ | assumption | apply Pick.there))) hG hc hrd hm hml) rfl ?_
  rintro e w ⟨rfl, hS⟩
  refine ⟨_, rfl, ?_⟩
  refine t_q (q_as (.int _ _) rfl) ?_
  refine t_nil ?_
  refine c_seq ?_
  refine c_region ?_
  refine t_q (q_mv (.int _ _) rfl) ?_
  refine t_q (q_as (.int _ _) rfl) ?_
  refine t_nil ?_
  refine c_ret ?_
  refine r_one rfl rfl ?_
  exact ⟨rfl, ((((hS.pick (A := blkA g7 160 [.func (.func 90) #[] #[.pointer (some ⟨g5, 0, none⟩)]]) (by repeat first | exact .here _ _ | assumption | apply Pick.there)).pick (A := blkA g3 58 [.pointer (some ⟨g, 0, none⟩)]) (by repeat first | exact .here _ _ | assumption | apply Pick.there)).pick (A := blkA g5 25 [.slice B m cm]) (by repeat first | exact .here _ _ | assumption | apply Pick.there))).drop.drop.drop⟩
set_option maxRecDepth 100000 in
theorem syn_nil {i : Int} : Calls Try.prog 43 #[.pointer none, .int .i64 i] W fun e w' => e = .returned (.int .i64 1) ∧ St W w' [] := by
  have hS := St.init W
  refine calls_of_wpE (args := [_, _]) Try.func43 rfl rfl rfl ?_
  refine c_seq ?_
  refine c_region ?_
  refine t_q (q_assign) ?_
  refine t_nil ?_
  refine c_seq ?_
  refine c_region ?_
  refine t_q (q_mv (.pointer _) rfl) ?_
  refine t_q (q_mv (.int _ _) rfl) ?_
  refine t_call Try.call91 (turn_nil) rfl ?_
  rintro e w ⟨rfl, hT⟩
  refine ⟨_, rfl, ?_⟩
  replace hS := hS.after hT
  refine t_q (q_as (.int _ _) rfl) ?_
  refine t_nil ?_
  refine c_ret ?_
  refine r_one rfl rfl ?_
  exact ⟨rfl, hS.nil⟩
set_option maxRecDepth 100000 in
theorem syn_calls {w : World} {L R : List Asn} {g : Nat} {d : Dk} (hS : St W w L) (pk : Pick L (dskA g d) R) {i : Int} (hG : DGood d) (hc : d.calls ≤ 1000000000) : Calls Try.prog 43 #[.pointer (some ⟨g, 0, none⟩), .int .i64 i] w fun e w' => e = .returned (.int .i64 (tnE d i (0))) ∧ St W w' (dskA g (tnD d i (0) (syF d.F i.toNat)) :: R) := by
  replace hS := hS.pick pk
  clear pk
  refine calls_of_wpE (args := [_, _]) Try.func43 rfl rfl rfl ?_
  refine c_seq ?_
  refine c_region ?_
  refine t_q (q_assign) ?_
  refine t_nil ?_
  refine c_seq ?_
  refine c_region ?_
  refine t_q (q_mv (.pointer _) rfl) ?_
  refine t_q (q_mv (.int _ _) rfl) ?_
  refine t_call Try.call91 (turnS_calls ((hS.pick (A := dskA g d) (by repeat first | exact .here _ _ | assumption | apply Pick.there))) hG hc) rfl ?_
  rintro e w ⟨rfl, hS⟩
  refine ⟨_, rfl, ?_⟩
  refine t_q (q_as (.int _ _) rfl) ?_
  refine t_nil ?_
  refine c_ret ?_
  refine r_one rfl rfl ?_
  exact ⟨rfl, hS⟩
set_option maxRecDepth 100000 in
theorem drp_nil {i : Int} : Calls Try.prog 85 #[.pointer none, .int .i64 i] W fun e w' => e = .returned (.int .i64 1) ∧ St W w' [] := by
  have hS := St.init W
  refine calls_of_wpE (args := [_, _]) Try.func85 rfl rfl rfl ?_
  refine c_seq ?_
  refine c_region ?_
  refine t_q (q_assign) ?_
  refine t_nil ?_
  refine c_seq ?_
  refine c_region ?_
  refine t_q (q_mv (.pointer _) rfl) ?_
  refine t_q (q_mv (.int _ _) rfl) ?_
  refine t_call Try.call91 (turn_nil) rfl ?_
  rintro e w ⟨rfl, hT⟩
  refine ⟨_, rfl, ?_⟩
  replace hS := hS.after hT
  refine t_q (q_as (.int _ _) rfl) ?_
  refine t_nil ?_
  refine c_ret ?_
  refine r_one rfl rfl ?_
  exact ⟨rfl, hS.nil⟩
set_option maxRecDepth 100000 in
theorem drp_calls {w : World} {L R : List Asn} {g : Nat} {d : Dk} (hS : St W w L) (pk : Pick L (dskA g d) R) {i : Int} (hG : DGood d) (hc : d.calls ≤ 1000000000) : Calls Try.prog 85 #[.pointer (some ⟨g, 0, none⟩), .int .i64 i] w fun e w' => e = .returned (.int .i64 (tnE d i (0))) ∧ St W w' (dskA g (tnD d i (0) (drF d.F i.toNat)) :: R) := by
  replace hS := hS.pick pk
  clear pk
  refine calls_of_wpE (args := [_, _]) Try.func85 rfl rfl rfl ?_
  refine c_seq ?_
  refine c_region ?_
  refine t_q (q_assign) ?_
  refine t_nil ?_
  refine c_seq ?_
  refine c_region ?_
  refine t_q (q_mv (.pointer _) rfl) ?_
  refine t_q (q_mv (.int _ _) rfl) ?_
  refine t_call Try.call91 (turnD_calls ((hS.pick (A := dskA g d) (by repeat first | exact .here _ _ | assumption | apply Pick.there))) hG hc) rfl ?_
  rintro e w ⟨rfl, hS⟩
  refine ⟨_, rfl, ?_⟩
  refine t_q (q_as (.int _ _) rfl) ?_
  refine t_nil ?_
  refine c_ret ?_
  refine r_one rfl rfl ?_
  exact ⟨rfl, hS⟩
set_option maxRecDepth 100000 in
theorem cut_nil {i : Int} {n : Int} : Calls Try.prog 136 #[.pointer none, .int .i64 i, .int .i64 n] W fun e w' => e = .returned (.int .i64 1) ∧ St W w' [] := by
  have hS := St.init W
  refine calls_of_wpE (args := [_, _, _]) Try.func136 rfl rfl rfl ?_
  refine c_seq ?_
  refine c_region ?_
  refine t_box (v := (.int _ _)) rfl rfl hS (fun g5 w hS => ?_)
  refine t_q (q_assign) ?_
  refine t_nil ?_
  refine c_seq ?_
  refine c_region ?_
  refine t_q (q_mv (.pointer _) rfl) ?_
  refine t_q (q_mv (.int _ _) rfl) ?_
  refine t_q (q_makeFunc rfl) ?_
  refine t_q (q_makeFunc rfl) ?_
  refine t_call Try.call91 (turn_nil) rfl ?_
  rintro e w ⟨rfl, hT⟩
  refine ⟨_, rfl, ?_⟩
  replace hS := hS.after hT
  refine t_q (q_as (.int _ _) rfl) ?_
  refine t_nil ?_
  refine c_ret ?_
  refine r_one rfl rfl ?_
  exact ⟨rfl, hS.nil⟩
set_option maxRecDepth 100000 in
theorem cut_calls {w : World} {L R : List Asn} {g : Nat} {d : Dk} (hS : St W w L) (pk : Pick L (dskA g d) R) {i : Int} {n : Int} (hG : DGood d) (hc : d.calls ≤ 1000000000) : Calls Try.prog 136 #[.pointer (some ⟨g, 0, none⟩), .int .i64 i, .int .i64 n] w fun e w' => e = .returned (.int .i64 (tnE d i (cuE d.F i.toNat n))) ∧ St W w' (dskA g (tnD d i (cuE d.F i.toNat n) (cuF d.F i.toNat n)) :: R) := by
  replace hS := hS.pick pk
  clear pk
  refine calls_of_wpE (args := [_, _, _]) Try.func136 rfl rfl rfl ?_
  refine c_seq ?_
  refine c_region ?_
  refine t_box (v := (.int _ _)) rfl rfl hS (fun g5 w hS => ?_)
  refine t_q (q_assign) ?_
  refine t_nil ?_
  refine c_seq ?_
  refine c_region ?_
  refine t_q (q_mv (.pointer _) rfl) ?_
  refine t_q (q_mv (.int _ _) rfl) ?_
  refine t_q (q_makeFunc rfl) ?_
  refine t_q (q_makeFunc rfl) ?_
  refine t_call Try.call91 (turnC_calls (((hS.pick (A := blkA g5 3 [.int .i64 n]) (by repeat first | exact .here _ _ | assumption | apply Pick.there)).pick (A := dskA g d) (by repeat first | exact .here _ _ | assumption | apply Pick.there))) hG hc) rfl ?_
  rintro e w ⟨rfl, hS⟩
  refine ⟨_, rfl, ?_⟩
  refine t_q (q_as (.int _ _) rfl) ?_
  refine t_nil ?_
  refine c_ret ?_
  refine r_one rfl rfl ?_
  exact ⟨rfl, ((hS.pick (A := blkA g5 3 [.int .i64 n]) (by repeat first | exact .here _ _ | assumption | apply Pick.there))).drop⟩
set_option maxRecDepth 100000 in
theorem read_nil {i : Int} : Calls Try.prog 52 #[.pointer none, .int .i64 i] W fun e w' => e = .returned (.slice none 0 0) ∧ St W w' [] := by
  have hS := St.init W
  refine calls_of_wpE (args := [_, _]) Try.func52 rfl rfl rfl ?_
  refine c_seq ?_
  refine c_region ?_
  refine t_q (q_assign) ?_
  refine t_nil ?_
  refine c_seq ?_
  refine c_region ?_
  refine t_q (q_mv (.pointer _) rfl) ?_
  refine t_q (q_mv (.int _ _) rfl) ?_
  refine t_call Try.call93 (at_nil) rfl ?_
  rintro e w ⟨rfl, hT⟩
  refine ⟨_, rfl, ?_⟩
  replace hS := hS.after hT
  refine t_q (q_as (.pointer _) rfl) ?_
  refine t_nil ?_
  refine c_seq ?_
  refine c_seq ?_
  refine c_region ?_
  refine t_q (q_mv (.pointer _) rfl) ?_
  refine t_q (q_eql_ptr_nil Try.runUnderlying159 rfl rfl) ?_
  refine t_nil ?_
  refine c_cond_t rfl rfl ?_
  refine c_seq ?_
  refine c_region ?_
  refine t_q (q_assign) ?_
  refine t_nil ?_
  refine c_ret ?_
  refine r_one rfl rfl ?_
  exact ⟨rfl, hS⟩
set_option maxRecDepth 100000 in
theorem read_out {g : Nat} {i : Int} (ho : i < 0 ∨ 32 ≤ i) : Calls Try.prog 52 #[.pointer (some ⟨g, 0, none⟩), .int .i64 i] W fun e w' => e = .returned (.slice none 0 0) ∧ St W w' [] := by
  have hS := St.init W
  refine calls_of_wpE (args := [_, _]) Try.func52 rfl rfl rfl ?_
  refine c_seq ?_
  refine c_region ?_
  refine t_q (q_assign) ?_
  refine t_nil ?_
  refine c_seq ?_
  refine c_region ?_
  refine t_q (q_mv (.pointer _) rfl) ?_
  refine t_q (q_mv (.int _ _) rfl) ?_
  refine t_call Try.call93 (at_out ho) rfl ?_
  rintro e w ⟨rfl, hT⟩
  refine ⟨_, rfl, ?_⟩
  replace hS := hS.after hT
  refine t_q (q_as (.pointer _) rfl) ?_
  refine t_nil ?_
  refine c_seq ?_
  refine c_seq ?_
  refine c_region ?_
  refine t_q (q_mv (.pointer _) rfl) ?_
  refine t_q (q_eql_ptr_nil Try.runUnderlying159 rfl rfl) ?_
  refine t_nil ?_
  refine c_cond_t rfl rfl ?_
  refine c_seq ?_
  refine c_region ?_
  refine t_q (q_assign) ?_
  refine t_nil ?_
  refine c_ret ?_
  refine r_one rfl rfl ?_
  exact ⟨rfl, hS⟩
set_option maxRecDepth 100000 in
theorem read_in {w : World} {L R : List Asn} {g : Nat} {d : Dk} (hS : St W w L) (pk : Pick L (dskA g d) R) {i : Int} (hG : DGood d) (ho : 0 ≤ i ∧ i < 32) : Calls Try.prog 52 #[.pointer (some ⟨g, 0, none⟩), .int .i64 i] w fun e w' => ∃ A' c', e = .returned (.slice A' ((d.F i.toNat).1).length c') ∧ St W w' (rowA 5 1 A' ((d.F i.toNat).1).length c' (((d.F i.toNat).1).map bv) :: dskA g d :: R) := by
  replace hS := hS.pick pk
  clear pk
  obtain ⟨rw, hS⟩ := hS.dsk
  have hi : i.toNat < 32 := by omega
  have hlen := hG.len i.toNat
  refine calls_of_wpE (args := [_, _]) Try.func52 rfl rfl rfl ?_
  refine c_seq ?_
  refine c_region ?_
  refine t_q (q_assign) ?_
  refine t_nil ?_
  refine c_seq ?_
  refine c_region ?_
  refine t_q (q_mv (.pointer _) rfl) ?_
  refine t_q (q_mv (.int _ _) rfl) ?_
  refine t_call Try.call93 (at_in ho) rfl ?_
  rintro e w ⟨rfl, hT⟩
  refine ⟨_, rfl, ?_⟩
  replace hS := hS.after hT
  refine t_q (q_as (.pointer _) rfl) ?_
  refine t_nil ?_
  refine c_seq ?_
  refine c_seq ?_
  refine c_region ?_
  refine t_q (q_mv (.pointer _) rfl) ?_
  refine t_q (q_eql_ptr_nil Try.runUnderlying159 rfl rfl) ?_
  refine t_nil ?_
  refine c_cond_f rfl rfl ?_
  refine c_skip ?_
  refine c_seq ?_
  replace hS := (hS.pick (A := packA _) (by repeat first | exact .here _ _ | assumption | apply Pick.there)).file hi
  refine c_region ?_
  refine t_q (q_mv (.pointer _) rfl) ?_
  refine t_q (q_nilCheck rfl) ?_
  refine t_q (q_fieldAddr 0 Try.runUnderlying154 rfl Try.sizeOf25 (by decide) rfl rfl) ?_
  refine t_q (q_load1 Try.isAgg25 rfl (hS.cell (by repeat first | exact .here _ _ | assumption | apply Pick.there) (fc_b hi))) ?_
  refine t_call Try.call88 (clone_calls (hS.rowC_rd (by repeat first | exact .here _ _ | assumption | apply Pick.there)) (by omega)) rfl ?_
  rintro e w ⟨A15, c15, rfl, hT15⟩
  refine ⟨_, rfl, ?_⟩
  have hS : St W w (_ :: _) := hS.lift hT15
  refine t_q (q_as (.slice _ _ _) rfl) ?_
  refine t_nil ?_
  refine c_ret ?_
  refine r_one rfl rfl ?_
  exact ⟨A15, c15, rfl, (((((hS.pick (A := packA _) (by repeat first | exact .here _ _ | assumption | apply Pick.there)).pick (A := rowC 5 _ _ _) (by repeat first | exact .here _ _ | assumption | apply Pick.there))).unfile0 hi).pick (A := blkA g 157 _) (by repeat first | exact .here _ _ | assumption | apply Pick.there)).undsk.pick (A := rowA 5 1 A15 _ c15 _) (by repeat first | exact .here _ _ | assumption | apply Pick.there)⟩
set_option maxRecDepth 100000 in
theorem size_nil {i : Int} : Calls Try.prog 40 #[.pointer none, .int .i64 i] W fun e w' => e = .returned (.int .i64 0) ∧ St W w' [] := by
  have hS := St.init W
  refine calls_of_wpE (args := [_, _]) Try.func40 rfl rfl rfl ?_
  refine c_seq ?_
  refine c_region ?_
  refine t_q (q_assign) ?_
  refine t_nil ?_
  refine c_seq ?_
  refine c_seq ?_
  refine c_region ?_
  refine t_q (q_mv (.pointer _) rfl) ?_
  refine t_q (q_mv (.int _ _) rfl) ?_
  refine t_call Try.call93 (at_nil) rfl ?_
  rintro e w ⟨rfl, hT⟩
  refine ⟨_, rfl, ?_⟩
  replace hS := hS.after hT
  refine t_q (q_as (.pointer _) rfl) ?_
  refine t_nil ?_
  refine c_seq ?_
  refine c_region ?_
  refine t_q (q_mv (.pointer _) rfl) ?_
  refine t_q (q_neq_ptr_nil Try.runUnderlying159 rfl rfl) ?_
  refine t_nil ?_
  refine c_cond_f rfl rfl ?_
  refine c_skip ?_
  refine c_seq ?_
  refine c_region ?_
  refine t_q (q_assign) ?_
  refine t_nil ?_
  refine c_ret ?_
  refine r_one rfl rfl ?_
  exact ⟨rfl, hS⟩
set_option maxRecDepth 100000 in
theorem size_out {g : Nat} {i : Int} (ho : i < 0 ∨ 32 ≤ i) : Calls Try.prog 40 #[.pointer (some ⟨g, 0, none⟩), .int .i64 i] W fun e w' => e = .returned (.int .i64 0) ∧ St W w' [] := by
  have hS := St.init W
  refine calls_of_wpE (args := [_, _]) Try.func40 rfl rfl rfl ?_
  refine c_seq ?_
  refine c_region ?_
  refine t_q (q_assign) ?_
  refine t_nil ?_
  refine c_seq ?_
  refine c_seq ?_
  refine c_region ?_
  refine t_q (q_mv (.pointer _) rfl) ?_
  refine t_q (q_mv (.int _ _) rfl) ?_
  refine t_call Try.call93 (at_out ho) rfl ?_
  rintro e w ⟨rfl, hT⟩
  refine ⟨_, rfl, ?_⟩
  replace hS := hS.after hT
  refine t_q (q_as (.pointer _) rfl) ?_
  refine t_nil ?_
  refine c_seq ?_
  refine c_region ?_
  refine t_q (q_mv (.pointer _) rfl) ?_
  refine t_q (q_neq_ptr_nil Try.runUnderlying159 rfl rfl) ?_
  refine t_nil ?_
  refine c_cond_f rfl rfl ?_
  refine c_skip ?_
  refine c_seq ?_
  refine c_region ?_
  refine t_q (q_assign) ?_
  refine t_nil ?_
  refine c_ret ?_
  refine r_one rfl rfl ?_
  exact ⟨rfl, hS⟩
set_option maxRecDepth 100000 in
theorem size_in {w : World} {L R : List Asn} {g : Nat} {d : Dk} (hS : St W w L) (pk : Pick L (dskA g d) R) {i : Int} (hG : DGood d) (ho : 0 ≤ i ∧ i < 32) : Calls Try.prog 40 #[.pointer (some ⟨g, 0, none⟩), .int .i64 i] w fun e w' => e = .returned (.int .i64 ((d.F i.toNat).1.length : Int)) ∧ St W w' (dskA g d :: R) := by
  replace hS := hS.pick pk
  clear pk
  obtain ⟨rw, hS⟩ := hS.dsk
  have hi : i.toNat < 32 := by omega
  refine calls_of_wpE (args := [_, _]) Try.func40 rfl rfl rfl ?_
  refine c_seq ?_
  refine c_region ?_
  refine t_q (q_assign) ?_
  refine t_nil ?_
  refine c_seq ?_
  refine c_seq ?_
  refine c_region ?_
  refine t_q (q_mv (.pointer _) rfl) ?_
  refine t_q (q_mv (.int _ _) rfl) ?_
  refine t_call Try.call93 (at_in ho) rfl ?_
  rintro e w ⟨rfl, hT⟩
  refine ⟨_, rfl, ?_⟩
  replace hS := hS.after hT
  refine t_q (q_as (.pointer _) rfl) ?_
  refine t_nil ?_
  refine c_seq ?_
  refine c_region ?_
  refine t_q (q_mv (.pointer _) rfl) ?_
  refine t_q (q_neq_ptr_nil Try.runUnderlying159 rfl rfl) ?_
  refine t_nil ?_
  refine c_cond_t rfl rfl ?_
  refine c_seq ?_
  refine c_region ?_
  refine t_q (q_mv (.pointer _) rfl) ?_
  refine t_q (q_nilCheck rfl) ?_
  refine t_q (q_fieldAddr 0 Try.runUnderlying154 rfl Try.sizeOf25 (by decide) rfl rfl) ?_
  refine t_q (q_load1 Try.isAgg25 rfl (hS.cell (by repeat first | exact .here _ _ | assumption | apply Pick.there) (fc_b hi))) ?_
  refine t_q (q_len_slice Try.runUnderlying25 rfl) ?_
  refine t_q (q_as (.int _ _) rfl) ?_
  refine t_nil ?_
  refine c_ret ?_
  refine r_one rfl rfl ?_
  exact ⟨rfl, hS.undsk⟩
set_option maxRecDepth 100000 in
theorem sync_nil {i : Int} : Calls Try.prog 41 #[.pointer none, .int .i64 i] W fun e w' => e = .returned (.int .i64 0) ∧ St W w' [] := by
  have hS := St.init W
  refine calls_of_wpE (args := [_, _]) Try.func41 rfl rfl rfl ?_
  refine c_seq ?_
  refine c_region ?_
  refine t_q (q_assign) ?_
  refine t_nil ?_
  refine c_seq ?_
  refine c_seq ?_
  refine c_region ?_
  refine t_q (q_mv (.pointer _) rfl) ?_
  refine t_q (q_mv (.int _ _) rfl) ?_
  refine t_call Try.call93 (at_nil) rfl ?_
  rintro e w ⟨rfl, hT⟩
  refine ⟨_, rfl, ?_⟩
  replace hS := hS.after hT
  refine t_q (q_as (.pointer _) rfl) ?_
  refine t_nil ?_
  refine c_seq ?_
  refine c_region ?_
  refine t_q (q_mv (.pointer _) rfl) ?_
  refine t_q (q_neq_ptr_nil Try.runUnderlying159 rfl rfl) ?_
  refine t_nil ?_
  refine c_cond_f rfl rfl ?_
  refine c_skip ?_
  refine c_seq ?_
  refine c_region ?_
  refine t_q (q_assign) ?_
  refine t_nil ?_
  refine c_ret ?_
  refine r_one rfl rfl ?_
  exact ⟨rfl, hS⟩
set_option maxRecDepth 100000 in
theorem sync_out {g : Nat} {i : Int} (ho : i < 0 ∨ 32 ≤ i) : Calls Try.prog 41 #[.pointer (some ⟨g, 0, none⟩), .int .i64 i] W fun e w' => e = .returned (.int .i64 0) ∧ St W w' [] := by
  have hS := St.init W
  refine calls_of_wpE (args := [_, _]) Try.func41 rfl rfl rfl ?_
  refine c_seq ?_
  refine c_region ?_
  refine t_q (q_assign) ?_
  refine t_nil ?_
  refine c_seq ?_
  refine c_seq ?_
  refine c_region ?_
  refine t_q (q_mv (.pointer _) rfl) ?_
  refine t_q (q_mv (.int _ _) rfl) ?_
  refine t_call Try.call93 (at_out ho) rfl ?_
  rintro e w ⟨rfl, hT⟩
  refine ⟨_, rfl, ?_⟩
  replace hS := hS.after hT
  refine t_q (q_as (.pointer _) rfl) ?_
  refine t_nil ?_
  refine c_seq ?_
  refine c_region ?_
  refine t_q (q_mv (.pointer _) rfl) ?_
  refine t_q (q_neq_ptr_nil Try.runUnderlying159 rfl rfl) ?_
  refine t_nil ?_
  refine c_cond_f rfl rfl ?_
  refine c_skip ?_
  refine c_seq ?_
  refine c_region ?_
  refine t_q (q_assign) ?_
  refine t_nil ?_
  refine c_ret ?_
  refine r_one rfl rfl ?_
  exact ⟨rfl, hS⟩
set_option maxRecDepth 100000 in
theorem sync_in {w : World} {L R : List Asn} {g : Nat} {d : Dk} (hS : St W w L) (pk : Pick L (dskA g d) R) {i : Int} (hG : DGood d) (ho : 0 ≤ i ∧ i < 32) : Calls Try.prog 41 #[.pointer (some ⟨g, 0, none⟩), .int .i64 i] w fun e w' => e = .returned (.int .i64 ((d.F i.toNat).2 : Int)) ∧ St W w' (dskA g d :: R) := by
  replace hS := hS.pick pk
  clear pk
  obtain ⟨rw, hS⟩ := hS.dsk
  have hi : i.toNat < 32 := by omega
  refine calls_of_wpE (args := [_, _]) Try.func41 rfl rfl rfl ?_
  refine c_seq ?_
  refine c_region ?_
  refine t_q (q_assign) ?_
  refine t_nil ?_
  refine c_seq ?_
  refine c_seq ?_
  refine c_region ?_
  refine t_q (q_mv (.pointer _) rfl) ?_
  refine t_q (q_mv (.int _ _) rfl) ?_
  refine t_call Try.call93 (at_in ho) rfl ?_
  rintro e w ⟨rfl, hT⟩
  refine ⟨_, rfl, ?_⟩
  replace hS := hS.after hT
  refine t_q (q_as (.pointer _) rfl) ?_
  refine t_nil ?_
  refine c_seq ?_
  refine c_region ?_
  refine t_q (q_mv (.pointer _) rfl) ?_
  refine t_q (q_neq_ptr_nil Try.runUnderlying159 rfl rfl) ?_
  refine t_nil ?_
  refine c_cond_t rfl rfl ?_
  refine c_seq ?_
  refine c_region ?_
  refine t_q (q_mv (.pointer _) rfl) ?_
  refine t_q (q_nilCheck rfl) ?_
  refine t_q (q_fieldAddr 1 Try.runUnderlying154 rfl Try.sizeOf3 (by decide) rfl rfl) ?_
  refine t_q (q_load1 Try.isAgg3 rfl (hS.cell (by repeat first | exact .here _ _ | assumption | apply Pick.there) (fc_s hi))) ?_
  refine t_q (q_as (.int _ _) rfl) ?_
  refine t_nil ?_
  refine c_ret ?_
  refine r_one rfl rfl ?_
  exact ⟨rfl, hS.undsk⟩
set_option maxRecDepth 100000 in
theorem down_nil : Calls Try.prog 44 #[.pointer none] W fun e w' => e = .returned (.bool false) ∧ St W w' [] := by
  have hS := St.init W
  refine calls_of_wpE (args := [_]) Try.func44 rfl rfl rfl ?_
  refine c_seq ?_
  refine c_region ?_
  refine t_q (q_assign) ?_
  refine t_nil ?_
  refine c_seq ?_
  refine c_region ?_
  refine t_q (q_mv (.pointer _) rfl) ?_
  refine t_q (q_neq_ptr_nil Try.runUnderlying58 rfl rfl) ?_
  refine t_q (q_mv (.bool _) rfl) ?_
  refine t_no rfl rfl (by decide) ?_
  refine t_no rfl rfl (by decide) ?_
  refine t_no rfl rfl (by decide) ?_
  refine t_no rfl rfl (by decide) ?_
  refine t_q (q_pick_f rfl rfl) ?_
  refine t_q (q_as (.bool _) rfl) ?_
  refine t_nil ?_
  refine c_ret ?_
  refine r_one rfl rfl ?_
  exact ⟨rfl, hS⟩
set_option maxRecDepth 100000 in
theorem down_calls {w : World} {L R : List Asn} {g : Nat} {d : Dk} (hS : St W w L) (pk : Pick L (dskA g d) R) : Calls Try.prog 44 #[.pointer (some ⟨g, 0, none⟩)] w fun e w' => e = .returned (.bool d.gone) ∧ St W w' (dskA g d :: R) := by
  replace hS := hS.pick pk
  clear pk
  obtain ⟨rw, hS⟩ := hS.dsk
  refine calls_of_wpE (args := [_]) Try.func44 rfl rfl rfl ?_
  refine c_seq ?_
  refine c_region ?_
  refine t_q (q_assign) ?_
  refine t_nil ?_
  refine c_seq ?_
  refine c_region ?_
  refine t_q (q_mv (.pointer _) rfl) ?_
  refine t_q (q_neq_ptr_nil Try.runUnderlying58 rfl rfl) ?_
  refine t_q (q_mv (.bool _) rfl) ?_
  refine t_yes rfl rfl rfl ?_
  refine t_q (q_mv (.pointer _) rfl) ?_
  refine t_yes rfl rfl rfl ?_
  refine t_q (q_nilCheck rfl) ?_
  refine t_yes rfl rfl rfl ?_
  refine t_q (q_fieldAddr 66 Try.runUnderlying157 rfl Try.sizeOf4 (by decide) rfl rfl) ?_
  refine t_yes rfl rfl rfl ?_
  refine t_q (q_load1 Try.isAgg4 rfl (hS.cell (by repeat first | exact .here _ _ | assumption | apply Pick.there) ((fc_tl 2).trans (dtl_2 d)))) ?_
  refine t_q (q_pick_t rfl rfl) ?_
  refine t_q (q_as (.bool _) rfl) ?_
  refine t_nil ?_
  refine c_ret ?_
  refine r_one rfl rfl ?_
  exact ⟨rfl, hS.undsk⟩
-- calls_nil: no such function here
-- calls_calls: no such function here
set_option maxRecDepth 100000 in
theorem arm_nil {n : Int} : Calls Try.prog 42 #[.pointer none, .int .i64 n] W fun e w' => e = .returned (.tuple #[]) ∧ St W w' [] := by
  have hS := St.init W
  refine calls_of_wpE (args := [_, _]) Try.func42 rfl rfl rfl ?_
  refine c_seq ?_
  refine c_region ?_
  refine t_q (q_mv (.pointer _) rfl) ?_
  refine t_q (q_neq_ptr_nil Try.runUnderlying58 rfl rfl) ?_
  refine t_nil ?_
  refine c_cond_f rfl rfl ?_
  refine c_skip ?_
  refine r_none rfl  ?_
  exact ⟨rfl, hS⟩
set_option maxRecDepth 100000 in
theorem arm_calls {w : World} {L R : List Asn} {g : Nat} {d : Dk} (hS : St W w L) (pk : Pick L (dskA g d) R) {n : Int} : Calls Try.prog 42 #[.pointer (some ⟨g, 0, none⟩), .int .i64 n] w fun e w' => e = .returned (.tuple #[]) ∧ St W w' (dskA g { d with fuse := n } :: R) := by
  replace hS := hS.pick pk
  clear pk
  obtain ⟨rw, hS⟩ := hS.dsk
  replace hS := hS.recast (show _ = blkA g 157 (fcells d.F rw ++ ([.bool (decide (0 ≤ d.fuse)), .int .i64 (d.fuse.toNat : Int), .bool d.gone, .int .i64 d.calls] : List Value)) from congrArg (fun l => blkA g 157 (fcells d.F rw ++ l)) (dtl_eq d))
  refine calls_of_wpE (args := [_, _]) Try.func42 rfl rfl rfl ?_
  refine c_seq ?_
  refine c_region ?_
  refine t_q (q_mv (.pointer _) rfl) ?_
  refine t_q (q_neq_ptr_nil Try.runUnderlying58 rfl rfl) ?_
  refine t_nil ?_
  refine c_cond_t rfl rfl ?_
  refine c_region ?_
  refine t_q (q_mv (.pointer _) rfl) ?_
  refine t_q (q_mv (.pointer _) rfl) ?_
  refine t_q (q_mv (.int _ _) rfl) ?_
  refine t_q (q_geq rfl rfl) ?_
  refine t_q (q_mv (.int _ _) rfl) ?_
  refine t_q (q_max rfl rfl) ?_
  refine t_q (q_nilCheck rfl) ?_
  refine t_q (q_fieldAddr 64 Try.runUnderlying157 rfl Try.sizeOf4 (by decide) rfl rfl) ?_
  refine t_store (v := (.bool _)) Try.sizeOf4 hS (by repeat first | exact .here _ _ | assumption | apply Pick.there) rfl rfl rfl rfl rfl (Nat.ble_eq_true_of_le (by show 0 + 64 + 1 ≤ (fcells d.F rw ++ _).length; rw [List.length_append, fcells_len]; show _ ≤ 64 + 4; omega)) (fun w hS => ?_)
  replace hS := hS.recast (show _ = blkA g 157 (fcells d.F rw ++ ([.bool (decide (0 ≤ n)), .int .i64 (d.fuse.toNat : Int), .bool d.gone, .int .i64 d.calls] : List Value)) from congrArg (blkA g 157 ·) (st_tl 0 _))
  refine t_q (q_nilCheck rfl) ?_
  refine t_q (q_fieldAddr 65 Try.runUnderlying157 rfl Try.sizeOf3 (by decide) rfl rfl) ?_
  refine t_store (v := (.int _ _)) Try.sizeOf3 hS (by repeat first | exact .here _ _ | assumption | apply Pick.there) rfl rfl rfl rfl rfl (Nat.ble_eq_true_of_le (by show 0 + 65 + 1 ≤ (fcells d.F rw ++ _).length; rw [List.length_append, fcells_len]; show _ ≤ 64 + 4; omega)) (fun w hS => ?_)
  replace hS := hS.recast (show _ = blkA g 157 (fcells d.F rw ++ ([.bool (decide (0 ≤ n)), .int .i64 (max n 0), .bool d.gone, .int .i64 d.calls] : List Value)) from congrArg (blkA g 157 ·) (st_tl 1 _))
  refine t_nil ?_
  refine r_none rfl  ?_
  have e1 : dtl { d with fuse := n } = ([.bool (decide (0 ≤ n)), .int .i64 (max n 0), .bool d.gone, .int .i64 d.calls] : List Value) := by rw [dtl_eq]; show ([.bool (decide (0 ≤ n)), .int .i64 (n.toNat : Int), .bool d.gone, .int .i64 d.calls] : List Value) = _; rw [show (n.toNat : Int) = max n 0 by omega]
  exact ⟨rfl, St.undsk (d := { d with fuse := n }) (by rw [e1]; exact hS)⟩
end Go.Proofs.Ytlppgpidakfnlaa
