/- Rule sets as bytes. -/
import Derived.Test.YtmgobaojioaioaaDoorUd
import Derived.Test.YtmgobaojioaioaaDoorCt
import Derived.Test.YtmgobaojioaioaaDoorCe
namespace Go.Proofs.YtmgobaojioaioaaDoor
open Go Go.RowKit Go.Lib
variable {W : World}
def tkB (e : Tk) : List UInt8 := enc (zig e.frm) ++ enc (zig e.size)
def trB (e : Tr) : List UInt8 := enc (zig e.frm) ++ (enc (zig e.maker) ++ enc (zig e.taker))
/-- a rule set's bytes -/
def ru1 (x : RuV) : List UInt8 := enc (zig x.version) ++ enc x.ticks.l.length
def ru2 (x : RuV) : List UInt8 := ru1 x ++ x.ticks.l.flatMap tkB
def ru3 (x : RuV) : List UInt8 := ru2 x ++ (enc (zig x.lot) ++ enc (zig x.band))
def ru4 (x : RuV) : List UInt8 := ru3 x ++ enc x.fees.l.length
def ru5 (x : RuV) : List UInt8 := ru4 x ++ x.fees.l.flatMap trB
def ruB (x : RuV) : List UInt8 := ru5 x ++ ints [x.round, x.priority, x.self, x.layout]
theorem zlen {n : Int} (h : -9223372036854775808 ≤ n ∧ n ≤ 9223372036854775807) : (enc (zig n)).length ≤ 10 := enc_ten (zig_lt h.1 h.2)
theorem tkB_len {e : Tk} (h : e.In) : (tkB e).length ≤ 20 := by
  have h1 := zlen h.1
  have h2 := zlen h.2
  unfold tkB
  rw [List.length_append]
  omega
theorem trB_len {e : Tr} (h : e.In) : (trB e).length ≤ 30 := by
  have h1 := zlen h.1
  have h2 := zlen h.2.1
  have h3 := zlen h.2.2
  unfold trB
  rw [List.length_append, List.length_append]
  omega
theorem tks_len : ∀ (l : List Tk), (∀ e ∈ l, e.In) → (l.flatMap tkB).length ≤ 20 * l.length
  | [], _ => Nat.le_refl 0
  | e :: l, h => by
    have h1 := tkB_len (h e (List.mem_cons_self ..))
    have h2 := tks_len l (fun y hy => h y (List.mem_cons_of_mem _ hy))
    rw [List.flatMap_cons, List.length_append, List.length_cons]
    omega
theorem trs_len : ∀ (l : List Tr), (∀ e ∈ l, e.In) → (l.flatMap trB).length ≤ 30 * l.length
  | [], _ => Nat.le_refl 0
  | e :: l, h => by
    have h1 := trB_len (h e (List.mem_cons_self ..))
    have h2 := trs_len l (fun y hy => h y (List.mem_cons_of_mem _ hy))
    rw [List.flatMap_cons, List.length_append, List.length_cons]
    omega
theorem tkB_take {l : List Tk} {j : Nat} (hj : j < l.length) : (l.take (j + 1)).flatMap tkB = (l.take j).flatMap tkB ++ tkB (l.getD j default) := by
  rw [List.take_add_one, List.flatMap_append, List.getElem?_eq_getElem hj, List.getD_eq_getElem?_getD, List.getElem?_eq_getElem hj]
  simp
theorem trB_take {l : List Tr} {j : Nat} (hj : j < l.length) : (l.take (j + 1)).flatMap trB = (l.take j).flatMap trB ++ trB (l.getD j default) := by
  rw [List.take_add_one, List.flatMap_append, List.getElem?_eq_getElem hj, List.getD_eq_getElem?_getD, List.getElem?_eq_getElem hj]
  simp
theorem ru_lens {W : World} {x : RuV} (hx : x.Gd W) : (ru1 x).length ≤ 20 ∧ (ru2 x).length ≤ 20000020 ∧ (ru3 x).length ≤ 20000040 ∧ (ru4 x).length ≤ 20000050 ∧ (ru5 x).length ≤ 50000050 ∧ (ruB x).length ≤ 50000090 := by
  have a1 := zlen hx.version
  have a2 := enc_ten (n := x.ticks.l.length) (by have := hx.tle; omega)
  have a3 := tks_len x.ticks.l hx.tin
  have a4 := zlen hx.lot
  have a5 := zlen hx.band
  have a6 := enc_ten (n := x.fees.l.length) (by have := hx.fle; omega)
  have a7 := trs_len x.fees.l hx.fin
  have a8 := ints_length (ns := [x.round, x.priority, x.self, x.layout]) (by
    have b1 := hx.round
    have b2 := hx.priority
    have b3 := hx.self
    have b4 := hx.layout
    intro n hn
    simp only [List.mem_cons, List.not_mem_nil, or_false] at hn
    omega)
  have h1 := hx.tle
  have h2 := hx.fle
  simp only [List.length_cons, List.length_nil] at a8
  have l1 : (ru1 x).length ≤ 20 := by unfold ru1; rw [List.length_append]; omega
  have l2 : (ru2 x).length ≤ 20000020 := by unfold ru2; rw [List.length_append]; omega
  have l3 : (ru3 x).length ≤ 20000040 := by unfold ru3; rw [List.length_append, List.length_append]; omega
  have l4 : (ru4 x).length ≤ 20000050 := by unfold ru4; rw [List.length_append]; omega
  have l5 : (ru5 x).length ≤ 50000050 := by unfold ru5; rw [List.length_append]; omega
  exact ⟨l1, l2, l3, l4, l5, by unfold ruB; rw [List.length_append]; omega⟩
attribute [local irreducible] blkA rowA wrA
set_option maxHeartbeats 4000000 in
set_option maxRecDepth 100000 in
theorem rput_gen {w : World} {L R : List Asn} {g : Nat} {bs : List UInt8} {x : RuV} (hS : St W w L) (pk : Pick L (wrA g bs) R) (hxr : ∀ w', St W w' R → x.Gd w') (hb : bs.length ≤ 1000000000) :
  Calls Tryd.prog 19 #[.pointer (some ⟨g, 0, none⟩), .agg x.cells.toArray] w fun e w' => e = .returned (.tuple #[]) ∧ St W w' (wrA g (bs ++ ruB x) :: R) := by
  replace hS := hS.pick pk
  clear pk
  have hx := hxr w hS.drop
  have hb1 := hx.version
  have hb2 := hx.lot
  have hb3 := hx.band
  have hb4 := hx.round
  have hb5 := hx.priority
  have hb6 := hx.self
  have hb7 := hx.layout
  have hb8 := hx.tle
  have hb9 := hx.fle
  obtain ⟨r1, r2, r3, r4, r5, r6⟩ := ru_lens hx
  have y1 := zlen hb1
  have y2 := zlen hb2
  have y3 := zlen hb3
  refine calls_of_wpE (args := [_, _]) Tryd.func19 rfl rfl rfl ?_
  refine c_seq ?_
  refine c_region ?_
  refine t_box (v := (.agg _)) rfl rfl hS (fun g3 w hS => ?_)
  replace hS := hS.recast (show _ = blkA g3 25 [.int .i64 x.version, .slice x.ticks.A x.ticks.l.length x.ticks.c, .int .i64 x.lot, .int .i64 x.band, .slice x.fees.A x.fees.l.length x.fees.c, .int .i64 x.round, .int .i64 x.priority, .int .i64 x.self, .int .i64 x.layout] from rfl)
  refine t_nil ?_
  refine c_seq ?_
  refine c_region ?_
  refine t_q (q_mv (.pointer _) rfl) ?_
  refine t_q (q_fieldAddr 0 Tryd.runUnderlying25 rfl Tryd.sizeOf3 (by decide) rfl rfl) ?_
  refine t_q (q_load1 Tryd.isAgg3 rfl (hS.cell (by repeat first | exact .here _ _ | assumption | apply Pick.there) rfl)) ?_
  refine t_build_ints [_] Tryd.runUnderlying111 Tryd.sizeOf2 Tryd.zeroValue2 rfl rfl (by decide) hS (fun g11 w hS => ?_)
  refine t_call Tryd.call51 (Int_calls (ns := [x.version]) hS (by repeat first | exact .here _ _ | assumption | apply Pick.there) (fun _ h => h.rowInts (.here _ _) rfl) (by intro m hm; simp only [List.mem_cons, List.not_mem_nil, or_false] at hm; omega) (by simp) (by first | omega | (simp only [List.length_append]; omega))) rfl ?_
  rintro e w ⟨rfl, hS⟩
  refine ⟨_, rfl, ?_⟩
  replace hS := hS.swap.recast (congrArg (wrA g) (show _ = bs ++ enc (zig x.version) from by simp [ints, ru1, ru3, ruB, tkB, trB]))
  refine t_nil ?_
  refine c_seq ?_
  refine c_region ?_
  refine t_q (q_mv (.pointer _) rfl) ?_
  refine t_q (q_fieldAddr 1 Tryd.runUnderlying25 rfl Tryd.sizeOf22 (by decide) rfl rfl) ?_
  refine t_q (q_load1 Tryd.isAgg22 rfl (hS.cell (by repeat first | exact .here _ _ | assumption | apply Pick.there) rfl)) ?_
  refine t_q (q_len_slice Tryd.runUnderlying22 rfl) ?_
  first | refine t_q (q_conv_u64 Tryd.runUnderlying3 Tryd.runUnderlying89 rfl (by omega)) ?_ | refine t_q (q_convm_u64 Tryd.runUnderlying3 Tryd.runUnderlying89 rfl) ?_
  refine t_build_ints [_] Tryd.runUnderlying113 Tryd.sizeOf89 Tryd.zeroValue89 rfl rfl (by decide) hS (fun g18 w hS => ?_)
  refine t_call Tryd.call52 (Nat_calls (ns := [(x.ticks.l.length : Int)]) hS (by repeat first | exact .here _ _ | assumption | apply Pick.there) (fun _ h => h.rowInts (.here _ _) rfl) (by intro m hm; simp only [List.mem_cons, List.not_mem_nil, or_false] at hm; omega) (by simp) (by first | omega | (simp only [List.length_append]; omega))) rfl ?_
  rintro e w ⟨rfl, hS⟩
  refine ⟨_, rfl, ?_⟩
  replace hS := hS.swap.recast (congrArg (wrA g) (show _ = bs ++ ru1 x from by simp [encs, ru1, ru4]))
  refine t_nil ?_
  refine c_seq ?_
  refine c_seq ?_
  refine c_region ?_
  refine t_q (q_fieldAddr 1 Tryd.runUnderlying25 rfl Tryd.sizeOf22 (by decide) rfl rfl) ?_
  refine t_q (q_load1 Tryd.isAgg22 rfl (hS.cell (by repeat first | exact .here _ _ | assumption | apply Pick.there) rfl)) ?_
  refine t_q (q_len_slice Tryd.runUnderlying22 rfl) ?_
  refine t_q (q_move) ?_
  refine t_nil ?_
  refine c_block ?_
  refine c_loop [5, 23, 24, 25, 26, 27, 28, 29, 30, 31, 32, 33, 34] (fun k σ w => ∃ j : Nat, σ 23 = .int .i64 (j : Int) ∧ j ≤ x.ticks.l.length ∧ x.ticks.l.length - j ≤ k ∧ St W w (wrA g (bs ++ (ru1 x ++ (x.ticks.l.take j).flatMap tkB)) :: blkA g3 25 [.int .i64 x.version, .slice x.ticks.A x.ticks.l.length x.ticks.c, .int .i64 x.lot, .int .i64 x.band, .slice x.fees.A x.fees.l.length x.fees.c, .int .i64 x.round, .int .i64 x.priority, .int .i64 x.self, .int .i64 x.layout] :: R)) (x.ticks.l.length) rfl (⟨0, rfl, by omega, by omega, (((hS.pick (A := blkA g3 25 _) (by repeat first | exact .here _ _ | assumption | apply Pick.there)).pick (A := wrA g _) (by repeat first | exact .here _ _ | assumption | apply Pick.there))).recast (congrArg (wrA g) (by simp))⟩) ?_
  skip
  rintro k σ w ⟨j, hj0, hj, hk, hS⟩
  refine c_know 23 hj0 ?_
  clear hj0
  have hpl := tks_len (x.ticks.l.take j) (fun e he => hx.tin e (List.mem_of_mem_take he))
  rw [List.length_take] at hpl
  have hpl2 : (bs ++ (ru1 x ++ (x.ticks.l.take j).flatMap tkB)).length ≤ 1021000000 := by rw [List.length_append, List.length_append]; omega
  refine c_seq ?_
  refine c_region ?_
  refine t_q (q_lss rfl rfl) ?_
  refine t_nil ?_
  refine c_seq ?_
  refine c_cond rfl ?_ ?_
  · intro hc4
    have hc4d := of_decide_eq_true hc4
    refine c_skip ?_
    refine c_seq ?_
    refine c_block ?_
    refine c_seq ?_
    refine c_region ?_
    first | refine t_index_nat Tryd.runUnderlying22 Tryd.sizeOf40 ((hxr _ ((hS.pick (A := blkA g3 25 _) (by repeat first | exact .here _ _ | assumption | apply Pick.there)).pick (A := wrA g _) (by repeat first | exact .here _ _ | assumption | apply Pick.there)).drop.drop).trd) rfl rfl (by omega) (fun ad5 hl5 hx5 => ?_) | refine t_index Tryd.runUnderlying22 Tryd.sizeOf40 ((hxr _ ((hS.pick (A := blkA g3 25 _) (by repeat first | exact .here _ _ | assumption | apply Pick.there)).pick (A := wrA g _) (by repeat first | exact .here _ _ | assumption | apply Pick.there)).drop.drop).trd) rfl rfl (by omega) (fun ad5 hl5 hx5 => ?_)
    refine t_q (q_loadN Tryd.isAgg40 Tryd.sizeOf40 rfl hl5 hx5) ?_
    refine t_alloc Tryd.zeroValue40 rfl hS (fun g5 w hS => ?_)
    refine t_store (v := (.agg _)) Tryd.sizeOf40 hS (by repeat first | exact .here _ _ | assumption | apply Pick.there) rfl rfl rfl rfl rfl rfl (fun w hS => ?_)
    replace hS := hS.recast (show blkA g5 40 _ = blkA g5 40 [.int .i64 (x.ticks.l.getD j default).frm, .int .i64 (x.ticks.l.getD j default).size] from rfl)
    have hz := tk_in hx.tin (show j < x.ticks.l.length by omega)
    obtain ⟨hz1, hz2⟩ := id hz
    refine t_nil ?_
    refine c_region ?_
    refine t_q (q_mv (.pointer _) rfl) ?_
    refine t_q (q_fieldAddr 0 Tryd.runUnderlying40 rfl Tryd.sizeOf2 (by decide) rfl rfl) ?_
    refine t_q (q_load1 Tryd.isAgg2 rfl (hS.cell (by repeat first | exact .here _ _ | assumption | apply Pick.there) rfl)) ?_
    refine t_q (q_fieldAddr 1 Tryd.runUnderlying40 rfl Tryd.sizeOf2 (by decide) rfl rfl) ?_
    refine t_q (q_load1 Tryd.isAgg2 rfl (hS.cell (by repeat first | exact .here _ _ | assumption | apply Pick.there) rfl)) ?_
    refine t_build_ints [_, _] Tryd.runUnderlying111 Tryd.sizeOf2 Tryd.zeroValue2 rfl rfl (by decide) hS (fun g32 w hS => ?_)
    refine t_call Tryd.call51 (Int_calls (ns := [(x.ticks.l.getD j default).frm, (x.ticks.l.getD j default).size]) hS (by repeat first | exact .here _ _ | assumption | apply Pick.there) (fun _ h => h.rowInts (.here _ _) rfl) (by intro m hm; simp only [List.mem_cons, List.not_mem_nil, or_false] at hm; omega) (by simp) (by first | omega | (simp only [List.length_append]; omega))) rfl ?_
    rintro e w ⟨rfl, hS⟩
    refine ⟨_, rfl, ?_⟩
    replace hS := hS.swap.recast (congrArg (wrA g) (show _ = (bs ++ (ru1 x ++ (x.ticks.l.take j).flatMap tkB)) ++ tkB (x.ticks.l.getD j default) from by simp [ints, ru1, ru3, ruB, tkB, trB]))
    refine t_nil ?_
    refine c_region ?_
    refine t_q (q_add_i64 rfl rfl (by omega)) ?_
    refine t_q (q_mv (.int _ _) rfl) ?_
    refine t_nil ?_
    replace hS := (hS.pick (A := wrA g _) (by repeat first | exact .here _ _ | assumption | apply Pick.there)).recast (congrArg (wrA g) (show _ = bs ++ (ru1 x ++ (x.ticks.l.take (j + 1)).flatMap tkB) from by rw [tkB_take (by omega)]; simp only [List.append_assoc]))
    replace hS := (hS.pick (A := blkA g5 40 _) (by repeat first | exact .here _ _ | assumption | apply Pick.there)).drop
    exact ⟨k - 1, by omega, j + 1, rfl, by omega, by omega, ((hS.pick (A := blkA g3 25 _) (by repeat first | exact .here _ _ | assumption | apply Pick.there)).pick (A := wrA g _) (by repeat first | exact .here _ _ | assumption | apply Pick.there))⟩
  · intro hc4
    have hc4d := of_decide_eq_false hc4
    obtain rfl : j = x.ticks.l.length := by omega
    replace hS := hS.recast (congrArg (wrA g) (show _ = bs ++ ru2 x from by rw [List.take_length]; rfl))
    refine c_exit ?_
    refine ite_t rfl ?_
    refine c_seq ?_
    refine c_region ?_
    refine t_q (q_mv (.pointer _) rfl) ?_
    refine t_q (q_fieldAddr 2 Tryd.runUnderlying25 rfl Tryd.sizeOf2 (by decide) rfl rfl) ?_
    refine t_q (q_load1 Tryd.isAgg2 rfl (hS.cell (by repeat first | exact .here _ _ | assumption | apply Pick.there) rfl)) ?_
    refine t_q (q_fieldAddr 3 Tryd.runUnderlying25 rfl Tryd.sizeOf2 (by decide) rfl rfl) ?_
    refine t_q (q_load1 Tryd.isAgg2 rfl (hS.cell (by repeat first | exact .here _ _ | assumption | apply Pick.there) rfl)) ?_
    refine t_build_ints [_, _] Tryd.runUnderlying111 Tryd.sizeOf2 Tryd.zeroValue2 rfl rfl (by decide) hS (fun g40 w hS => ?_)
    refine t_call Tryd.call51 (Int_calls (ns := [x.lot, x.band]) hS (by repeat first | exact .here _ _ | assumption | apply Pick.there) (fun _ h => h.rowInts (.here _ _) rfl) (by intro m hm; simp only [List.mem_cons, List.not_mem_nil, or_false] at hm; omega) (by simp) (by first | omega | (simp only [List.length_append]; omega))) rfl ?_
    rintro e w ⟨rfl, hS⟩
    refine ⟨_, rfl, ?_⟩
    replace hS := hS.swap.recast (congrArg (wrA g) (show _ = bs ++ ru3 x from by simp [ints, ru1, ru3, ruB, tkB, trB]))
    refine t_nil ?_
    refine c_seq ?_
    refine c_region ?_
    refine t_q (q_mv (.pointer _) rfl) ?_
    refine t_q (q_fieldAddr 4 Tryd.runUnderlying25 rfl Tryd.sizeOf23 (by decide) rfl rfl) ?_
    refine t_q (q_load1 Tryd.isAgg23 rfl (hS.cell (by repeat first | exact .here _ _ | assumption | apply Pick.there) rfl)) ?_
    refine t_q (q_len_slice Tryd.runUnderlying23 rfl) ?_
    first | refine t_q (q_conv_u64 Tryd.runUnderlying3 Tryd.runUnderlying89 rfl (by omega)) ?_ | refine t_q (q_convm_u64 Tryd.runUnderlying3 Tryd.runUnderlying89 rfl) ?_
    refine t_build_ints [_] Tryd.runUnderlying113 Tryd.sizeOf89 Tryd.zeroValue89 rfl rfl (by decide) hS (fun g47 w hS => ?_)
    refine t_call Tryd.call52 (Nat_calls (ns := [(x.fees.l.length : Int)]) hS (by repeat first | exact .here _ _ | assumption | apply Pick.there) (fun _ h => h.rowInts (.here _ _) rfl) (by intro m hm; simp only [List.mem_cons, List.not_mem_nil, or_false] at hm; omega) (by simp) (by first | omega | (simp only [List.length_append]; omega))) rfl ?_
    rintro e w ⟨rfl, hS⟩
    refine ⟨_, rfl, ?_⟩
    replace hS := hS.swap.recast (congrArg (wrA g) (show _ = bs ++ ru4 x from by simp [encs, ru1, ru4]))
    refine t_nil ?_
    refine c_seq ?_
    refine c_seq ?_
    refine c_region ?_
    refine t_q (q_fieldAddr 4 Tryd.runUnderlying25 rfl Tryd.sizeOf23 (by decide) rfl rfl) ?_
    refine t_q (q_load1 Tryd.isAgg23 rfl (hS.cell (by repeat first | exact .here _ _ | assumption | apply Pick.there) rfl)) ?_
    refine t_q (q_len_slice Tryd.runUnderlying23 rfl) ?_
    refine t_q (q_move) ?_
    refine t_nil ?_
    refine c_block ?_
    refine c_loop [7, 52, 53, 54, 55, 56, 57, 58, 59, 60, 61, 62, 63, 64, 65] (fun k σ w => ∃ j : Nat, σ 52 = .int .i64 (j : Int) ∧ j ≤ x.fees.l.length ∧ x.fees.l.length - j ≤ k ∧ St W w (wrA g (bs ++ (ru4 x ++ (x.fees.l.take j).flatMap trB)) :: blkA g3 25 [.int .i64 x.version, .slice x.ticks.A x.ticks.l.length x.ticks.c, .int .i64 x.lot, .int .i64 x.band, .slice x.fees.A x.fees.l.length x.fees.c, .int .i64 x.round, .int .i64 x.priority, .int .i64 x.self, .int .i64 x.layout] :: R)) (x.fees.l.length) rfl (⟨0, rfl, by omega, by omega, (((hS.pick (A := blkA g3 25 _) (by repeat first | exact .here _ _ | assumption | apply Pick.there)).pick (A := wrA g _) (by repeat first | exact .here _ _ | assumption | apply Pick.there))).recast (congrArg (wrA g) (by simp))⟩) ?_
    skip
    rintro k σ w ⟨j, hj0, hj, hk, hS⟩
    refine c_know 52 hj0 ?_
    clear hj0
    have hpl := trs_len (x.fees.l.take j) (fun e he => hx.fin e (List.mem_of_mem_take he))
    rw [List.length_take] at hpl
    have hpl2 : (bs ++ (ru4 x ++ (x.fees.l.take j).flatMap trB)).length ≤ 1052000000 := by rw [List.length_append, List.length_append]; omega
    refine c_seq ?_
    refine c_region ?_
    refine t_q (q_lss rfl rfl) ?_
    refine t_nil ?_
    refine c_seq ?_
    refine c_cond rfl ?_ ?_
    · intro hc10
      have hc10d := of_decide_eq_true hc10
      refine c_skip ?_
      refine c_seq ?_
      refine c_block ?_
      refine c_seq ?_
      refine c_region ?_
      first | refine t_index_nat Tryd.runUnderlying23 Tryd.sizeOf42 ((hxr _ ((hS.pick (A := blkA g3 25 _) (by repeat first | exact .here _ _ | assumption | apply Pick.there)).pick (A := wrA g _) (by repeat first | exact .here _ _ | assumption | apply Pick.there)).drop.drop).frd) rfl rfl (by omega) (fun ad11 hl11 hx11 => ?_) | refine t_index Tryd.runUnderlying23 Tryd.sizeOf42 ((hxr _ ((hS.pick (A := blkA g3 25 _) (by repeat first | exact .here _ _ | assumption | apply Pick.there)).pick (A := wrA g _) (by repeat first | exact .here _ _ | assumption | apply Pick.there)).drop.drop).frd) rfl rfl (by omega) (fun ad11 hl11 hx11 => ?_)
      refine t_q (q_loadN Tryd.isAgg42 Tryd.sizeOf42 rfl hl11 hx11) ?_
      refine t_alloc Tryd.zeroValue42 rfl hS (fun g7 w hS => ?_)
      refine t_store (v := (.agg _)) Tryd.sizeOf42 hS (by repeat first | exact .here _ _ | assumption | apply Pick.there) rfl rfl rfl rfl rfl rfl (fun w hS => ?_)
      replace hS := hS.recast (show blkA g7 42 _ = blkA g7 42 [.int .i64 (x.fees.l.getD j default).frm, .int .i64 (x.fees.l.getD j default).maker, .int .i64 (x.fees.l.getD j default).taker] from rfl)
      have hz := tr_in hx.fin (show j < x.fees.l.length by omega)
      obtain ⟨hz1, hz2, hz3⟩ := id hz
      refine t_nil ?_
      refine c_region ?_
      refine t_q (q_mv (.pointer _) rfl) ?_
      refine t_q (q_fieldAddr 0 Tryd.runUnderlying42 rfl Tryd.sizeOf2 (by decide) rfl rfl) ?_
      refine t_q (q_load1 Tryd.isAgg2 rfl (hS.cell (by repeat first | exact .here _ _ | assumption | apply Pick.there) rfl)) ?_
      refine t_q (q_fieldAddr 1 Tryd.runUnderlying42 rfl Tryd.sizeOf2 (by decide) rfl rfl) ?_
      refine t_q (q_load1 Tryd.isAgg2 rfl (hS.cell (by repeat first | exact .here _ _ | assumption | apply Pick.there) rfl)) ?_
      refine t_q (q_fieldAddr 2 Tryd.runUnderlying42 rfl Tryd.sizeOf2 (by decide) rfl rfl) ?_
      refine t_q (q_load1 Tryd.isAgg2 rfl (hS.cell (by repeat first | exact .here _ _ | assumption | apply Pick.there) rfl)) ?_
      refine t_build_ints [_, _, _] Tryd.runUnderlying111 Tryd.sizeOf2 Tryd.zeroValue2 rfl rfl (by decide) hS (fun g63 w hS => ?_)
      refine t_call Tryd.call51 (Int_calls (ns := [(x.fees.l.getD j default).frm, (x.fees.l.getD j default).maker, (x.fees.l.getD j default).taker]) hS (by repeat first | exact .here _ _ | assumption | apply Pick.there) (fun _ h => h.rowInts (.here _ _) rfl) (by intro m hm; simp only [List.mem_cons, List.not_mem_nil, or_false] at hm; omega) (by simp) (by first | omega | (simp only [List.length_append]; omega))) rfl ?_
      rintro e w ⟨rfl, hS⟩
      refine ⟨_, rfl, ?_⟩
      replace hS := hS.swap.recast (congrArg (wrA g) (show _ = (bs ++ (ru4 x ++ (x.fees.l.take j).flatMap trB)) ++ trB (x.fees.l.getD j default) from by simp [ints, ru1, ru3, ruB, tkB, trB]))
      refine t_nil ?_
      refine c_region ?_
      refine t_q (q_add_i64 rfl rfl (by omega)) ?_
      refine t_q (q_mv (.int _ _) rfl) ?_
      refine t_nil ?_
      replace hS := (hS.pick (A := wrA g _) (by repeat first | exact .here _ _ | assumption | apply Pick.there)).recast (congrArg (wrA g) (show _ = bs ++ (ru4 x ++ (x.fees.l.take (j + 1)).flatMap trB) from by rw [trB_take (by omega)]; simp only [List.append_assoc]))
      replace hS := (hS.pick (A := blkA g7 42 _) (by repeat first | exact .here _ _ | assumption | apply Pick.there)).drop
      exact ⟨k - 1, by omega, j + 1, rfl, by omega, by omega, ((hS.pick (A := blkA g3 25 _) (by repeat first | exact .here _ _ | assumption | apply Pick.there)).pick (A := wrA g _) (by repeat first | exact .here _ _ | assumption | apply Pick.there))⟩
    · intro hc10
      have hc10d := of_decide_eq_false hc10
      obtain rfl : j = x.fees.l.length := by omega
      replace hS := hS.recast (congrArg (wrA g) (show _ = bs ++ ru5 x from by rw [List.take_length]; rfl))
      refine c_exit ?_
      refine ite_t rfl ?_
      refine c_region ?_
      refine t_q (q_mv (.pointer _) rfl) ?_
      refine t_q (q_fieldAddr 5 Tryd.runUnderlying25 rfl Tryd.sizeOf3 (by decide) rfl rfl) ?_
      refine t_q (q_load1 Tryd.isAgg3 rfl (hS.cell (by repeat first | exact .here _ _ | assumption | apply Pick.there) rfl)) ?_
      refine t_q (q_fieldAddr 6 Tryd.runUnderlying25 rfl Tryd.sizeOf3 (by decide) rfl rfl) ?_
      refine t_q (q_load1 Tryd.isAgg3 rfl (hS.cell (by repeat first | exact .here _ _ | assumption | apply Pick.there) rfl)) ?_
      refine t_q (q_fieldAddr 7 Tryd.runUnderlying25 rfl Tryd.sizeOf3 (by decide) rfl rfl) ?_
      refine t_q (q_load1 Tryd.isAgg3 rfl (hS.cell (by repeat first | exact .here _ _ | assumption | apply Pick.there) rfl)) ?_
      refine t_q (q_fieldAddr 8 Tryd.runUnderlying25 rfl Tryd.sizeOf3 (by decide) rfl rfl) ?_
      refine t_q (q_load1 Tryd.isAgg3 rfl (hS.cell (by repeat first | exact .here _ _ | assumption | apply Pick.there) rfl)) ?_
      refine t_build_ints [_, _, _, _] Tryd.runUnderlying111 Tryd.sizeOf2 Tryd.zeroValue2 rfl rfl (by decide) hS (fun g75 w hS => ?_)
      refine t_call Tryd.call51 (Int_calls (ns := [x.round, x.priority, x.self, x.layout]) hS (by repeat first | exact .here _ _ | assumption | apply Pick.there) (fun _ h => h.rowInts (.here _ _) rfl) (by intro m hm; simp only [List.mem_cons, List.not_mem_nil, or_false] at hm; omega) (by simp) (by first | omega | (simp only [List.length_append]; omega))) rfl ?_
      rintro e w ⟨rfl, hS⟩
      refine ⟨_, rfl, ?_⟩
      replace hS := hS.swap.recast (congrArg (wrA g) (show _ = bs ++ ruB x from by simp [ints, ru1, ru3, ruB, tkB, trB]))
      refine t_nil ?_
      refine r_none rfl  ?_
      exact ⟨rfl, ((hS.pick (A := blkA g3 25 _) (by repeat first | exact .here _ _ | assumption | apply Pick.there)).pick (A := wrA g _) (by repeat first | exact .here _ _ | assumption | apply Pick.there)).swap⟩
theorem rput_calls {w : World} {L R : List Asn} {g : Nat} {bs : List UInt8} {x : RuV} (hS : St W w L) (pk : Pick L (wrA g bs) R) (hx : x.Gd W) (hb : bs.length ≤ 1000000000) :
  Calls Tryd.prog 19 #[.pointer (some ⟨g, 0, none⟩), .agg x.cells.toArray] w fun e w' => e = .returned (.tuple #[]) ∧ St W w' (wrA g (bs ++ ruB x) :: R) := rput_gen hS pk (fun _ h => hx.st h) hb
set_option maxHeartbeats 4000000 in
set_option maxRecDepth 100000 in
theorem qrbytes_calls {x : RuV} (hx : x.Gd W) : Calls Tryd.prog 20 #[.agg x.cells.toArray] W fun e w' => ∃ A' m' c', e = .returned (.slice A' m' c') ∧ m' = (ruB x).length ∧ St W w' [rowA 5 1 A' m' c' ((ruB x).map bv)] := by
  have hS := St.init W
  have hb1 := hx.version
  have hb2 := hx.lot
  have hb3 := hx.band
  have hb4 := hx.round
  have hb5 := hx.priority
  have hb6 := hx.self
  have hb7 := hx.layout
  have hb8 := hx.tle
  have hb9 := hx.fle
  obtain ⟨r1, r2, r3, r4, r5, r6⟩ := ru_lens hx
  have y1 := zlen hb1
  have y2 := zlen hb2
  have y3 := zlen hb3
  refine calls_of_wpE (args := [_]) Tryd.func20 rfl rfl rfl ?_
  refine c_seq ?_
  refine c_region ?_
  refine t_box (v := (.agg _)) rfl rfl hS (fun g1 w hS => ?_)
  replace hS := hS.recast (show _ = blkA g1 25 [.int .i64 x.version, .slice x.ticks.A x.ticks.l.length x.ticks.c, .int .i64 x.lot, .int .i64 x.band, .slice x.fees.A x.fees.l.length x.fees.c, .int .i64 x.round, .int .i64 x.priority, .int .i64 x.self, .int .i64 x.layout] from rfl)
  refine t_q (q_assign) ?_
  refine t_nil ?_
  refine c_seq ?_
  refine c_region ?_
  refine t_q (q_fieldAddr 0 Tryd.runUnderlying25 rfl Tryd.sizeOf3 (by decide) rfl rfl) ?_
  refine t_q (q_load1 Tryd.isAgg3 rfl (hS.cell (by repeat first | exact .here _ _ | assumption | apply Pick.there) rfl)) ?_
  refine t_call Tryd.call53 (qwInt (n := x.version) hS (by omega) (by omega)) rfl ?_
  rintro e w ⟨A10, n10, c10, rfl, hn10, hS⟩
  refine ⟨_, rfl, ?_⟩
  have ht10 := zlen (n := x.version) ⟨by omega, by omega⟩
  refine t_q (q_as (.slice _ _ _) rfl) ?_
  refine t_nil ?_
  refine c_seq ?_
  refine c_region ?_
  refine t_q (q_mv (.slice _ _ _) rfl) ?_
  refine t_q (q_fieldAddr 1 Tryd.runUnderlying25 rfl Tryd.sizeOf22 (by decide) rfl rfl) ?_
  refine t_q (q_load1 Tryd.isAgg22 rfl (hS.cell (by repeat first | exact .here _ _ | assumption | apply Pick.there) rfl)) ?_
  refine t_q (q_len_slice Tryd.runUnderlying22 rfl) ?_
  first | refine t_q (q_conv_u64 Tryd.runUnderlying3 Tryd.runUnderlying89 rfl (by omega)) ?_ | refine t_q (q_convm_u64 Tryd.runUnderlying3 Tryd.runUnderlying89 rfl) ?_
  refine t_call Tryd.call54 (qwNat (n := (x.ticks.l.length : Int)) hS (by omega) (by omega)) rfl ?_
  rintro e w ⟨A16, n16, c16, rfl, hn16, hS⟩
  refine ⟨_, rfl, ?_⟩
  rw [Int.toNat_natCast] at hn16 hS
  have ht16 := enc_ten (n := x.ticks.l.length) (by omega)
  refine t_append_own (size := 1) (bytes := 1) Tryd.underlying43 (info_of Tryd.type5) rfl rfl rfl rfl (by decide) hS (by repeat first | exact .here _ _ | assumption | apply Pick.there) (by repeat first | exact .here _ _ | assumption | apply Pick.there) rfl rfl (by first | exact allOne_bv _ | exact allOne_ints _ _ | rfl) (by unfold maxLen; omega) (by omega) (fun A17 c17 w hS => ?_)
  replace hS := (hS.pick (A := rowA 5 1 A17 _ c17 _) (by repeat first | exact .here _ _ | assumption | apply Pick.there)).recast (show _ = rowA 5 1 A17 (n10 + n16) c17 ((enc (zig x.version) ++ enc x.ticks.l.length).map bv) from by simp only [List.map_append])
  refine t_q (q_as (.slice _ _ _) rfl) ?_
  refine t_nil ?_
  refine c_seq ?_
  refine c_seq ?_
  refine c_region ?_
  refine t_q (q_assign) ?_
  refine t_nil ?_
  refine c_block ?_
  refine c_loop [3, 4, 18, 19, 20, 21, 22, 23, 24, 25, 26, 27, 28, 29, 30, 31, 32, 33, 34, 35, 36, 37, 38, 39, 40, 41, 42] (fun k σ w => ∃ (j : Nat) (A' : Option Addr) (m c' : Nat), σ 4 = .int .i64 (j : Int) ∧ σ 3 = .slice A' m c' ∧ m = ((ru1 x ++ (x.ticks.l.take j).flatMap tkB)).length ∧ j ≤ x.ticks.l.length ∧ x.ticks.l.length - j ≤ k ∧ St W w [rowA 5 1 A' m c' (((ru1 x ++ (x.ticks.l.take j).flatMap tkB)).map bv), blkA g1 25 [.int .i64 x.version, .slice x.ticks.A x.ticks.l.length x.ticks.c, .int .i64 x.lot, .int .i64 x.band, .slice x.fees.A x.fees.l.length x.fees.c, .int .i64 x.round, .int .i64 x.priority, .int .i64 x.self, .int .i64 x.layout]]) (x.ticks.l.length) rfl (⟨0, A17, _, c17, rfl, rfl, (by simp [ru1, hn10, hn16]), by omega, by omega, (((hS.pick (A := blkA g1 25 _) (by repeat first | exact .here _ _ | assumption | apply Pick.there)).pick (A := rowA 5 1 A17 _ c17 _) (by repeat first | exact .here _ _ | assumption | apply Pick.there)).front2).recast (congrArg (rowA 5 1 A17 _ c17) (by simp [ru1]))⟩) ?_
  skip
  rintro k σ w ⟨j, A', m, c', hj0, h3, hm, hj, hk, hS⟩
  refine c_know 4 hj0 ?_
  refine c_know 3 h3 ?_
  clear hj0 h3
  have hpl := tks_len (x.ticks.l.take j) (fun e he => hx.tin e (List.mem_of_mem_take he))
  rw [List.length_take] at hpl
  have hml : m ≤ 20000040 := by rw [hm, List.length_append]; omega
  refine c_seq ?_
  refine c_seq ?_
  refine c_region ?_
  refine t_q (q_mv (.int _ _) rfl) ?_
  refine t_q (q_fieldAddr 1 Tryd.runUnderlying25 rfl Tryd.sizeOf22 (by decide) rfl rfl) ?_
  refine t_q (q_load1 Tryd.isAgg22 rfl (hS.cell (by repeat first | exact .here _ _ | assumption | apply Pick.there) rfl)) ?_
  refine t_q (q_len_slice Tryd.runUnderlying22 rfl) ?_
  refine t_q (q_lss rfl rfl) ?_
  refine t_nil ?_
  refine c_cond rfl ?_ ?_
  · intro hc4
    have hc4d := of_decide_eq_true hc4
    have hz := tk_in hx.tin (show j < x.ticks.l.length by omega)
    obtain ⟨hz1, hz2⟩ := id hz
    refine c_skip ?_
    refine c_seq ?_
    refine c_block ?_
    refine c_seq ?_
    refine c_region ?_
    refine t_q (q_mv (.slice _ _ _) rfl) ?_
    refine t_q (q_fieldAddr 1 Tryd.runUnderlying25 rfl Tryd.sizeOf22 (by decide) rfl rfl) ?_
    refine t_q (q_load1 Tryd.isAgg22 rfl (hS.cell (by repeat first | exact .here _ _ | assumption | apply Pick.there) rfl)) ?_
    refine t_q (q_mv (.int _ _) rfl) ?_
    first | refine t_index_nat Tryd.runUnderlying22 Tryd.sizeOf40 (hx.trd.st hS) rfl rfl (by omega) (fun ad5 hl5 hx5 => ?_) | refine t_index Tryd.runUnderlying22 Tryd.sizeOf40 (hx.trd.st hS) rfl rfl (by omega) (fun ad5 hl5 hx5 => ?_)
    refine t_q (q_fieldAddr 0 Tryd.runUnderlying40 rfl Tryd.sizeOf2 (by decide) rfl rfl) ?_
    refine t_q (q_load1 Tryd.isAgg2 rfl (hx5 0 _ rfl)) ?_
    refine t_call Tryd.call53 (qwInt (n := (x.ticks.l.getD j default).frm) hS (by omega) (by omega)) rfl ?_
    rintro e w ⟨A32, n32, c32, rfl, hn32, hS⟩
    refine ⟨_, rfl, ?_⟩
    have ht32 := zlen (n := (x.ticks.l.getD j default).frm) ⟨by omega, by omega⟩
    refine t_append_own (size := 1) (bytes := 1) Tryd.underlying43 (info_of Tryd.type5) rfl rfl rfl rfl (by decide) hS (by repeat first | exact .here _ _ | assumption | apply Pick.there) (by repeat first | exact .here _ _ | assumption | apply Pick.there) rfl rfl (by first | exact allOne_bv _ | exact allOne_ints _ _ | rfl) (by unfold maxLen; omega) (by omega) (fun A33 c33 w hS => ?_)
    replace hS := (hS.pick (A := rowA 5 1 A33 _ c33 _) (by repeat first | exact .here _ _ | assumption | apply Pick.there)).recast (show _ = rowA 5 1 A33 (m + n32) c33 (((ru1 x ++ (x.ticks.l.take j).flatMap tkB) ++ enc (zig (x.ticks.l.getD j default).frm)).map bv) from by simp only [List.map_append])
    refine t_q (q_as (.slice _ _ _) rfl) ?_
    refine t_nil ?_
    refine c_region ?_
    refine t_q (q_mv (.slice _ _ _) rfl) ?_
    refine t_q (q_fieldAddr 1 Tryd.runUnderlying25 rfl Tryd.sizeOf22 (by decide) rfl rfl) ?_
    refine t_q (q_load1 Tryd.isAgg22 rfl (hS.cell (by repeat first | exact .here _ _ | assumption | apply Pick.there) rfl)) ?_
    refine t_q (q_mv (.int _ _) rfl) ?_
    first | refine t_index_nat Tryd.runUnderlying22 Tryd.sizeOf40 (hx.trd.st hS) rfl rfl (by omega) (fun ad7 hl7 hx7 => ?_) | refine t_index Tryd.runUnderlying22 Tryd.sizeOf40 (hx.trd.st hS) rfl rfl (by omega) (fun ad7 hl7 hx7 => ?_)
    refine t_q (q_fieldAddr 1 Tryd.runUnderlying40 rfl Tryd.sizeOf2 (by decide) rfl rfl) ?_
    refine t_q (q_load1 Tryd.isAgg2 rfl (hx7 1 _ rfl)) ?_
    refine t_call Tryd.call53 (qwInt (n := (x.ticks.l.getD j default).size) hS (by omega) (by omega)) rfl ?_
    rintro e w ⟨A41, n41, c41, rfl, hn41, hS⟩
    refine ⟨_, rfl, ?_⟩
    have ht41 := zlen (n := (x.ticks.l.getD j default).size) ⟨by omega, by omega⟩
    refine t_append_own (size := 1) (bytes := 1) Tryd.underlying43 (info_of Tryd.type5) rfl rfl rfl rfl (by decide) hS (by repeat first | exact .here _ _ | assumption | apply Pick.there) (by repeat first | exact .here _ _ | assumption | apply Pick.there) rfl rfl (by first | exact allOne_bv _ | exact allOne_ints _ _ | rfl) (by unfold maxLen; omega) (by omega) (fun A42 c42 w hS => ?_)
    replace hS := (hS.pick (A := rowA 5 1 A42 _ c42 _) (by repeat first | exact .here _ _ | assumption | apply Pick.there)).recast (show _ = rowA 5 1 A42 ((m + n32) + n41) c42 ((((ru1 x ++ (x.ticks.l.take j).flatMap tkB) ++ enc (zig (x.ticks.l.getD j default).frm)) ++ enc (zig (x.ticks.l.getD j default).size)).map bv) from by simp only [List.map_append])
    refine t_q (q_as (.slice _ _ _) rfl) ?_
    refine t_nil ?_
    refine c_region ?_
    refine t_q (q_mv (.int _ _) rfl) ?_
    refine t_q (q_add_i64 rfl rfl (by omega)) ?_
    refine t_q (q_as (.int _ _) rfl) ?_
    refine t_nil ?_
    replace hS := (hS.pick (A := rowA 5 1 A42 _ c42 _) (by repeat first | exact .here _ _ | assumption | apply Pick.there)).recast (congrArg (rowA 5 1 A42 _ c42) (show _ = ((ru1 x ++ (x.ticks.l.take (j + 1)).flatMap tkB)).map bv from by rw [tkB_take (by omega)]; simp [tkB]))
    refine ⟨k - 1, by omega, j + 1, A42, _, c42, rfl, rfl, ?_, by omega, by omega, (((hS.pick (A := blkA g1 25 _) (by repeat first | exact .here _ _ | assumption | apply Pick.there)).pick (A := rowA 5 1 A42 _ c42 _) (by repeat first | exact .here _ _ | assumption | apply Pick.there))).front2⟩
    rw [tkB_take (by omega), hm, hn32, hn41]
    simp [tkB]
    omega
  · intro hc4
    have hc4d := of_decide_eq_false hc4
    obtain rfl : j = x.ticks.l.length := by omega
    replace hS := (hS.pick (A := rowA 5 1 A' m c' _) (by repeat first | exact .here _ _ | assumption | apply Pick.there)).recast (show _ = rowA 5 1 A' m c' ((ru2 x).map bv) from by rw [List.take_length]; rfl)
    rw [List.take_length] at hm
    have hm2 : m = (ru2 x).length := hm
    refine c_exit ?_
    refine ite_t rfl ?_
    refine c_seq ?_
    refine c_region ?_
    refine t_q (q_mv (.slice _ _ _) rfl) ?_
    refine t_q (q_fieldAddr 2 Tryd.runUnderlying25 rfl Tryd.sizeOf2 (by decide) rfl rfl) ?_
    refine t_q (q_load1 Tryd.isAgg2 rfl (hS.cell (by repeat first | exact .here _ _ | assumption | apply Pick.there) rfl)) ?_
    refine t_call Tryd.call53 (qwInt (n := x.lot) hS (by omega) (by omega)) rfl ?_
    rintro e w ⟨A46, n46, c46, rfl, hn46, hS⟩
    refine ⟨_, rfl, ?_⟩
    have ht46 := zlen (n := x.lot) ⟨by omega, by omega⟩
    refine t_append_own (size := 1) (bytes := 1) Tryd.underlying43 (info_of Tryd.type5) rfl rfl rfl rfl (by decide) hS (by repeat first | exact .here _ _ | assumption | apply Pick.there) (by repeat first | exact .here _ _ | assumption | apply Pick.there) rfl rfl (by first | exact allOne_bv _ | exact allOne_ints _ _ | rfl) (by unfold maxLen; omega) (by omega) (fun A47 c47 w hS => ?_)
    replace hS := (hS.pick (A := rowA 5 1 A47 _ c47 _) (by repeat first | exact .here _ _ | assumption | apply Pick.there)).recast (show _ = rowA 5 1 A47 (m + n46) c47 ((ru2 x ++ enc (zig x.lot)).map bv) from by simp only [List.map_append])
    refine t_q (q_as (.slice _ _ _) rfl) ?_
    refine t_nil ?_
    refine c_seq ?_
    refine c_region ?_
    refine t_q (q_mv (.slice _ _ _) rfl) ?_
    refine t_q (q_fieldAddr 3 Tryd.runUnderlying25 rfl Tryd.sizeOf2 (by decide) rfl rfl) ?_
    refine t_q (q_load1 Tryd.isAgg2 rfl (hS.cell (by repeat first | exact .here _ _ | assumption | apply Pick.there) rfl)) ?_
    refine t_call Tryd.call53 (qwInt (n := x.band) hS (by omega) (by omega)) rfl ?_
    rintro e w ⟨A51, n51, c51, rfl, hn51, hS⟩
    refine ⟨_, rfl, ?_⟩
    have ht51 := zlen (n := x.band) ⟨by omega, by omega⟩
    refine t_append_own (size := 1) (bytes := 1) Tryd.underlying43 (info_of Tryd.type5) rfl rfl rfl rfl (by decide) hS (by repeat first | exact .here _ _ | assumption | apply Pick.there) (by repeat first | exact .here _ _ | assumption | apply Pick.there) rfl rfl (by first | exact allOne_bv _ | exact allOne_ints _ _ | rfl) (by unfold maxLen; omega) (by omega) (fun A52 c52 w hS => ?_)
    replace hS := (hS.pick (A := rowA 5 1 A52 _ c52 _) (by repeat first | exact .here _ _ | assumption | apply Pick.there)).recast (show _ = rowA 5 1 A52 ((m + n46) + n51) c52 (((ru2 x ++ enc (zig x.lot)) ++ enc (zig x.band)).map bv) from by simp only [List.map_append])
    refine t_q (q_as (.slice _ _ _) rfl) ?_
    refine t_nil ?_
    refine c_seq ?_
    refine c_region ?_
    refine t_q (q_mv (.slice _ _ _) rfl) ?_
    refine t_q (q_fieldAddr 4 Tryd.runUnderlying25 rfl Tryd.sizeOf23 (by decide) rfl rfl) ?_
    refine t_q (q_load1 Tryd.isAgg23 rfl (hS.cell (by repeat first | exact .here _ _ | assumption | apply Pick.there) rfl)) ?_
    refine t_q (q_len_slice Tryd.runUnderlying23 rfl) ?_
    first | refine t_q (q_conv_u64 Tryd.runUnderlying3 Tryd.runUnderlying89 rfl (by omega)) ?_ | refine t_q (q_convm_u64 Tryd.runUnderlying3 Tryd.runUnderlying89 rfl) ?_
    refine t_call Tryd.call54 (qwNat (n := (x.fees.l.length : Int)) hS (by omega) (by omega)) rfl ?_
    rintro e w ⟨A58, n58, c58, rfl, hn58, hS⟩
    refine ⟨_, rfl, ?_⟩
    rw [Int.toNat_natCast] at hn58 hS
    have ht58 := enc_ten (n := x.fees.l.length) (by omega)
    refine t_append_own (size := 1) (bytes := 1) Tryd.underlying43 (info_of Tryd.type5) rfl rfl rfl rfl (by decide) hS (by repeat first | exact .here _ _ | assumption | apply Pick.there) (by repeat first | exact .here _ _ | assumption | apply Pick.there) rfl rfl (by first | exact allOne_bv _ | exact allOne_ints _ _ | rfl) (by unfold maxLen; omega) (by omega) (fun A59 c59 w hS => ?_)
    replace hS := (hS.pick (A := rowA 5 1 A59 _ c59 _) (by repeat first | exact .here _ _ | assumption | apply Pick.there)).recast (show _ = rowA 5 1 A59 ((m + n46 + n51) + n58) c59 ((((ru2 x ++ enc (zig x.lot)) ++ enc (zig x.band)) ++ enc x.fees.l.length).map bv) from by simp only [List.map_append])
    refine t_q (q_as (.slice _ _ _) rfl) ?_
    refine t_nil ?_
    refine c_seq ?_
    refine c_seq ?_
    refine c_region ?_
    refine t_q (q_assign) ?_
    refine t_nil ?_
    refine c_block ?_
    refine c_loop [3, 5, 60, 61, 62, 63, 64, 65, 66, 67, 68, 69, 70, 71, 72, 73, 74, 75, 76, 77, 78, 79, 80, 81, 82, 83, 84, 85, 86, 87, 88, 89, 90, 91, 92, 93] (fun k σ w => ∃ (j : Nat) (A' : Option Addr) (m c' : Nat), σ 5 = .int .i64 (j : Int) ∧ σ 3 = .slice A' m c' ∧ m = ((ru4 x ++ (x.fees.l.take j).flatMap trB)).length ∧ j ≤ x.fees.l.length ∧ x.fees.l.length - j ≤ k ∧ St W w [rowA 5 1 A' m c' (((ru4 x ++ (x.fees.l.take j).flatMap trB)).map bv), blkA g1 25 [.int .i64 x.version, .slice x.ticks.A x.ticks.l.length x.ticks.c, .int .i64 x.lot, .int .i64 x.band, .slice x.fees.A x.fees.l.length x.fees.c, .int .i64 x.round, .int .i64 x.priority, .int .i64 x.self, .int .i64 x.layout]]) (x.fees.l.length) rfl (⟨0, A59, _, c59, rfl, rfl, (by rw [hm2, hn46, hn51, hn58]; simp [ru4, ru3]; omega), by omega, by omega, (((hS.pick (A := blkA g1 25 _) (by repeat first | exact .here _ _ | assumption | apply Pick.there)).pick (A := rowA 5 1 A59 _ c59 _) (by repeat first | exact .here _ _ | assumption | apply Pick.there)).front2).recast (congrArg (rowA 5 1 A59 _ c59) (by simp [ru4, ru3]))⟩) ?_
    skip
    rintro k σ w ⟨j, A', m, c', hj0, h3, hm, hj, hk, hS⟩
    refine c_know 5 hj0 ?_
    refine c_know 3 h3 ?_
    clear hj0 h3
    have hpl := trs_len (x.fees.l.take j) (fun e he => hx.fin e (List.mem_of_mem_take he))
    rw [List.length_take] at hpl
    have hml : m ≤ 60000040 := by rw [hm, List.length_append]; omega
    refine c_seq ?_
    refine c_seq ?_
    refine c_region ?_
    refine t_q (q_mv (.int _ _) rfl) ?_
    refine t_q (q_fieldAddr 4 Tryd.runUnderlying25 rfl Tryd.sizeOf23 (by decide) rfl rfl) ?_
    refine t_q (q_load1 Tryd.isAgg23 rfl (hS.cell (by repeat first | exact .here _ _ | assumption | apply Pick.there) rfl)) ?_
    refine t_q (q_len_slice Tryd.runUnderlying23 rfl) ?_
    refine t_q (q_lss rfl rfl) ?_
    refine t_nil ?_
    refine c_cond rfl ?_ ?_
    · intro hc13
      have hc13d := of_decide_eq_true hc13
      have hz := tr_in hx.fin (show j < x.fees.l.length by omega)
      obtain ⟨hz1, hz2, hz3⟩ := id hz
      refine c_skip ?_
      refine c_seq ?_
      refine c_block ?_
      refine c_seq ?_
      refine c_region ?_
      refine t_q (q_mv (.slice _ _ _) rfl) ?_
      refine t_q (q_fieldAddr 4 Tryd.runUnderlying25 rfl Tryd.sizeOf23 (by decide) rfl rfl) ?_
      refine t_q (q_load1 Tryd.isAgg23 rfl (hS.cell (by repeat first | exact .here _ _ | assumption | apply Pick.there) rfl)) ?_
      refine t_q (q_mv (.int _ _) rfl) ?_
      first | refine t_index_nat Tryd.runUnderlying23 Tryd.sizeOf42 (hx.frd.st hS) rfl rfl (by omega) (fun ad14 hl14 hx14 => ?_) | refine t_index Tryd.runUnderlying23 Tryd.sizeOf42 (hx.frd.st hS) rfl rfl (by omega) (fun ad14 hl14 hx14 => ?_)
      refine t_q (q_fieldAddr 0 Tryd.runUnderlying42 rfl Tryd.sizeOf2 (by decide) rfl rfl) ?_
      refine t_q (q_load1 Tryd.isAgg2 rfl (hx14 0 _ rfl)) ?_
      refine t_call Tryd.call53 (qwInt (n := (x.fees.l.getD j default).frm) hS (by omega) (by omega)) rfl ?_
      rintro e w ⟨A74, n74, c74, rfl, hn74, hS⟩
      refine ⟨_, rfl, ?_⟩
      have ht74 := zlen (n := (x.fees.l.getD j default).frm) ⟨by omega, by omega⟩
      refine t_append_own (size := 1) (bytes := 1) Tryd.underlying43 (info_of Tryd.type5) rfl rfl rfl rfl (by decide) hS (by repeat first | exact .here _ _ | assumption | apply Pick.there) (by repeat first | exact .here _ _ | assumption | apply Pick.there) rfl rfl (by first | exact allOne_bv _ | exact allOne_ints _ _ | rfl) (by unfold maxLen; omega) (by omega) (fun A75 c75 w hS => ?_)
      replace hS := (hS.pick (A := rowA 5 1 A75 _ c75 _) (by repeat first | exact .here _ _ | assumption | apply Pick.there)).recast (show _ = rowA 5 1 A75 (m + n74) c75 (((ru4 x ++ (x.fees.l.take j).flatMap trB) ++ enc (zig (x.fees.l.getD j default).frm)).map bv) from by simp only [List.map_append])
      refine t_q (q_as (.slice _ _ _) rfl) ?_
      refine t_nil ?_
      refine c_seq ?_
      refine c_region ?_
      refine t_q (q_mv (.slice _ _ _) rfl) ?_
      refine t_q (q_fieldAddr 4 Tryd.runUnderlying25 rfl Tryd.sizeOf23 (by decide) rfl rfl) ?_
      refine t_q (q_load1 Tryd.isAgg23 rfl (hS.cell (by repeat first | exact .here _ _ | assumption | apply Pick.there) rfl)) ?_
      refine t_q (q_mv (.int _ _) rfl) ?_
      first | refine t_index_nat Tryd.runUnderlying23 Tryd.sizeOf42 (hx.frd.st hS) rfl rfl (by omega) (fun ad16 hl16 hx16 => ?_) | refine t_index Tryd.runUnderlying23 Tryd.sizeOf42 (hx.frd.st hS) rfl rfl (by omega) (fun ad16 hl16 hx16 => ?_)
      refine t_q (q_fieldAddr 1 Tryd.runUnderlying42 rfl Tryd.sizeOf2 (by decide) rfl rfl) ?_
      refine t_q (q_load1 Tryd.isAgg2 rfl (hx16 1 _ rfl)) ?_
      refine t_call Tryd.call53 (qwInt (n := (x.fees.l.getD j default).maker) hS (by omega) (by omega)) rfl ?_
      rintro e w ⟨A83, n83, c83, rfl, hn83, hS⟩
      refine ⟨_, rfl, ?_⟩
      have ht83 := zlen (n := (x.fees.l.getD j default).maker) ⟨by omega, by omega⟩
      refine t_append_own (size := 1) (bytes := 1) Tryd.underlying43 (info_of Tryd.type5) rfl rfl rfl rfl (by decide) hS (by repeat first | exact .here _ _ | assumption | apply Pick.there) (by repeat first | exact .here _ _ | assumption | apply Pick.there) rfl rfl (by first | exact allOne_bv _ | exact allOne_ints _ _ | rfl) (by unfold maxLen; omega) (by omega) (fun A84 c84 w hS => ?_)
      replace hS := (hS.pick (A := rowA 5 1 A84 _ c84 _) (by repeat first | exact .here _ _ | assumption | apply Pick.there)).recast (show _ = rowA 5 1 A84 ((m + n74) + n83) c84 ((((ru4 x ++ (x.fees.l.take j).flatMap trB) ++ enc (zig (x.fees.l.getD j default).frm)) ++ enc (zig (x.fees.l.getD j default).maker)).map bv) from by simp only [List.map_append])
      refine t_q (q_as (.slice _ _ _) rfl) ?_
      refine t_nil ?_
      refine c_region ?_
      refine t_q (q_mv (.slice _ _ _) rfl) ?_
      refine t_q (q_fieldAddr 4 Tryd.runUnderlying25 rfl Tryd.sizeOf23 (by decide) rfl rfl) ?_
      refine t_q (q_load1 Tryd.isAgg23 rfl (hS.cell (by repeat first | exact .here _ _ | assumption | apply Pick.there) rfl)) ?_
      refine t_q (q_mv (.int _ _) rfl) ?_
      first | refine t_index_nat Tryd.runUnderlying23 Tryd.sizeOf42 (hx.frd.st hS) rfl rfl (by omega) (fun ad18 hl18 hx18 => ?_) | refine t_index Tryd.runUnderlying23 Tryd.sizeOf42 (hx.frd.st hS) rfl rfl (by omega) (fun ad18 hl18 hx18 => ?_)
      refine t_q (q_fieldAddr 2 Tryd.runUnderlying42 rfl Tryd.sizeOf2 (by decide) rfl rfl) ?_
      refine t_q (q_load1 Tryd.isAgg2 rfl (hx18 2 _ rfl)) ?_
      refine t_call Tryd.call53 (qwInt (n := (x.fees.l.getD j default).taker) hS (by omega) (by omega)) rfl ?_
      rintro e w ⟨A92, n92, c92, rfl, hn92, hS⟩
      refine ⟨_, rfl, ?_⟩
      have ht92 := zlen (n := (x.fees.l.getD j default).taker) ⟨by omega, by omega⟩
      refine t_append_own (size := 1) (bytes := 1) Tryd.underlying43 (info_of Tryd.type5) rfl rfl rfl rfl (by decide) hS (by repeat first | exact .here _ _ | assumption | apply Pick.there) (by repeat first | exact .here _ _ | assumption | apply Pick.there) rfl rfl (by first | exact allOne_bv _ | exact allOne_ints _ _ | rfl) (by unfold maxLen; omega) (by omega) (fun A93 c93 w hS => ?_)
      replace hS := (hS.pick (A := rowA 5 1 A93 _ c93 _) (by repeat first | exact .here _ _ | assumption | apply Pick.there)).recast (show _ = rowA 5 1 A93 ((m + n74 + n83) + n92) c93 (((((ru4 x ++ (x.fees.l.take j).flatMap trB) ++ enc (zig (x.fees.l.getD j default).frm)) ++ enc (zig (x.fees.l.getD j default).maker)) ++ enc (zig (x.fees.l.getD j default).taker)).map bv) from by simp only [List.map_append])
      refine t_q (q_as (.slice _ _ _) rfl) ?_
      refine t_nil ?_
      refine c_region ?_
      refine t_q (q_mv (.int _ _) rfl) ?_
      refine t_q (q_add_i64 rfl rfl (by omega)) ?_
      refine t_q (q_as (.int _ _) rfl) ?_
      refine t_nil ?_
      replace hS := (hS.pick (A := rowA 5 1 A93 _ c93 _) (by repeat first | exact .here _ _ | assumption | apply Pick.there)).recast (congrArg (rowA 5 1 A93 _ c93) (show _ = ((ru4 x ++ (x.fees.l.take (j + 1)).flatMap trB)).map bv from by rw [trB_take (by omega)]; simp [trB]))
      refine ⟨k - 1, by omega, j + 1, A93, _, c93, rfl, rfl, ?_, by omega, by omega, (((hS.pick (A := blkA g1 25 _) (by repeat first | exact .here _ _ | assumption | apply Pick.there)).pick (A := rowA 5 1 A93 _ c93 _) (by repeat first | exact .here _ _ | assumption | apply Pick.there))).front2⟩
      rw [trB_take (by omega), hm, hn74, hn83, hn92]
      simp [trB]
      omega
    · intro hc13
      have hc13d := of_decide_eq_false hc13
      obtain rfl : j = x.fees.l.length := by omega
      replace hS := (hS.pick (A := rowA 5 1 A' m c' _) (by repeat first | exact .here _ _ | assumption | apply Pick.there)).recast (show _ = rowA 5 1 A' m c' ((ru5 x).map bv) from by rw [List.take_length]; rfl)
      rw [List.take_length] at hm
      have hm5 : m = (ru5 x).length := hm
      refine c_exit ?_
      refine ite_t rfl ?_
      refine c_seq ?_
      refine c_seq ?_
      refine c_region ?_
      refine t_q (q_fieldAddr 5 Tryd.runUnderlying25 rfl Tryd.sizeOf3 (by decide) rfl rfl) ?_
      refine t_q (q_load1 Tryd.isAgg3 rfl (hS.cell (by repeat first | exact .here _ _ | assumption | apply Pick.there) rfl)) ?_
      refine t_q (q_fieldAddr 6 Tryd.runUnderlying25 rfl Tryd.sizeOf3 (by decide) rfl rfl) ?_
      refine t_q (q_load1 Tryd.isAgg3 rfl (hS.cell (by repeat first | exact .here _ _ | assumption | apply Pick.there) rfl)) ?_
      refine t_q (q_fieldAddr 7 Tryd.runUnderlying25 rfl Tryd.sizeOf3 (by decide) rfl rfl) ?_
      refine t_q (q_load1 Tryd.isAgg3 rfl (hS.cell (by repeat first | exact .here _ _ | assumption | apply Pick.there) rfl)) ?_
      refine t_q (q_fieldAddr 8 Tryd.runUnderlying25 rfl Tryd.sizeOf3 (by decide) rfl rfl) ?_
      refine t_q (q_load1 Tryd.isAgg3 rfl (hS.cell (by repeat first | exact .here _ _ | assumption | apply Pick.there) rfl)) ?_
      refine t_build_ints [_, _, _, _] Tryd.runUnderlying62 Tryd.sizeOf3 Tryd.zeroValue3 rfl rfl (by decide) hS (fun g102 w hS => ?_)
      replace hS := hS.recast (show _ = rowA 3 1 (some ⟨g102, 0, none⟩) 4 4 ([x.round, x.priority, x.self, x.layout].map (Value.int .i64)) from rfl)
      refine t_q (q_len_slice Tryd.runUnderlying62 rfl) ?_
      refine t_q (q_move) ?_
      refine t_nil ?_
      refine c_block ?_
      refine c_loop [3, 7, 104, 105, 106, 107, 108, 109, 110, 111, 112] (fun k σ w => ∃ (j : Nat) (A' : Option Addr) (m c' : Nat), σ 104 = .int .i64 (j : Int) ∧ σ 3 = .slice A' m c' ∧ m = ((ru5 x ++ ints ([x.round, x.priority, x.self, x.layout].take j))).length ∧ j ≤ 4 ∧ 4 - j ≤ k ∧ St W w [rowA 5 1 A' m c' (((ru5 x ++ ints ([x.round, x.priority, x.self, x.layout].take j))).map bv), rowA 3 1 (some ⟨g102, 0, none⟩) 4 4 ([x.round, x.priority, x.self, x.layout].map (Value.int .i64)), blkA g1 25 [.int .i64 x.version, .slice x.ticks.A x.ticks.l.length x.ticks.c, .int .i64 x.lot, .int .i64 x.band, .slice x.fees.A x.fees.l.length x.fees.c, .int .i64 x.round, .int .i64 x.priority, .int .i64 x.self, .int .i64 x.layout]]) (4) rfl (⟨0, A', m, c', rfl, rfl, (by rw [hm5]; simp [ints]), by omega, by omega, (((((hS.pick (A := blkA g1 25 _) (by repeat first | exact .here _ _ | assumption | apply Pick.there)).pick (A := rowA 3 1 _ _ _ _) (by repeat first | exact .here _ _ | assumption | apply Pick.there)).pick (A := rowA 5 1 A' _ _ _) (by repeat first | exact .here _ _ | assumption | apply Pick.there))).front3).recast (congrArg (rowA 5 1 A' m c') (by simp [ints]))⟩) ?_
      skip
      rintro k σ w ⟨j, A', m, c', hj0, h3, hm, hj, hk, hS⟩
      refine c_know 104 hj0 ?_
      refine c_know 3 h3 ?_
      clear hj0 h3
      have hgj : j < 4 → -9223372036854775808 ≤ [x.round, x.priority, x.self, x.layout].getD j 0 ∧ [x.round, x.priority, x.self, x.layout].getD j 0 ≤ 9223372036854775807 := fun h => by
        match j, h with
        | 0, _ => exact hb4
        | 1, _ => exact hb5
        | 2, _ => exact hb6
        | 3, _ => exact hb7
      have hil := ints_length (ns := [x.round, x.priority, x.self, x.layout].take j) (fun n hn => by
        have hn := List.mem_of_mem_take hn
        simp only [List.mem_cons, List.not_mem_nil, or_false] at hn
        omega)
      rw [List.length_take] at hil
      have hns4 : [x.round, x.priority, x.self, x.layout].length = 4 := rfl
      have hml : m ≤ 60000140 := by rw [hm, List.length_append]; omega
      refine c_seq ?_
      refine c_region ?_
      refine t_q (q_lss rfl rfl) ?_
      refine t_nil ?_
      refine c_seq ?_
      refine c_cond rfl ?_ ?_
      · intro hc21
        have hc21d := of_decide_eq_true hc21
        obtain ⟨hz1, hz2⟩ := hgj (by omega)
        refine c_skip ?_
        refine c_seq ?_
        refine c_block ?_
        refine c_seq ?_
        refine c_region ?_
        first | refine t_index_nat Tryd.runUnderlying62 Tryd.sizeOf3 (hS.rowInts (ns := [x.round, x.priority, x.self, x.layout]) (by repeat first | exact .here _ _ | assumption | apply Pick.there) rfl) rfl rfl (by have : [x.round, x.priority, x.self, x.layout].length = 4 := rfl; omega) (fun ad22 hl22 hx22 => ?_) | refine t_index Tryd.runUnderlying62 Tryd.sizeOf3 (hS.rowInts (ns := [x.round, x.priority, x.self, x.layout]) (by repeat first | exact .here _ _ | assumption | apply Pick.there) rfl) rfl rfl (by have : [x.round, x.priority, x.self, x.layout].length = 4 := rfl; omega) (fun ad22 hl22 hx22 => ?_)
        refine t_q (q_load1 Tryd.isAgg3 rfl (hx22 0 _ rfl)) ?_
        refine t_q (q_as (.int _ _) rfl) ?_
        refine t_nil ?_
        refine c_region ?_
        refine t_q (q_mv (.slice _ _ _) rfl) ?_
        refine t_q (q_mv (.int _ _) rfl) ?_
        refine t_call Tryd.call53 (qwInt (n := ([x.round, x.priority, x.self, x.layout].getD j 0)) hS (by omega) (by omega)) rfl ?_
        rintro e w ⟨A110, n110, c110, rfl, hn110, hS⟩
        refine ⟨_, rfl, ?_⟩
        have ht110 := zlen (n := ([x.round, x.priority, x.self, x.layout].getD j 0)) ⟨by omega, by omega⟩
        refine t_append_own (size := 1) (bytes := 1) Tryd.underlying43 (info_of Tryd.type5) rfl rfl rfl rfl (by decide) hS (by repeat first | exact .here _ _ | assumption | apply Pick.there) (by repeat first | exact .here _ _ | assumption | apply Pick.there) rfl rfl (by first | exact allOne_bv _ | exact allOne_ints _ _ | rfl) (by unfold maxLen; omega) (by omega) (fun A111 c111 w hS => ?_)
        replace hS := (hS.pick (A := rowA 5 1 A111 _ c111 _) (by repeat first | exact .here _ _ | assumption | apply Pick.there)).recast (show _ = rowA 5 1 A111 (m + n110) c111 (((ru5 x ++ ints ([x.round, x.priority, x.self, x.layout].take j)) ++ enc (zig ([x.round, x.priority, x.self, x.layout].getD j 0))).map bv) from by simp only [List.map_append])
        refine t_q (q_as (.slice _ _ _) rfl) ?_
        refine t_nil ?_
        refine c_region ?_
        refine t_q (q_add_i64 rfl rfl (by omega)) ?_
        refine t_q (q_mv (.int _ _) rfl) ?_
        refine t_nil ?_
        replace hS := (hS.pick (A := rowA 5 1 A111 _ c111 _) (by repeat first | exact .here _ _ | assumption | apply Pick.there)).recast (congrArg (rowA 5 1 A111 _ c111) (show _ = (ru5 x ++ ints ([x.round, x.priority, x.self, x.layout].take (j + 1))).map bv from by rw [ints_snoc (by omega)]; simp))
        refine ⟨k - 1, by omega, j + 1, A111, _, c111, rfl, rfl, ?_, by omega, by omega, ((((hS.pick (A := blkA g1 25 _) (by repeat first | exact .here _ _ | assumption | apply Pick.there)).pick (A := rowA 3 1 _ _ _ _) (by repeat first | exact .here _ _ | assumption | apply Pick.there)).pick (A := rowA 5 1 A111 _ c111 _) (by repeat first | exact .here _ _ | assumption | apply Pick.there))).front3⟩
        rw [ints_snoc (by omega), hm, hn110]
        simp
        omega
      · intro hc21
        have hc21d := of_decide_eq_false hc21
        obtain rfl : j = 4 := by omega
        refine c_exit ?_
        refine ite_t rfl ?_
        refine c_seq ?_
        refine c_region ?_
        refine t_q (q_mv (.slice _ _ _) rfl) ?_
        refine t_q (q_as (.slice _ _ _) rfl) ?_
        refine t_nil ?_
        refine c_ret ?_
        refine r_one rfl rfl ?_
        exact ⟨A', m, c', rfl, hm, hS.front1⟩
end Go.Proofs.YtmgobaojioaioaaDoor
