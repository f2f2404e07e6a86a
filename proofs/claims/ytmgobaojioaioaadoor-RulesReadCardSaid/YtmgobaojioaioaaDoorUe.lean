/- Rule sets as bytes. -/
import Derived.Test.YtmgobaojioaioaaDoorUd
import Derived.Test.YtmgobaojioaioaaDoorCt
namespace Go.Proofs.YtmgobaojioaioaaDoor
open Go Go.RowKit Go.Lib
variable {W : World}
def tkB (e : Tk) : List UInt8 := enc (zig e.frm) ++ enc (zig e.size)
def trB (e : Tr) : List UInt8 := enc (zig e.frm) ++ (enc (zig e.maker) ++ enc (zig e.taker))
/-- a rule set's bytes -/
def ru1 (x : RuV) : List UInt8 := enc (zig x.version) ++ enc x.ticks.l.length
def ru2 (x : RuV) : List UInt8 := ru1 x ++ x.ticks.l.flatMap tkB
def ru3 (x : RuV) : List UInt8 := ru2 x ++ (enc (zig x.lot) ++ enc (zig x.band))
def ru4 (x : RuV) : List UInt8 := ru3 x ++ enc x.fees.l.length
def ru5 (x : RuV) : List UInt8 := ru4 x ++ x.fees.l.flatMap trB
def ruB (x : RuV) : List UInt8 := ru5 x ++ ints [x.round, x.priority, x.self, x.layout]
theorem zlen {n : Int} (h : -9223372036854775808 ≤ n ∧ n ≤ 9223372036854775807) : (enc (zig n)).length ≤ 10 := enc_ten (zig_lt h.1 h.2)
theorem tkB_len {e : Tk} (h : e.In) : (tkB e).length ≤ 20 := by
  have h1 := zlen h.1
  have h2 := zlen h.2
  unfold tkB
  rw [List.length_append]
  omega
theorem trB_len {e : Tr} (h : e.In) : (trB e).length ≤ 30 := by
  have h1 := zlen h.1
  have h2 := zlen h.2.1
  have h3 := zlen h.2.2
  unfold trB
  rw [List.length_append, List.length_append]
  omega
theorem tks_len : ∀ (l : List Tk), (∀ e ∈ l, e.In) → (l.flatMap tkB).length ≤ 20 * l.length
  | [], _ => Nat.le_refl 0
  | e :: l, h => by
    have h1 := tkB_len (h e (List.mem_cons_self ..))
    have h2 := tks_len l (fun y hy => h y (List.mem_cons_of_mem _ hy))
    rw [List.flatMap_cons, List.length_append, List.length_cons]
    omega
theorem trs_len : ∀ (l : List Tr), (∀ e ∈ l, e.In) → (l.flatMap trB).length ≤ 30 * l.length
  | [], _ => Nat.le_refl 0
  | e :: l, h => by
    have h1 := trB_len (h e (List.mem_cons_self ..))
    have h2 := trs_len l (fun y hy => h y (List.mem_cons_of_mem _ hy))
    rw [List.flatMap_cons, List.length_append, List.length_cons]
    omega
theorem tkB_take {l : List Tk} {j : Nat} (hj : j < l.length) : (l.take (j + 1)).flatMap tkB = (l.take j).flatMap tkB ++ tkB (l.getD j default) := by
  rw [List.take_add_one, List.flatMap_append, List.getElem?_eq_getElem hj, List.getD_eq_getElem?_getD, List.getElem?_eq_getElem hj]
  simp
theorem trB_take {l : List Tr} {j : Nat} (hj : j < l.length) : (l.take (j + 1)).flatMap trB = (l.take j).flatMap trB ++ trB (l.getD j default) := by
  rw [List.take_add_one, List.flatMap_append, List.getElem?_eq_getElem hj, List.getD_eq_getElem?_getD, List.getElem?_eq_getElem hj]
  simp
theorem ru_lens {W : World} {x : RuV} (hx : x.Gd W) : (ru1 x).length ≤ 20 ∧ (ru2 x).length ≤ 20000020 ∧ (ru3 x).length ≤ 20000040 ∧ (ru4 x).length ≤ 20000050 ∧ (ru5 x).length ≤ 50000050 ∧ (ruB x).length ≤ 50000090 := by
  have a1 := zlen hx.version
  have a2 := enc_ten (n := x.ticks.l.length) (by have := hx.tle; omega)
  have a3 := tks_len x.ticks.l hx.tin
  have a4 := zlen hx.lot
  have a5 := zlen hx.band
  have a6 := enc_ten (n := x.fees.l.length) (by have := hx.fle; omega)
  have a7 := trs_len x.fees.l hx.fin
  have a8 := ints_length (ns := [x.round, x.priority, x.self, x.layout]) (by
    have b1 := hx.round
    have b2 := hx.priority
    have b3 := hx.self
    have b4 := hx.layout
    intro n hn
    simp only [List.mem_cons, List.not_mem_nil, or_false] at hn
    omega)
  have h1 := hx.tle
  have h2 := hx.fle
  simp only [List.length_cons, List.length_nil] at a8
  have l1 : (ru1 x).length ≤ 20 := by unfold ru1; rw [List.length_append]; omega
  have l2 : (ru2 x).length ≤ 20000020 := by unfold ru2; rw [List.length_append]; omega
  have l3 : (ru3 x).length ≤ 20000040 := by unfold ru3; rw [List.length_append, List.length_append]; omega
  have l4 : (ru4 x).length ≤ 20000050 := by unfold ru4; rw [List.length_append]; omega
  have l5 : (ru5 x).length ≤ 50000050 := by unfold ru5; rw [List.length_append]; omega
  exact ⟨l1, l2, l3, l4, l5, by unfold ruB; rw [List.length_append]; omega⟩
attribute [local irreducible] blkA rowA wrA
set_option maxHeartbeats 4000000 in
set_option maxRecDepth 100000 in
theorem rput_gen {w : World} {L R : List Asn} {g : Nat} {bs : List UInt8} {x : RuV} (hS : St W w L) (pk : Pick L (wrA g bs) R) (hxr : ∀ w', St W w' R → x.Gd w') (hb : bs.length ≤ 1000000000) :
  Calls Tryd.prog 19 #[.pointer (some ⟨g, 0, none⟩), .agg x.cells.toArray] w fun e w' => e = .returned (.tuple #[]) ∧ St W w' (wrA g (bs ++ ruB x) :: R) := by
  replace hS := hS.pick pk
  clear pk
  have hx := hxr w hS.drop
  have hb1 := hx.version
  have hb2 := hx.lot
  have hb3 := hx.band
  have hb4 := hx.round
  have hb5 := hx.priority
  have hb6 := hx.self
  have hb7 := hx.layout
  have hb8 := hx.tle
  have hb9 := hx.fle
  obtain ⟨r1, r2, r3, r4, r5, r6⟩ := ru_lens hx
  have y1 := zlen hb1
  have y2 := zlen hb2
  have y3 := zlen hb3
  refine calls_of_wpE (args := [_, _]) Tryd.func19 rfl rfl rfl ?_
  refine c_seq ?_
  refine c_region ?_
  refine t_box (v := (.agg _)) rfl rfl hS (fun g3 w hS => ?_)
  replace hS := hS.recast (show _ = blkA g3 25 [.int .i64 x.version, .slice x.ticks.A x.ticks.l.length x.ticks.c, .int .i64 x.lot, .int .i64 x.band, .slice x.fees.A x.fees.l.length x.fees.c, .int .i64 x.round, .int .i64 x.priority, .int .i64 x.self, .int .i64 x.layout] from rfl)
  refine t_nil ?_
  refine c_seq ?_
  refine c_region ?_
  refine t_q (q_mv (.pointer _) rfl) ?_
  refine t_q (q_fieldAddr 0 Tryd.runUnderlying25 rfl Tryd.sizeOf3 (by decide) rfl rfl) ?_
  refine t_q (q_load1 Tryd.isAgg3 rfl (hS.cell (by repeat first | exact .here _ _ | assumption | apply Pick.there) rfl)) ?_
  refine t_build_ints [_] Tryd.runUnderlying111 Tryd.sizeOf2 Tryd.zeroValue2 rfl rfl (by decide) hS (fun g11 w hS => ?_)
  refine t_call Tryd.call51 (Int_calls (ns := [x.version]) hS (by repeat first | exact .here _ _ | assumption | apply Pick.there) (fun _ h => h.rowInts (.here _ _) rfl) (by intro m hm; simp only [List.mem_cons, List.not_mem_nil, or_false] at hm; omega) (by simp) (by first | omega | (simp only [List.length_append]; omega))) rfl ?_
  rintro e w ⟨rfl, hS⟩
  refine ⟨_, rfl, ?_⟩
  replace hS := hS.swap.recast (congrArg (wrA g) (show _ = bs ++ enc (zig x.version) from by simp [ints, ru1, ru3, ruB, tkB, trB]))
  refine t_nil ?_
  refine c_seq ?_
  refine c_region ?_
  refine t_q (q_mv (.pointer _) rfl) ?_
  refine t_q (q_fieldAddr 1 Tryd.runUnderlying25 rfl Tryd.sizeOf22 (by decide) rfl rfl) ?_
  refine t_q (q_load1 Tryd.isAgg22 rfl (hS.cell (by repeat first | exact .here _ _ | assumption | apply Pick.there) rfl)) ?_
  refine t_q (q_len_slice Tryd.runUnderlying22 rfl) ?_
  first | refine t_q (q_conv_u64 Tryd.runUnderlying3 Tryd.runUnderlying89 rfl (by omega)) ?_ | refine t_q (q_convm_u64 Tryd.runUnderlying3 Tryd.runUnderlying89 rfl) ?_
  refine t_build_ints [_] Tryd.runUnderlying113 Tryd.sizeOf89 Tryd.zeroValue89 rfl rfl (by decide) hS (fun g18 w hS => ?_)
  refine t_call Tryd.call52 (Nat_calls (ns := [(x.ticks.l.length : Int)]) hS (by repeat first | exact .here _ _ | assumption | apply Pick.there) (fun _ h => h.rowInts (.here _ _) rfl) (by intro m hm; simp only [List.mem_cons, List.not_mem_nil, or_false] at hm; omega) (by simp) (by first | omega | (simp only [List.length_append]; omega))) rfl ?_
  rintro e w ⟨rfl, hS⟩
  refine ⟨_, rfl, ?_⟩
  replace hS := hS.swap.recast (congrArg (wrA g) (show _ = bs ++ ru1 x from by simp [encs, ru1, ru4]))
  refine t_nil ?_
  refine c_seq ?_
  refine c_seq ?_
  refine c_region ?_
  refine t_q (q_fieldAddr 1 Tryd.runUnderlying25 rfl Tryd.sizeOf22 (by decide) rfl rfl) ?_
  refine t_q (q_load1 Tryd.isAgg22 rfl (hS.cell (by repeat first | exact .here _ _ | assumption | apply Pick.there) rfl)) ?_
  refine t_q (q_len_slice Tryd.runUnderlying22 rfl) ?_
  refine t_q (q_move) ?_
  refine t_nil ?_
  refine c_block ?_
  refine c_loop [5, 23, 24, 25, 26, 27, 28, 29, 30, 31, 32, 33, 34] (fun k σ w => ∃ j : Nat, σ 23 = .int .i64 (j : Int) ∧ j ≤ x.ticks.l.length ∧ x.ticks.l.length - j ≤ k ∧ St W w (wrA g (bs ++ (ru1 x ++ (x.ticks.l.take j).flatMap tkB)) :: blkA g3 25 [.int .i64 x.version, .slice x.ticks.A x.ticks.l.length x.ticks.c, .int .i64 x.lot, .int .i64 x.band, .slice x.fees.A x.fees.l.length x.fees.c, .int .i64 x.round, .int .i64 x.priority, .int .i64 x.self, .int .i64 x.layout] :: R)) (x.ticks.l.length) rfl (⟨0, rfl, by omega, by omega, (((hS.pick (A := blkA g3 25 _) (by repeat first | exact .here _ _ | assumption | apply Pick.there)).pick (A := wrA g _) (by repeat first | exact .here _ _ | assumption | apply Pick.there))).recast (congrArg (wrA g) (by simp))⟩) ?_
  skip
  rintro k σ w ⟨j, hj0, hj, hk, hS⟩
  refine c_know 23 hj0 ?_
  clear hj0
  have hpl := tks_len (x.ticks.l.take j) (fun e he => hx.tin e (List.mem_of_mem_take he))
  rw [List.length_take] at hpl
  have hpl2 : (bs ++ (ru1 x ++ (x.ticks.l.take j).flatMap tkB)).length ≤ 1021000000 := by rw [List.length_append, List.length_append]; omega
  refine c_seq ?_
  refine c_region ?_
  refine t_q (q_lss rfl rfl) ?_
  refine t_nil ?_
  refine c_seq ?_
  refine c_cond rfl ?_ ?_
  · intro hc4
    have hc4d := of_decide_eq_true hc4
    refine c_skip ?_
    refine c_seq ?_
    refine c_block ?_
    refine c_seq ?_
    refine c_region ?_
    first | refine t_index_nat Tryd.runUnderlying22 Tryd.sizeOf40 ((hxr _ ((hS.pick (A := blkA g3 25 _) (by repeat first | exact .here _ _ | assumption | apply Pick.there)).pick (A := wrA g _) (by repeat first | exact .here _ _ | assumption | apply Pick.there)).drop.drop).trd) rfl rfl (by omega) (fun ad5 hl5 hx5 => ?_) | refine t_index Tryd.runUnderlying22 Tryd.sizeOf40 ((hxr _ ((hS.pick (A := blkA g3 25 _) (by repeat first | exact .here _ _ | assumption | apply Pick.there)).pick (A := wrA g _) (by repeat first | exact .here _ _ | assumption | apply Pick.there)).drop.drop).trd) rfl rfl (by omega) (fun ad5 hl5 hx5 => ?_)
    refine t_q (q_loadN Tryd.isAgg40 Tryd.sizeOf40 rfl hl5 hx5) ?_
    refine t_alloc Tryd.zeroValue40 rfl hS (fun g5 w hS => ?_)
    refine t_store (v := (.agg _)) Tryd.sizeOf40 hS (by repeat first | exact .here _ _ | assumption | apply Pick.there) rfl rfl rfl rfl rfl rfl (fun w hS => ?_)
    replace hS := hS.recast (show blkA g5 40 _ = blkA g5 40 [.int .i64 (x.ticks.l.getD j default).frm, .int .i64 (x.ticks.l.getD j default).size] from rfl)
    have hz := tk_in hx.tin (show j < x.ticks.l.length by omega)
    obtain ⟨hz1, hz2⟩ := id hz
    refine t_nil ?_
    refine c_region ?_
    refine t_q (q_mv (.pointer _) rfl) ?_
    refine t_q (q_fieldAddr 0 Tryd.runUnderlying40 rfl Tryd.sizeOf2 (by decide) rfl rfl) ?_
    refine t_q (q_load1 Tryd.isAgg2 rfl (hS.cell (by repeat first | exact .here _ _ | assumption | apply Pick.there) rfl)) ?_
    refine t_q (q_fieldAddr 1 Tryd.runUnderlying40 rfl Tryd.sizeOf2 (by decide) rfl rfl) ?_
    refine t_q (q_load1 Tryd.isAgg2 rfl (hS.cell (by repeat first | exact .here _ _ | assumption | apply Pick.there) rfl)) ?_
    refine t_build_ints [_, _] Tryd.runUnderlying111 Tryd.sizeOf2 Tryd.zeroValue2 rfl rfl (by decide) hS (fun g32 w hS => ?_)
    refine t_call Tryd.call51 (Int_calls (ns := [(x.ticks.l.getD j default).frm, (x.ticks.l.getD j default).size]) hS (by repeat first | exact .here _ _ | assumption | apply Pick.there) (fun _ h => h.rowInts (.here _ _) rfl) (by intro m hm; simp only [List.mem_cons, List.not_mem_nil, or_false] at hm; omega) (by simp) (by first | omega | (simp only [List.length_append]; omega))) rfl ?_
    rintro e w ⟨rfl, hS⟩
    refine ⟨_, rfl, ?_⟩
    replace hS := hS.swap.recast (congrArg (wrA g) (show _ = (bs ++ (ru1 x ++ (x.ticks.l.take j).flatMap tkB)) ++ tkB (x.ticks.l.getD j default) from by simp [ints, ru1, ru3, ruB, tkB, trB]))
    refine t_nil ?_
    refine c_region ?_
    refine t_q (q_add_i64 rfl rfl (by omega)) ?_
    refine t_q (q_mv (.int _ _) rfl) ?_
    refine t_nil ?_
    replace hS := (hS.pick (A := wrA g _) (by repeat first | exact .here _ _ | assumption | apply Pick.there)).recast (congrArg (wrA g) (show _ = bs ++ (ru1 x ++ (x.ticks.l.take (j + 1)).flatMap tkB) from by rw [tkB_take (by omega)]; simp only [List.append_assoc]))
    replace hS := (hS.pick (A := blkA g5 40 _) (by repeat first | exact .here _ _ | assumption | apply Pick.there)).drop
    exact ⟨k - 1, by omega, j + 1, rfl, by omega, by omega, ((hS.pick (A := blkA g3 25 _) (by repeat first | exact .here _ _ | assumption | apply Pick.there)).pick (A := wrA g _) (by repeat first | exact .here _ _ | assumption | apply Pick.there))⟩
  · intro hc4
    have hc4d := of_decide_eq_false hc4
    obtain rfl : j = x.ticks.l.length := by omega
    replace hS := hS.recast (congrArg (wrA g) (show _ = bs ++ ru2 x from by rw [List.take_length]; rfl))
    refine c_exit ?_
    refine ite_t rfl ?_
    refine c_seq ?_
    refine c_region ?_
    refine t_q (q_mv (.pointer _) rfl) ?_
    refine t_q (q_fieldAddr 2 Tryd.runUnderlying25 rfl Tryd.sizeOf2 (by decide) rfl rfl) ?_
    refine t_q (q_load1 Tryd.isAgg2 rfl (hS.cell (by repeat first | exact .here _ _ | assumption | apply Pick.there) rfl)) ?_
    refine t_q (q_fieldAddr 3 Tryd.runUnderlying25 rfl Tryd.sizeOf2 (by decide) rfl rfl) ?_
    refine t_q (q_load1 Tryd.isAgg2 rfl (hS.cell (by repeat first | exact .here _ _ | assumption | apply Pick.there) rfl)) ?_
    refine t_build_ints [_, _] Tryd.runUnderlying111 Tryd.sizeOf2 Tryd.zeroValue2 rfl rfl (by decide) hS (fun g40 w hS => ?_)
    refine t_call Tryd.call51 (Int_calls (ns := [x.lot, x.band]) hS (by repeat first | exact .here _ _ | assumption | apply Pick.there) (fun _ h => h.rowInts (.here _ _) rfl) (by intro m hm; simp only [List.mem_cons, List.not_mem_nil, or_false] at hm; omega) (by simp) (by first | omega | (simp only [List.length_append]; omega))) rfl ?_
    rintro e w ⟨rfl, hS⟩
    refine ⟨_, rfl, ?_⟩
    replace hS := hS.swap.recast (congrArg (wrA g) (show _ = bs ++ ru3 x from by simp [ints, ru1, ru3, ruB, tkB, trB]))
    refine t_nil ?_
    refine c_seq ?_
    refine c_region ?_
    refine t_q (q_mv (.pointer _) rfl) ?_
    refine t_q (q_fieldAddr 4 Tryd.runUnderlying25 rfl Tryd.sizeOf23 (by decide) rfl rfl) ?_
    refine t_q (q_load1 Tryd.isAgg23 rfl (hS.cell (by repeat first | exact .here _ _ | assumption | apply Pick.there) rfl)) ?_
    refine t_q (q_len_slice Tryd.runUnderlying23 rfl) ?_
    first | refine t_q (q_conv_u64 Tryd.runUnderlying3 Tryd.runUnderlying89 rfl (by omega)) ?_ | refine t_q (q_convm_u64 Tryd.runUnderlying3 Tryd.runUnderlying89 rfl) ?_
    refine t_build_ints [_] Tryd.runUnderlying113 Tryd.sizeOf89 Tryd.zeroValue89 rfl rfl (by decide) hS (fun g47 w hS => ?_)
    refine t_call Tryd.call52 (Nat_calls (ns := [(x.fees.l.length : Int)]) hS (by repeat first | exact .here _ _ | assumption | apply Pick.there) (fun _ h => h.rowInts (.here _ _) rfl) (by intro m hm; simp only [List.mem_cons, List.not_mem_nil, or_false] at hm; omega) (by simp) (by first | omega | (simp only [List.length_append]; omega))) rfl ?_
    rintro e w ⟨rfl, hS⟩
    refine ⟨_, rfl, ?_⟩
    replace hS := hS.swap.recast (congrArg (wrA g) (show _ = bs ++ ru4 x from by simp [encs, ru1, ru4]))
    refine t_nil ?_
    refine c_seq ?_
    refine c_seq ?_
    refine c_region ?_
    refine t_q (q_fieldAddr 4 Tryd.runUnderlying25 rfl Tryd.sizeOf23 (by decide) rfl rfl) ?_
    refine t_q (q_load1 Tryd.isAgg23 rfl (hS.cell (by repeat first | exact .here _ _ | assumption | apply Pick.there) rfl)) ?_
    refine t_q (q_len_slice Tryd.runUnderlying23 rfl) ?_
    refine t_q (q_move) ?_
    refine t_nil ?_
    refine c_block ?_
    refine c_loop [7, 52, 53, 54, 55, 56, 57, 58, 59, 60, 61, 62, 63, 64, 65] (fun k σ w => ∃ j : Nat, σ 52 = .int .i64 (j : Int) ∧ j ≤ x.fees.l.length ∧ x.fees.l.length - j ≤ k ∧ St W w (wrA g (bs ++ (ru4 x ++ (x.fees.l.take j).flatMap trB)) :: blkA g3 25 [.int .i64 x.version, .slice x.ticks.A x.ticks.l.length x.ticks.c, .int .i64 x.lot, .int .i64 x.band, .slice x.fees.A x.fees.l.length x.fees.c, .int .i64 x.round, .int .i64 x.priority, .int .i64 x.self, .int .i64 x.layout] :: R)) (x.fees.l.length) rfl (⟨0, rfl, by omega, by omega, (((hS.pick (A := blkA g3 25 _) (by repeat first | exact .here _ _ | assumption | apply Pick.there)).pick (A := wrA g _) (by repeat first | exact .here _ _ | assumption | apply Pick.there))).recast (congrArg (wrA g) (by simp))⟩) ?_
    skip
    rintro k σ w ⟨j, hj0, hj, hk, hS⟩
    refine c_know 52 hj0 ?_
    clear hj0
    have hpl := trs_len (x.fees.l.take j) (fun e he => hx.fin e (List.mem_of_mem_take he))
    rw [List.length_take] at hpl
    have hpl2 : (bs ++ (ru4 x ++ (x.fees.l.take j).flatMap trB)).length ≤ 1052000000 := by rw [List.length_append, List.length_append]; omega
    refine c_seq ?_
    refine c_region ?_
    refine t_q (q_lss rfl rfl) ?_
    refine t_nil ?_
    refine c_seq ?_
    refine c_cond rfl ?_ ?_
    · intro hc10
      have hc10d := of_decide_eq_true hc10
      refine c_skip ?_
      refine c_seq ?_
      refine c_block ?_
      refine c_seq ?_
      refine c_region ?_
      first | refine t_index_nat Tryd.runUnderlying23 Tryd.sizeOf42 ((hxr _ ((hS.pick (A := blkA g3 25 _) (by repeat first | exact .here _ _ | assumption | apply Pick.there)).pick (A := wrA g _) (by repeat first | exact .here _ _ | assumption | apply Pick.there)).drop.drop).frd) rfl rfl (by omega) (fun ad11 hl11 hx11 => ?_) | refine t_index Tryd.runUnderlying23 Tryd.sizeOf42 ((hxr _ ((hS.pick (A := blkA g3 25 _) (by repeat first | exact .here _ _ | assumption | apply Pick.there)).pick (A := wrA g _) (by repeat first | exact .here _ _ | assumption | apply Pick.there)).drop.drop).frd) rfl rfl (by omega) (fun ad11 hl11 hx11 => ?_)
      refine t_q (q_loadN Tryd.isAgg42 Tryd.sizeOf42 rfl hl11 hx11) ?_
      refine t_alloc Tryd.zeroValue42 rfl hS (fun g7 w hS => ?_)
      refine t_store (v := (.agg _)) Tryd.sizeOf42 hS (by repeat first | exact .here _ _ | assumption | apply Pick.there) rfl rfl rfl rfl rfl rfl (fun w hS => ?_)
      replace hS := hS.recast (show blkA g7 42 _ = blkA g7 42 [.int .i64 (x.fees.l.getD j default).frm, .int .i64 (x.fees.l.getD j default).maker, .int .i64 (x.fees.l.getD j default).taker] from rfl)
      have hz := tr_in hx.fin (show j < x.fees.l.length by omega)
      obtain ⟨hz1, hz2, hz3⟩ := id hz
      refine t_nil ?_
      refine c_region ?_
      refine t_q (q_mv (.pointer _) rfl) ?_
      refine t_q (q_fieldAddr 0 Tryd.runUnderlying42 rfl Tryd.sizeOf2 (by decide) rfl rfl) ?_
      refine t_q (q_load1 Tryd.isAgg2 rfl (hS.cell (by repeat first | exact .here _ _ | assumption | apply Pick.there) rfl)) ?_
      refine t_q (q_fieldAddr 1 Tryd.runUnderlying42 rfl Tryd.sizeOf2 (by decide) rfl rfl) ?_
      refine t_q (q_load1 Tryd.isAgg2 rfl (hS.cell (by repeat first | exact .here _ _ | assumption | apply Pick.there) rfl)) ?_
      refine t_q (q_fieldAddr 2 Tryd.runUnderlying42 rfl Tryd.sizeOf2 (by decide) rfl rfl) ?_
      refine t_q (q_load1 Tryd.isAgg2 rfl (hS.cell (by repeat first | exact .here _ _ | assumption | apply Pick.there) rfl)) ?_
      refine t_build_ints [_, _, _] Tryd.runUnderlying111 Tryd.sizeOf2 Tryd.zeroValue2 rfl rfl (by decide) hS (fun g63 w hS => ?_)
      refine t_call Tryd.call51 (Int_calls (ns := [(x.fees.l.getD j default).frm, (x.fees.l.getD j default).maker, (x.fees.l.getD j default).taker]) hS (by repeat first | exact .here _ _ | assumption | apply Pick.there) (fun _ h => h.rowInts (.here _ _) rfl) (by intro m hm; simp only [List.mem_cons, List.not_mem_nil, or_false] at hm; omega) (by simp) (by first | omega | (simp only [List.length_append]; omega))) rfl ?_
      rintro e w ⟨rfl, hS⟩
      refine ⟨_, rfl, ?_⟩
      replace hS := hS.swap.recast (congrArg (wrA g) (show _ = (bs ++ (ru4 x ++ (x.fees.l.take j).flatMap trB)) ++ trB (x.fees.l.getD j default) from by simp [ints, ru1, ru3, ruB, tkB, trB]))
      refine t_nil ?_
      refine c_region ?_
      refine t_q (q_add_i64 rfl rfl (by omega)) ?_
      refine t_q (q_mv (.int _ _) rfl) ?_
      refine t_nil ?_
      replace hS := (hS.pick (A := wrA g _) (by repeat first | exact .here _ _ | assumption | apply Pick.there)).recast (congrArg (wrA g) (show _ = bs ++ (ru4 x ++ (x.fees.l.take (j + 1)).flatMap trB) from by rw [trB_take (by omega)]; simp only [List.append_assoc]))
      replace hS := (hS.pick (A := blkA g7 42 _) (by repeat first | exact .here _ _ | assumption | apply Pick.there)).drop
      exact ⟨k - 1, by omega, j + 1, rfl, by omega, by omega, ((hS.pick (A := blkA g3 25 _) (by repeat first | exact .here _ _ | assumption | apply Pick.there)).pick (A := wrA g _) (by repeat first | exact .here _ _ | assumption | apply Pick.there))⟩
    · intro hc10
      have hc10d := of_decide_eq_false hc10
      obtain rfl : j = x.fees.l.length := by omega
      replace hS := hS.recast (congrArg (wrA g) (show _ = bs ++ ru5 x from by rw [List.take_length]; rfl))
      refine c_exit ?_
      refine ite_t rfl ?_
      refine c_region ?_
      refine t_q (q_mv (.pointer _) rfl) ?_
      refine t_q (q_fieldAddr 5 Tryd.runUnderlying25 rfl Tryd.sizeOf3 (by decide) rfl rfl) ?_
      refine t_q (q_load1 Tryd.isAgg3 rfl (hS.cell (by repeat first | exact .here _ _ | assumption | apply Pick.there) rfl)) ?_
      refine t_q (q_fieldAddr 6 Tryd.runUnderlying25 rfl Tryd.sizeOf3 (by decide) rfl rfl) ?_
      refine t_q (q_load1 Tryd.isAgg3 rfl (hS.cell (by repeat first | exact .here _ _ | assumption | apply Pick.there) rfl)) ?_
      refine t_q (q_fieldAddr 7 Tryd.runUnderlying25 rfl Tryd.sizeOf3 (by decide) rfl rfl) ?_
      refine t_q (q_load1 Tryd.isAgg3 rfl (hS.cell (by repeat first | exact .here _ _ | assumption | apply Pick.there) rfl)) ?_
      refine t_q (q_fieldAddr 8 Tryd.runUnderlying25 rfl Tryd.sizeOf3 (by decide) rfl rfl) ?_
      refine t_q (q_load1 Tryd.isAgg3 rfl (hS.cell (by repeat first | exact .here _ _ | assumption | apply Pick.there) rfl)) ?_
      refine t_build_ints [_, _, _, _] Tryd.runUnderlying111 Tryd.sizeOf2 Tryd.zeroValue2 rfl rfl (by decide) hS (fun g75 w hS => ?_)
      refine t_call Tryd.call51 (Int_calls (ns := [x.round, x.priority, x.self, x.layout]) hS (by repeat first | exact .here _ _ | assumption | apply Pick.there) (fun _ h => h.rowInts (.here _ _) rfl) (by intro m hm; simp only [List.mem_cons, List.not_mem_nil, or_false] at hm; omega) (by simp) (by first | omega | (simp only [List.length_append]; omega))) rfl ?_
      rintro e w ⟨rfl, hS⟩
      refine ⟨_, rfl, ?_⟩
      replace hS := hS.swap.recast (congrArg (wrA g) (show _ = bs ++ ruB x from by simp [ints, ru1, ru3, ruB, tkB, trB]))
      refine t_nil ?_
      refine r_none rfl  ?_
      exact ⟨rfl, ((hS.pick (A := blkA g3 25 _) (by repeat first | exact .here _ _ | assumption | apply Pick.there)).pick (A := wrA g _) (by repeat first | exact .here _ _ | assumption | apply Pick.there)).swap⟩
theorem rput_calls {w : World} {L R : List Asn} {g : Nat} {bs : List UInt8} {x : RuV} (hS : St W w L) (pk : Pick L (wrA g bs) R) (hx : x.Gd W) (hb : bs.length ≤ 1000000000) :
  Calls Tryd.prog 19 #[.pointer (some ⟨g, 0, none⟩), .agg x.cells.toArray] w fun e w' => e = .returned (.tuple #[]) ∧ St W w' (wrA g (bs ++ ruB x) :: R) := rput_gen hS pk (fun _ h => hx.st h) hb
end Go.Proofs.YtmgobaojioaioaaDoor
