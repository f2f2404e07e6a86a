/- States as bytes: plain; written. -/
import Derived.Test.YtmgobaojioaioaaYa
import Derived.Test.YtmgobaojioaioaaYc
import Derived.Test.YtmgobaojioaioaaCe
import Derived.Test.YtmgobaojioaioaaUg
namespace Go.Proofs.Ytmgobaojioaioaa
open Go Go.RowKit Go.Lib
variable {W : World}
/-- a state's bytes -/
def stB (s : StV) : List UInt8 := enc (zig s.active) ++ (enc (zig s.previous) ++ (enc (zig s.pending) ++ (enc s.at_.toNat ++ enc (zig s.shadow))))
theorem stB_len {s : StV} (h : s.In) : (stB s).length ≤ 50 := by
  have h1 := enc_ten (zig_lt h.1.1 h.1.2)
  have h2 := enc_ten (zig_lt h.2.1.1 h.2.1.2)
  have h3 := enc_ten (zig_lt h.2.2.1.1 h.2.2.1.2)
  have h4 := enc_ten (n := s.at_.toNat) (by have := h.2.2.2.1; omega)
  have h5 := enc_ten (zig_lt h.2.2.2.2.1 h.2.2.2.2.2)
  unfold stB
  simp only [List.length_append]
  omega
def v0 (s : Rs) : Int × Rs := s.int
def v1 (s : Rs) : Int × Rs := (v0 s).2.int
def v2 (s : Rs) : Int × Rs := (v1 s).2.int
def v3 (s : Rs) : Nat × Rs := (v2 s).2.nat allNat
def v4 (s : Rs) : Int × Rs := (v3 s).2.int
def stM (s : Rs) : StV := ⟨(v0 s).1, (v1 s).1, (v2 s).1, ((v3 s).1 : Int), (v4 s).1⟩
def vrd (s : Rs) : StV := if (v4 s).2.bad then ⟨0, 0, 0, 0, 0⟩ else stM s
theorem vrd_bad {s : Rs} (h : (v4 s).2.bad = true) : vrd s = ⟨0, 0, 0, 0, 0⟩ := by unfold vrd; rw [h]; rfl
theorem vrd_ok {s : Rs} (h : (v4 s).2.bad = false) : vrd s = stM s := by unfold vrd; rw [h]; rfl
theorem v3_le (s : Rs) : (v3 s).1 ≤ allNat := by unfold v3; exact Rs.nat_le _ _
theorem stM_in (s : Rs) : (stM s).In := by
  refine ⟨by show _ ≤ (v0 s).1 ∧ _; unfold v0; exact int_in _, by show _ ≤ (v1 s).1 ∧ _; unfold v1; exact int_in _, by show _ ≤ (v2 s).1 ∧ _; unfold v2; exact int_in _, ?_, by show _ ≤ (v4 s).1 ∧ _; unfold v4; exact int_in _⟩
  have h := v3_le s
  unfold allNat at h
  show 0 ≤ ((v3 s).1 : Int) ∧ ((v3 s).1 : Int) < _
  omega
theorem vrd_in (s : Rs) : (vrd s).In := by
  cases h : (v4 s).2.bad with
  | true => rw [vrd_bad h]; exact ⟨by decide, by decide, by decide, by decide, by decide⟩
  | false => rw [vrd_ok h]; exact stM_in s
theorem sv_back {x : StV} (hx : x.In) : vrd ⟨stB x, false⟩ = x ∧ (v4 ⟨stB x, false⟩).2 = ⟨[], false⟩ := by
  have e0 : v0 ⟨stB x, false⟩ = (x.active, ⟨enc (zig x.previous) ++ (enc (zig x.pending) ++ (enc x.at_.toNat ++ enc (zig x.shadow))), false⟩) := by unfold v0; exact int_go rfl hx.1
  have e1 : v1 ⟨stB x, false⟩ = (x.previous, ⟨enc (zig x.pending) ++ (enc x.at_.toNat ++ enc (zig x.shadow)), false⟩) := by unfold v1; exact int_go (by rw [e0]) hx.2.1
  have e2 : v2 ⟨stB x, false⟩ = (x.pending, ⟨enc x.at_.toNat ++ enc (zig x.shadow), false⟩) := by unfold v2; exact int_go (by rw [e1]) hx.2.2.1
  have h4 := hx.2.2.2.1
  have e3 : v3 ⟨stB x, false⟩ = (x.at_.toNat, ⟨enc (zig x.shadow), false⟩) := by unfold v3; exact nat_go (by rw [e2]) (by unfold allNat; omega) (by decide)
  have e4 : v4 ⟨stB x, false⟩ = (x.shadow, ⟨[], false⟩) := by unfold v4; exact int_go (by rw [e3, List.append_nil]) hx.2.2.2.2
  refine ⟨?_, by rw [e4]⟩
  rw [vrd_ok (by rw [e4])]
  unfold stM
  rw [e0, e1, e2, e3, e4]
  show (⟨x.active, x.previous, x.pending, (x.at_.toNat : Int), x.shadow⟩ : StV) = x
  rw [Int.toNat_of_nonneg h4.1]
attribute [local irreducible] blkA rowA rdsA mapA regA wrA rdrA
set_option maxRecDepth 100000 in
theorem vput_calls {w : World} {L R : List Asn} {g : Nat} {bs : List UInt8} {x : StV} (hS : St W w L) (pk : Pick L (wrA g bs) R) (hx : x.In) (hb : bs.length ≤ 1000000000) : Calls Try.prog 32 #[.pointer (some ⟨g, 0, none⟩), .agg x.cells.toArray] w fun e w' => e = .returned (.tuple #[]) ∧ St W w' (wrA g (bs ++ stB x) :: R) := by
  replace hS := hS.pick pk
  clear pk
  obtain ⟨r1, r2, r3, r4, r5⟩ := id hx
  have y1 := enc_ten (zig_lt r1.1 r1.2)
  have y2 := enc_ten (zig_lt r2.1 r2.2)
  have y3 := enc_ten (zig_lt r3.1 r3.2)
  have y4 := enc_ten (n := x.at_.toNat) (by omega)
  have y5 := enc_ten (zig_lt r5.1 r5.2)
  refine calls_of_wpE (args := [_, _]) Try.func32 rfl rfl rfl ?_
  refine c_seq ?_
  refine c_region ?_
  refine t_box (v := (.agg _)) rfl rfl hS (fun g3 w hS => ?_)
  replace hS := hS.recast (show _ = blkA g3 28 [.int .i64 x.active, .int .i64 x.previous, .int .i64 x.pending, .int .u64 x.at_, .int .i64 x.shadow] from rfl)
  refine t_nil ?_
  refine c_seq ?_
  refine c_region ?_
  refine t_q (q_mv (.pointer _) rfl) ?_
  refine t_q (q_fieldAddr 0 Try.runUnderlying28 rfl Try.sizeOf3 (by decide) rfl rfl) ?_
  refine t_q (q_load1 Try.isAgg3 rfl (hS.cell (by repeat first | exact .here _ _ | assumption | apply Pick.there) rfl)) ?_
  refine t_q (q_fieldAddr 1 Try.runUnderlying28 rfl Try.sizeOf3 (by decide) rfl rfl) ?_
  refine t_q (q_load1 Try.isAgg3 rfl (hS.cell (by repeat first | exact .here _ _ | assumption | apply Pick.there) rfl)) ?_
  refine t_q (q_fieldAddr 2 Try.runUnderlying28 rfl Try.sizeOf3 (by decide) rfl rfl) ?_
  refine t_q (q_load1 Try.isAgg3 rfl (hS.cell (by repeat first | exact .here _ _ | assumption | apply Pick.there) rfl)) ?_
  refine t_build_ints [_, _, _] Try.runUnderlying158 Try.sizeOf2 Try.zeroValue2 rfl rfl (by decide) hS (fun g11 w hS => ?_)
  refine t_call Try.call83 (Int_calls (ns := [x.active, x.previous, x.pending]) hS (by repeat first | exact .here _ _ | assumption | apply Pick.there) (fun _ h => h.rowInts (.here _ _) rfl) (by intro m hm; simp only [List.mem_cons, List.not_mem_nil, or_false] at hm; omega) (by simp) (by first | omega | (simp only [List.length_append]; omega))) rfl ?_
  rintro e w ⟨rfl, hS⟩
  refine ⟨_, rfl, ?_⟩
  replace hS := hS.swap.recast (congrArg (wrA g) (show _ = bs ++ (enc (zig x.active) ++ (enc (zig x.previous) ++ enc (zig x.pending))) from by simp [ints]))
  refine t_nil ?_
  refine c_seq ?_
  refine c_region ?_
  refine t_q (q_mv (.pointer _) rfl) ?_
  refine t_q (q_fieldAddr 3 Try.runUnderlying28 rfl Try.sizeOf26 (by decide) rfl rfl) ?_
  refine t_q (q_load1 Try.isAgg26 rfl (hS.cell (by repeat first | exact .here _ _ | assumption | apply Pick.there) rfl)) ?_
  refine t_build_ints [_] Try.runUnderlying190 Try.sizeOf26 Try.zeroValue26 rfl rfl (by decide) hS (fun g16 w hS => ?_)
  refine t_call Try.call84 (Nat_calls (ns := [x.at_]) hS (by repeat first | exact .here _ _ | assumption | apply Pick.there) (fun _ h => h.rowInts (.here _ _) rfl) (by intro m hm; simp only [List.mem_cons, List.not_mem_nil, or_false] at hm; omega) (by simp) (by first | omega | (simp only [List.length_append]; omega))) rfl ?_
  rintro e w ⟨rfl, hS⟩
  refine ⟨_, rfl, ?_⟩
  replace hS := hS.swap.recast (congrArg (wrA g) (show _ = (bs ++ (enc (zig x.active) ++ (enc (zig x.previous) ++ enc (zig x.pending)))) ++ enc x.at_.toNat from by simp [encs]))
  refine t_nil ?_
  refine c_region ?_
  refine t_q (q_mv (.pointer _) rfl) ?_
  refine t_q (q_fieldAddr 4 Try.runUnderlying28 rfl Try.sizeOf3 (by decide) rfl rfl) ?_
  refine t_q (q_load1 Try.isAgg3 rfl (hS.cell (by repeat first | exact .here _ _ | assumption | apply Pick.there) rfl)) ?_
  refine t_build_ints [_] Try.runUnderlying158 Try.sizeOf2 Try.zeroValue2 rfl rfl (by decide) hS (fun g21 w hS => ?_)
  refine t_call Try.call83 (Int_calls (ns := [x.shadow]) hS (by repeat first | exact .here _ _ | assumption | apply Pick.there) (fun _ h => h.rowInts (.here _ _) rfl) (by intro m hm; simp only [List.mem_cons, List.not_mem_nil, or_false] at hm; omega) (by simp) (by first | omega | (simp only [List.length_append]; omega))) rfl ?_
  rintro e w ⟨rfl, hS⟩
  refine ⟨_, rfl, ?_⟩
  replace hS := hS.swap.recast (congrArg (wrA g) (show _ = ((bs ++ (enc (zig x.active) ++ (enc (zig x.previous) ++ enc (zig x.pending)))) ++ enc x.at_.toNat) ++ enc (zig x.shadow) from by simp [ints]))
  refine t_nil ?_
  refine r_none rfl  ?_
  exact ⟨rfl, (((hS.pick (A := blkA g3 28 [.int .i64 x.active, .int .i64 x.previous, .int .i64 x.pending, .int .u64 x.at_, .int .i64 x.shadow]) (by repeat first | exact .here _ _ | assumption | apply Pick.there)).pick (A := wrA g _) (by repeat first | exact .here _ _ | assumption | apply Pick.there)).swap).recast (congrArg (wrA g) (by unfold stB; simp only [List.append_assoc]))⟩
set_option maxRecDepth 100000 in
theorem qvput_calls {x : StV} (hx : x.In) : Calls Try.prog 35 #[.agg x.cells.toArray] W fun e w' => ∃ A' m' c', e = .returned (.slice A' m' c') ∧ m' = (stB x).length ∧ St W w' [rowA 5 1 A' m' c' ((stB x).map bv)] := by
  have hS := St.init W
  obtain ⟨r1, r2, r3, r4, r5⟩ := id hx
  have y1 := enc_ten (zig_lt r1.1 r1.2)
  have y2 := enc_ten (zig_lt r2.1 r2.2)
  have y3 := enc_ten (zig_lt r3.1 r3.2)
  have y4 := enc_ten (n := x.at_.toNat) (by omega)
  have y5 := enc_ten (zig_lt r5.1 r5.2)
  refine calls_of_wpE (args := [_]) Try.func35 rfl rfl rfl ?_
  refine c_seq ?_
  refine c_region ?_
  refine t_box (v := (.agg _)) rfl rfl hS (fun g1 w hS => ?_)
  replace hS := hS.recast (show _ = blkA g1 35 [.int .i64 x.active, .int .i64 x.previous, .int .i64 x.pending, .int .u64 x.at_, .int .i64 x.shadow] from rfl)
  refine t_q (q_assign) ?_
  refine t_nil ?_
  refine c_seq ?_
  refine c_region ?_
  refine t_q (q_fieldAddr 0 Try.runUnderlying35 rfl Try.sizeOf3 (by decide) rfl rfl) ?_
  refine t_q (q_load1 Try.isAgg3 rfl (hS.cell (by repeat first | exact .here _ _ | assumption | apply Pick.there) rfl)) ?_
  refine t_call Try.call85 (qwInt (n := x.active) hS (by omega) (by omega)) rfl ?_
  rintro e w ⟨A6, n6, c6, rfl, hn6, hS⟩
  refine ⟨_, rfl, ?_⟩
  refine t_q (q_as (.slice _ _ _) rfl) ?_
  refine t_nil ?_
  refine c_seq ?_
  refine c_region ?_
  refine t_q (q_mv (.slice _ _ _) rfl) ?_
  refine t_q (q_fieldAddr 1 Try.runUnderlying35 rfl Try.sizeOf3 (by decide) rfl rfl) ?_
  refine t_q (q_load1 Try.isAgg3 rfl (hS.cell (by repeat first | exact .here _ _ | assumption | apply Pick.there) rfl)) ?_
  refine t_call Try.call85 (qwInt (n := x.previous) hS (by omega) (by omega)) rfl ?_
  rintro e w ⟨A10, n10, c10, rfl, hn10, hS⟩
  refine ⟨_, rfl, ?_⟩
  refine t_append_own (size := 1) (bytes := 1) Try.underlying74 (info_of Try.type5) rfl rfl rfl rfl (by decide) hS (by repeat first | exact .here _ _ | assumption | apply Pick.there) (by repeat first | exact .here _ _ | assumption | apply Pick.there) rfl rfl (by first | exact allOne_bv _ | exact allOne_ints _ _ | rfl) (by unfold maxLen; omega) (by omega) (fun A11 c11 w hS => ?_)
  replace hS := (hS.pick (A := rowA 5 1 A11 _ c11 _) (by repeat first | exact .here _ _ | assumption | apply Pick.there)).recast (show _ = rowA 5 1 A11 (n6 + n10) c11 ((enc (zig x.active) ++ enc (zig x.previous)).map bv) from by simp only [List.map_append])
  refine t_q (q_as (.slice _ _ _) rfl) ?_
  refine t_nil ?_
  refine c_seq ?_
  refine c_region ?_
  refine t_q (q_mv (.slice _ _ _) rfl) ?_
  refine t_q (q_fieldAddr 2 Try.runUnderlying35 rfl Try.sizeOf3 (by decide) rfl rfl) ?_
  refine t_q (q_load1 Try.isAgg3 rfl (hS.cell (by repeat first | exact .here _ _ | assumption | apply Pick.there) rfl)) ?_
  refine t_call Try.call85 (qwInt (n := x.pending) hS (by omega) (by omega)) rfl ?_
  rintro e w ⟨A15, n15, c15, rfl, hn15, hS⟩
  refine ⟨_, rfl, ?_⟩
  refine t_append_own (size := 1) (bytes := 1) Try.underlying74 (info_of Try.type5) rfl rfl rfl rfl (by decide) hS (by repeat first | exact .here _ _ | assumption | apply Pick.there) (by repeat first | exact .here _ _ | assumption | apply Pick.there) rfl rfl (by first | exact allOne_bv _ | exact allOne_ints _ _ | rfl) (by unfold maxLen; omega) (by omega) (fun A16 c16 w hS => ?_)
  replace hS := (hS.pick (A := rowA 5 1 A16 _ c16 _) (by repeat first | exact .here _ _ | assumption | apply Pick.there)).recast (show _ = rowA 5 1 A16 ((n6 + n10) + n15) c16 (((enc (zig x.active) ++ enc (zig x.previous)) ++ enc (zig x.pending)).map bv) from by simp only [List.map_append])
  refine t_q (q_as (.slice _ _ _) rfl) ?_
  refine t_nil ?_
  refine c_seq ?_
  refine c_region ?_
  refine t_q (q_mv (.slice _ _ _) rfl) ?_
  refine t_q (q_fieldAddr 3 Try.runUnderlying35 rfl Try.sizeOf26 (by decide) rfl rfl) ?_
  refine t_q (q_load1 Try.isAgg26 rfl (hS.cell (by repeat first | exact .here _ _ | assumption | apply Pick.there) rfl)) ?_
  refine t_call Try.call86 (qwNat (n := x.at_) hS (by omega) (by omega)) rfl ?_
  rintro e w ⟨A20, n20, c20, rfl, hn20, hS⟩
  refine ⟨_, rfl, ?_⟩
  refine t_append_own (size := 1) (bytes := 1) Try.underlying74 (info_of Try.type5) rfl rfl rfl rfl (by decide) hS (by repeat first | exact .here _ _ | assumption | apply Pick.there) (by repeat first | exact .here _ _ | assumption | apply Pick.there) rfl rfl (by first | exact allOne_bv _ | exact allOne_ints _ _ | rfl) (by unfold maxLen; omega) (by omega) (fun A21 c21 w hS => ?_)
  replace hS := (hS.pick (A := rowA 5 1 A21 _ c21 _) (by repeat first | exact .here _ _ | assumption | apply Pick.there)).recast (show _ = rowA 5 1 A21 ((n6 + n10 + n15) + n20) c21 ((((enc (zig x.active) ++ enc (zig x.previous)) ++ enc (zig x.pending)) ++ enc x.at_.toNat).map bv) from by simp only [List.map_append])
  refine t_q (q_as (.slice _ _ _) rfl) ?_
  refine t_nil ?_
  refine c_seq ?_
  refine c_region ?_
  refine t_q (q_mv (.slice _ _ _) rfl) ?_
  refine t_q (q_fieldAddr 4 Try.runUnderlying35 rfl Try.sizeOf3 (by decide) rfl rfl) ?_
  refine t_q (q_load1 Try.isAgg3 rfl (hS.cell (by repeat first | exact .here _ _ | assumption | apply Pick.there) rfl)) ?_
  refine t_call Try.call85 (qwInt (n := x.shadow) hS (by omega) (by omega)) rfl ?_
  rintro e w ⟨A25, n25, c25, rfl, hn25, hS⟩
  refine ⟨_, rfl, ?_⟩
  refine t_append_own (size := 1) (bytes := 1) Try.underlying74 (info_of Try.type5) rfl rfl rfl rfl (by decide) hS (by repeat first | exact .here _ _ | assumption | apply Pick.there) (by repeat first | exact .here _ _ | assumption | apply Pick.there) rfl rfl (by first | exact allOne_bv _ | exact allOne_ints _ _ | rfl) (by unfold maxLen; omega) (by omega) (fun A26 c26 w hS => ?_)
  replace hS := (hS.pick (A := rowA 5 1 A26 _ c26 _) (by repeat first | exact .here _ _ | assumption | apply Pick.there)).recast (show _ = rowA 5 1 A26 ((n6 + n10 + n15 + n20) + n25) c26 (((((enc (zig x.active) ++ enc (zig x.previous)) ++ enc (zig x.pending)) ++ enc x.at_.toNat) ++ enc (zig x.shadow)).map bv) from by simp only [List.map_append])
  refine t_q (q_as (.slice _ _ _) rfl) ?_
  refine t_nil ?_
  refine c_ret ?_
  refine r_one rfl rfl ?_
  exact ⟨A26, _, c26, rfl, (by unfold stB; simp only [List.length_append]; omega), (((hS.pick (A := rowA 5 1 A26 _ c26 _) (by repeat first | exact .here _ _ | assumption | apply Pick.there))).front1).recast (congrArg (rowA 5 1 A26 _ c26) (by unfold stB; simp only [List.append_assoc]))⟩
end Go.Proofs.Ytmgobaojioaioaa
